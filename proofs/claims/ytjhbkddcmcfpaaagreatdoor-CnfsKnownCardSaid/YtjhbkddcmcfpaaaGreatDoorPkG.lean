/- cnfs: propagate: its two outer loops, and its contract. Conditions: none. -/
import Derived.Test.YtjhbkddcmcfpaaaGreatDoorPkF
import Derived.Test.YtjhbkddcmcfpaaaGreatDoorPkE
import Derived.Test.YtjhbkddcmcfpaaaGreatDoorPkD
import Derived.KernelRfl
import Derived.Shelf.Strconv.Itoa3
import Derived.Shelf.Strconv.ErrVarAll
import Derived.Test.YtjhbkddcmcfpaaaGreatDoorProg
import Derived.Lib.LaidTab
import Derived.Stop.LaidErr
import Derived.ChangeMaps5
import Derived.RangeFuncNested
import Derived.RangeFuncBound
import Derived.RangeFuncLeaves
import Derived.Shelf.Abstract
import Derived.Shelf.RegionOpen
import Derived.WalkKit
import Derived.OwnWalkIn
import Derived.TacticsInMore
import Derived.LoopNIn
import Derived.LoopIn
import Derived.Shelf.Strings.BuilderX
import Derived.Shelf.RegionOpenPlain
import Derived.Lib.Strings
import Derived.Lib.Slices
import Derived.Lib.Walk
import Derived.Lib.Builder
import Derived.Lib.AppendStr
import Derived.Lib.UnsafeStr
import Derived.Lib.MakeNoZero
import Derived.Laws.Externs
import Derived.Laws.IdiomCopy
import Derived.Laws.BitsLemmas
set_option linter.unusedSimpArgs false
set_option linter.unusedVariables false
set_option maxRecDepth 100000
namespace Go.Lg
open Go Go.Proofs
variable {Γ:Tables}
structure qAw (f:Cf) (n:Nat):Prop where
 vn:f.vars=n
 nb:n<=1000000
 cl:q4I n f.L
 ll:f.cls.l.length<=1000000
 le:∀ c∈f.cls.l,c.l.length<=1000000
theorem qBx {Q:AX->St->Prop} (f:Cf) (n:Nat) (hf:qAw f n) (lim u:Int) (sp:Bool) (a0:List Int) (ha0:a0.length=n) (R:Bool×List Int×List Int×Bool)
  (h0:R.1=true->Q (.exit 2) ⟨[(0,.lp 1000000 0 0),(2,.ls 61 0 R.2.2.1.length none),(4,.t (.fn 37 [])),(5,.t (tB R.2.2.2)),(18,.t (B5 f.cls)),(19,.t (tI f.cls.l.length)),(20,.t (tI f.cls.l.length)),(21,.t (tB false))],hP f lim u sp R.2.1 R.2.2.1⟩)
  (h1:R.1=false->Q .ret ⟨[(2,.t (.sl (Bc R.2.2.1) none none)),(3,.t (tB false))],hS f lim u sp R.2.1⟩) :
  ∀ (k i:Nat),k+i=f.cls.l.length->∀ (a tr:List Int) (ag:Bool),Rl n a0 a tr->H9 a tr ag (f.L.drop i)=R ->
  run Tryz.prog Γ Dv Q ⟨[(0,.lp 1000000 0 0),(2,.ls 61 0 tr.length none),(4,.t (.fn 37 [])),(5,.t (tB ag)),(18,.t (B5 f.cls)),(19,.t (tI f.cls.l.length)),(20,.t (tI i))],hP f lim u sp a tr⟩
 | 0,i,h,a,tr,ag,hp,hR=>by
  refine Ih fun K hK=>?_
  have h2:i=f.cls.l.length:=by omega
  subst h2
  rw[List.drop_eq_nil_of_le (by simp[Cf.L])]at hR
  simp only[H9]at hR
  subst hR
  have h0:=h0 rfl
  simp[B5,hP,hS]at h0 ⊢
  simpa using h0
 | k+1,i,h,a,tr,ag,hp,hR=>by
  refine Ih fun K hK=>?_
  have h2:i<f.cls.l.length:=by omega
  have hnb:=hf.nb
  have hll:=hf.ll
  have e1:=elC (f:=Bh) Sl.d h2
  have e1':=Qi (f:=Bh) Sl.d h2
  have w1:IntKind.i64.wrap ((i:Int)+1)=(i:Int)+1:=by rw[A5]<;>omega
  have hmem:=Dp (d:=Sl.d) h2
  have hce:=hf.le _ hmem
  have hcok:∀ l∈(f.cls.l.getD i Sl.d).l,Dk n l:=hf.cl _ (List.mem_map.2 ⟨_,hmem,rfl⟩)
  have hd:f.L.drop i=(f.cls.l.getD i Sl.d).l::f.L.drop (i+1):=by
   have hi:i<f.L.length:=by simpa[Cf.L]using h2
   rw[List.drop_eq_getElem_cons hi,List.getD_eq_getElem?_getD,List.getElem?_eq_getElem h2]
   simp[Cf.L]
  rw[hd]at hR
  simp only[H9]at hR
  have ih:=fun a tr ag=>qBx f n hf lim u sp a0 ha0 R h0 h1 k (i+1) (by omega) a tr ag
  generalize f.cls.l.getD i Sl.d=c at *
  have ec:Bh c=.sl (Bc c.l) c.cap c.nl:=rfl
  obtain⟨s1,s2,s3,s4,_⟩:=P8 hp.v3 c.l 0 0 false (by omega)
  obtain⟨o,la,d,hSc⟩:∃ o la d,Ef a c.l 0 0 false=(o,la,d):=⟨_,_,_,rfl⟩
  rw[hSc]at hR s1 s2 s3 s4
  simp only at hR s1 s2 s3 s4
  have g:=fun Q h0=>qBw (Γ:=Γ) (Q:=Q) f lim u sp ag a tr (by rw[hp.ln];omega) hp.v3 c (by omega) (by rw[hp.ln];exact hcok) (.t (tI f.cls.l.length)) (.t (tI i)) (o,la,d) h0 c.l.length 0 (by omega) 0 0 false (by omega) (by omega) hSc
  simp[Bh,B5,hP,hS]at g
  simp[B5,hP,hS,A3,Aa,h2,e1,e1',ec]
  refine g _ ?_
  by_cases hdo:d=true\/o > 1
  ·rw[if_pos hdo]at hR
   have ih:=ih a tr ag hp hR
   simp[B5,hP,hS]at ih
   cases d with
   | true =>
    simp[w1]
    rw[hK]
    simpa using ih
   | false =>
    have ho:o > 1:=by simpa using hdo
    simp[w1,ho]
    rw[hK]
    simpa using ih
  ·rw[if_neg hdo]at hR
   have hdf:d=false:=by
    cases d with
    | true=>exact absurd (.inl rfl) hdo
    | false=>rfl
   have ho1:¬ 1<o:=fun e=>hdo (.inr e)
   subst hdf
   by_cases ho:o=0
   ·rw[if_pos ho]at hR
    subst ho
    subst hR
    have h1:=h1 rfl
    simp[B5,hP,hS]at h1
    simp[St.freeze,Aj.closed,Ce,frz1,frz0,Hl,del,Aq]
    simpa using h1
   ·rw[if_neg ho]at hR
    have ho2:o=1:=by omega
    obtain⟨_,j2,j3⟩:=s4 ho2
    obtain⟨j4,j5⟩:=j2 trivial
    have hla:=hcok la j4
    have hp2:=hp.sat hla j5
    have hle:=hp2.le
    have hcnt:a0.count 2<=a0.length:=List.count_le_length
    simp only[List.length_append,List.length_cons,List.length_nil]at hle
    have ih:=ih (Z2 a la) (tr++[la]) true hp2 hR
    have hsat:=q7c (Γ:=Γ) a la (by rw[hp.ln];exact hla) (by rw[hp.ln];omega)
    have hcl:(Z2 a la).length=a.length:=by simp[Z2]
    have hap:Bc tr++[[tI la]]=Bc (tr++[la]):=Eu
    simp[B5,hP,hS,hcl]at ih
    simp[ho1,ho]
    refine⟨_,_,hsat,?_⟩
    simp[List.idxOf_cons,Fp,w1,hap,A3]
    refine⟨by omega,?_⟩
    rw[hK]
    first|refine⟨⟨Aa (f:=tI) (l:=[la]),by omega⟩,?_⟩|refine⟨by omega,?_⟩
    simpa using ih
theorem qBy {Q:AX->St->Prop} (f:Cf) (n:Nat) (hf:qAw f n) (lim u:Int) (sp:Bool) (a0:List Int) (ha0:a0.length=n) (R:Bool×List Int×List Int)
  (h0:R.1=true->Q (.exit 0) ⟨[(0,.lp 1000000 0 0),(2,.ls 61 0 R.2.2.length none),(4,.t (.fn 37 [])),(13,.t (tB false))],hP f lim u sp R.2.1 R.2.2⟩)
  (h1:R.1=false->Q .ret ⟨[(2,.t (.sl (Bc R.2.2) none none)),(3,.t (tB false))],hS f lim u sp R.2.1⟩) :
  ∀ (F:Nat) (a tr:List Int),Rl n a0 a tr->a.count 2<F->Ha f.L F a tr=R ->
  run Tryz.prog Γ Dw Q ⟨[(0,.lp 1000000 0 0),(2,.ls 61 0 tr.length none),(4,.t (.fn 37 [])),(5,.t (tB true))],hP f lim u sp a tr⟩
 | 0,a,tr,hp,hF,hR=>by omega
 | F+1,a,tr,hp,hF,hR=>by
  refine Ii fun K hK=>?_
  obtain⟨i1,i2,i3,i4,i5,i6⟩:=Y5 (ag:=false) hf.cl hp
  simp only[Ha]at hR
  have ih:=fun a tr=>qBy f n hf lim u sp a0 ha0 R h0 h1 F a tr
  obtain⟨ok,a2,tr2,ag,hPs⟩:∃ ok a2 tr2 ag,H9 a tr false f.L=(ok,a2,tr2,ag):=⟨_,_,_,_,rfl⟩
  rw[hPs]at hR i1 i2 i3 i4 i5 i6
  simp only at hR i1 i2 i3 i4 i5 i6
  have g:=fun Q h0 h1=>qBx (Γ:=Γ) (Q:=Q) f n hf lim u sp a0 ha0 (ok,a2,tr2,ag) h0 h1 f.cls.l.length 0 (by omega) a tr false hp hPs
  simp[B5,hP,hS]at g
  simp[B5,hP,hS,A3]
  cases ok with
  | false =>
   simp at hR
   subst hR
   have h1:=h1 rfl
   simp[B5,hP,hS]at h1
   simp at g
   refine g _ ?_
   simpa using h1
  | true =>
   simp at hR g
   refine g _ ?_
   simp
   rw[hK]
   cases ag with
   | true =>
    have hlt:=i5 rfl trivial
    have h7:=i1.le
    have h8:=hp.le
    have ih:=ih a2 tr2 i1 (by omega) (by simpa using hR)
    simp[B5,hP,hS]at ih
    simpa using ih
   | false =>
    have hR:(true,a2,tr2)=R:=by simpa using hR
    subst hR
    have h0:=h0 rfl
    simp[B5,hP,hS]at h0
    refine Ii fun K2 hK2=>?_
    simp
    simpa using h0
theorem qIu (f:Cf) (n:Nat) (hf:qAw f n) (lim u:Int) (sp:Bool) (a:List Int) (ha:a.length=n) (hv:CV3 a):Bl Tryz.prog Γ 38 (hS f lim u sp a) [.lp 1000000 0 0]
  (.t (.tup [.sl (Bc (Ha f.L (a.count 2+1) a []).2.2) none none,tB (Ha f.L (a.count 2+1) a []).1])) (hS f lim u sp (Ha f.L (a.count 2+1) a []).2.1):=by
 refine N4 Ue rfl ?_
 obtain⟨ok,a2,tr2,hPs⟩:∃ ok a2 tr2,Ha f.L (a.count 2+1) a []=(ok,a2,tr2):=⟨_,_,_,rfl⟩
 have g:=fun Q h0 h1=>qBy (Γ:=Γ) (Q:=Q) f n hf lim u sp a ha (ok,a2,tr2) h0 h1 (a.count 2+1) a [] ⟨hv,ha,rfl,(fun l hl=>by cases hl),by simp⟩ (by omega) hPs
 rw[hPs]
 simp[B5,hP,hS]at g
 simp[Ln,B5,hS]
 cases ok with
 | true =>
  simp at g
  refine g _ ?_
  simp[St.freeze,Aj.closed,Ce,frz1,frz0,Hl,del,Aq,Gg]
 | false =>
  simp at g
  refine g _ ?_
  simp[Gg]
end Go.Lg
namespace Go.Lg
open Go
section
variable {P:Program} {Γ:Tables} {Q:AX->St->Prop} {s:St}
/- (*probecard/cnfs.solver).visit (function 27) -/
abbrev Q7:IC:=.gh (.seq (.seq (.reg [om 16 5,od 17 (ld 1 1),od 18 (.nck (tm 17)),od 19 (fa 0 18),od 20 (fa 0 19),od 21 (ld 1 20),od 22 (.bin .leq (tm 16) (tm 21)),om 23 22,oT 24 (ld 1 1) 23,oT 25 (.nck (tm 24)) 23,oT 26 (fa 2 25) 23,
 oT 27 (ld 1 26) 23,oT 28 (.mv (tm 5)) 23,oT 29 (.bin .sub (tm 28) (ki 1)) 23,oT 30 (ia 1 27 29) 23,oT 31 (ld 1 30) 23,oT 32 (.bin .neq (tm 31) (ku 2)) 23,od 33 (.pick (tm 23) (tm 32) kF)] [kp [1,2,5,13,33] [1,2,3,
 1000000,1000001]]) (.cond (tm 33) .skip (.exit 0))) (.block 1 (.reg [om 34 5,od 35 (.bin .add (tm 34) (ki 1)),om 5 35] [kp [1,2,5,13] [1,2,3,1000000,1000001]]))) [kp [1,2,5,13] [1,2,3,1000000,1000001]]
def G8:IC:=.loop Q7
abbrev Q8:IC:=.gh (.seq (.reg [od 67 (.bin .lss (tm 66) (ki 2))] [kp [1,2,5,13,65,66,67] [1,2,3,1000000,1000001]]) (.seq (.cond (tm 67) .skip (.exit 2)) (.seq (.block 3 (.seq (.reg [od 68 (.idxA 2 1 false (tm 65) (tm 66)),om 7 68] [kp
 [1,2,5,7,13,65,66] [1,2,3,1000000,1000001]]) (.seq (.reg [od 69 (ld 1 1),od 70 (.nck (tm 69)),od 71 (fa 2 70),od 72 (ld 1 71),om 73 7,od 74 (.hcall 41 [(tm 72),(tm 73)] [1000001] 74000)] [kp [1,2,5,13,65,66]
 [1,2,3,1000000,1000001]]) (.seq (.seq (.reg [od 75 (ld 1 1),od 76 (.hcall 27 [(tm 75)] [1000000,1000001] 76000)] [kp [1,2,5,13,65,66,76] [1,2,3,1000000,1000001]]) (.cond (tm 76) (.seq (.reg [on (.store 1 (tm 2) kT)]
 [kp [2,13] [1,2,3,1000000,1000001]]) .ret) .skip)) (.seq (.reg [od 77 (ld 1 1),od 78 (.nck (tm 77)),od 79 (fa 2 78),od 80 (ld 1 79),om 81 5,od 82 (.bin .sub (tm 81) (ki 1)),od 83 (ia 1 80 82),on (.store 1 (tm 83) (ku
 2))] [kp [1,2,5,13,65,66] [1,2,3,1000000,1000001]]) (.seq (.reg [od 84 (ld 1 1),od 85 (.nck (tm 84)),od 86 (fa 5 85),od 87 (ld 1 86)] [kp [1,2,5,13,65,66,87] [1,2,3,1000000,1000001]]) (.cond (tm 87) (.seq
 (.reg [on (.store 1 (tm 2) kF)] [kp [2,13] [1,2,3,1000000,1000001]]) .ret) .skip))))))) (.reg [od 88 (.bin .add (tm 66) (ki 1)),om 66 88] [kp [1,2,5,13,65,66] [1,2,3,1000000,1000001]])))) [kp [1,2,5,13,65,66]
 [1,2,3,1000000,1000001]]
def E5:IC:=.loop Q8
abbrev q02:IC:=(.reg [od 1 (.box false (tm 0)),od 2 (.alloc false [(.bool false)])] [kp [1,2,13] [1,2,3,1000000,1000001]])
abbrev q03:IC:=(.reg [od 9 (ld 1 1),od 10 (.hcall 38 [(tm 9)] [1000000,1000001] 10000),om 8 10,od 11 (ex 8 0),od 12 (ex 8 1),od 3 (.alloc false [(.slice none 0 0)]),on (.store 1 (tm 3) (tm 11)),om 4 12] [kp [1,2,3,4,13] [1,2,3,
 1000000,1000001]])
abbrev q04:IC:=(.seq (.reg [om 14 4,od 15 (.un .not (tm 14))] [kp [1,2,13,15] [1,2,3,1000000,1000001]]) (.cond (tm 15) (.seq (.reg [on (.store 1 (tm 2) kF)] [kp [2,13] [1,2,3,1000000,1000001]]) .ret) .skip))
abbrev q05:IC:=(.reg [od 5 (.mv (ki 1))] [kp [1,2,5,13] [1,2,3,1000000,1000001]])
abbrev q06:IC:=(.block 0 G8)
abbrev q07:IC:=(.seq (.reg [om 36 5,od 37 (ld 1 1),od 38 (.nck (tm 37)),od 39 (fa 0 38),od 40 (fa 0 39),od 41 (ld 1 40),od 42 (.bin .gtr (tm 36) (tm 41))] [kp [1,2,5,13,42] [1,2,3,1000000,1000001]]) (.cond (tm 42) (.seq (.reg [on
 (.store 1 (tm 2) kT)] [kp [2,13] [1,2,3,1000000,1000001]]) .ret) .skip))
abbrev q08:IC:=(.seq (.reg [od 43 (ld 1 1),od 44 (.nck (tm 43)),od 45 (fa 4 44),od 46 (ld 1 45),od 47 (ld 1 1),od 48 (.nck (tm 47)),od 49 (fa 3 48),od 50 (ld 1 49),od 51 (.bin .eql (tm 46) (tm 50))] [kp [1,2,5,13,51] [1,2,3,
 1000000,1000001]]) (.cond (tm 51) (.seq (.reg [od 52 (ld 1 1),od 53 (.nck (tm 52)),od 54 (fa 5 53),on (.store 1 (tm 54) kT)] [kp [2,13] [1,2,3,1000000,1000001]]) (.seq (.reg [on (.store 1 (tm 2) kF)] [kp [2,13] [1,2,3,
 1000000,1000001]]) .ret)) .skip))
abbrev q09:IC:=(.reg [od 55 (ld 1 1),od 56 (.nck (tm 55)),od 57 (fa 4 56),od 58 (ld 1 57),od 59 (.bin .add (tm 58) (ki 1)),od 60 (.nck (tm 55)),od 61 (fa 4 60),on (.store 1 (tm 61) (tm 59))] [kp [1,2,5,13] [1,2,3,1000000,1000001]])
abbrev q0A:IC:=(.seq (.reg [om 62 5,od 63 (.un .neg (tm 62)),om 64 5,od 65 (.build [(1,(tm 63)),(1,(tm 64))]),od 66 (.mv (ki 0))] [kp [1,2,5,13,65,66] [1,2,3,1000000,1000001]]) (.block 2 E5))
abbrev Z3:IC:=(.reg [on (.store 1 (tm 2) kF)] [kp [2,13] [1,2,3,1000000,1000001]])
theorem Lo (h:∀ K:St->Prop,K=run P Γ G8 Q->run P Γ Q7 (B1 K Q) s):run P Γ G8 Q s:=Au h
theorem Lp (h:∀ K:St->Prop,K=run P Γ E5 Q->run P Γ Q8 (B1 K Q) s):run P Γ E5 Q s:=Au h
def E6:List RV:=[.cell 2 1 false]
end
end Go.Lg
namespace Go.Lg
open Go Go.Proofs
variable {Γ:Tables}
abbrev qLW:IC:=.seq q04 (.seq q05 (.seq q06 (.seq q07 (.seq q08 (.seq q09 (.seq q0A (.seq Z3 .ret)))))))
theorem qAx:qHp Tryz.prog 27 q02 q03 qLW 89 1 E6 13 39 [.tmp 2,.tmp 1,.tmp 3]=true:=by kernel_rfl
abbrev hV (f:Cf) (lim u:Int) (sp:Bool) (a:List Int) (fd:Bool) (tr:T):List (Nat×Aj):=(1,.bx [.lp 1000000 0 0])::(2,.bx [.t (tB fd)])::(3,.bx [.t tr])::hS f lim u sp a
abbrev q8B:AV:=.fn 39 [.lp 2 0 0,.lp 1 0 0,.lp 3 0 0]
abbrev hU (f:Cf) (lim u:Int) (sp:Bool) (n:Nat) (a:List Int) (fd:Bool) (tr:T):List (Nat×Aj):=[(1000000,.bx [.t (tB fd)]),(1000001,.bx [.lp 1000003 0 0]),(1000002,.bx [.t tr]),(1000003,.bx [.t (tI f.vars),.t (B5 f.cls),.ls 1000004 0 n none,.t (tI lim),.t (tI u),.t (tB sp)]),(1000004,.sl 41 1 (Da a))]
theorem qGI (f:Cf) (lim u:Int) (sp:Bool) (a:List Int) (hn:a.length<=1000000000) (tr:Sl Int) (htr:tr.l.length<=1000000000) (hok:∀ l∈tr.l,Dk a.length l) (fd:Bool) :
  q81 Tryz.prog Γ 39 (hU f lim u sp a.length a fd (Bh tr))
   [.lp 1000000 0 0,.lp 1000001 0 0,.lp 1000002 0 0]
   (hU f lim u sp a.length (if fd then a else Dl a tr.l) fd (Bh tr)):=by
 refine qDk (res:=.t (.tup [])) We rfl (Em ?_)
 have hu:=qIt (Γ:=Γ) f lim u sp a hn tr htr hok
 simp[hS,B5,Bh]at hu
 cases fd with
 | true =>
  simp[Hv,Hw,q0w,Vj]
  exact⟨True,trivial⟩
 | false =>
  simp[Hv,B5,Bh]
  refine⟨_,_,hu,?_⟩
  simp[List.idxOf_cons,Fp,Hw,q0w,Vj,A3,q3Z]
  first|exact⟨True,trivial⟩|exact⟨⟨True,trivial⟩,rfl⟩
theorem qGJ (f:Cf) (lim u:Int) (sp:Bool) (a:List Int) (hn:a.length<=1000000000) (tr:Sl Int) (htr:tr.l.length<=1000000000) (hok:∀ l∈tr.l,Dk a.length l) (fd:Bool) :
  q9C Tryz.prog Γ E6 13 39 (tB fd) [1000000,1000001] (hS f lim u sp (if fd then a else Dl a tr.l)) .ret ⟨[(2,.lp 2 0 0),(13,q8B)],hV f lim u sp a fd (Bh tr)⟩:=by
 have hd:=qGI (Γ:=Γ) f lim u sp a hn tr htr hok fd
 have hlen:(if fd then a else Dl a tr.l).length=a.length:=by split<;>simp[q3Z]
 generalize hb:(if fd then a else Dl a tr.l)=b at *
 refine⟨q8B,[.lp 2 0 0,.lp 1 0 0,.lp 3 0 0],[2,1,3,1000000,1000001],0,hU f lim u sp a.length b fd (Bh tr),rfl,rfl,by decide,?_,?_,?_⟩
 ·exact hd
 ·simp[hV,hS,List.idxOf_cons,A3,hlen]
 ·simp[hV,hS,List.idxOf_cons,Fp,E6,Vj,hlen]
  exact⟨True,trivial⟩
theorem qEf {Q:AX->St->Prop} (f:Cf) (n:Nat) (hf:qAw f n) (lim u:Int) (sp fd:Bool) (tr:T) (a:List Int) (ha:a.length=n)
  (h0:Q (.exit 0) ⟨[(1,.lp 1 0 0),(2,.lp 2 0 0),(5,.t (tI (Ku a+1))),(13,q8B),(33,.t (tB false))],hV f lim u sp a fd tr⟩):∀ (k j:Nat),k+j=n->Ku a=j+Ku (a.drop j) ->
  run Tryz.prog Γ G8 Q ⟨[(1,.lp 1 0 0),(2,.lp 2 0 0),(5,.t (tI ((j:Int)+1))),(13,q8B)],hV f lim u sp a fd tr⟩
 | 0,j,h,hj=>by
  refine Lo fun K hK=>?_
  have h2:j=n:=by omega
  subst h2
  have hvn:=hf.vn
  rw[List.drop_eq_nil_of_le (by omega)]at hj
  have hj:Ku a=j:=by simpa[Ku]using hj
  rw[hj]at h0
  have h3:¬ ((j:Int)+1<=j):=by omega
  simp[hV,hS,hvn]at h0
  simp[hV,hS,hvn,h3]
  simpa using h0
 | k+1,j,h,hj=>by
  refine Lo fun K hK=>?_
  have hvn:=hf.vn
  have hnb:=hf.nb
  have h2:j<a.length:=by omega
  have e1:=elC (f:=tK) 0 h2
  have e1':=Qi (f:=tK) 0 h2
  have hd:a.drop j=a.getD j 0::a.drop (j+1):=by
   rw[List.getD_eq_getElem?_getD,List.getElem?_eq_getElem h2];exact List.drop_eq_getElem_cons h2
  rw[hd]at hj
  simp only[Ku]at hj
  have h3:(j:Int)+1<=n:=by omega
  have w1:IntKind.i64.wrap ((j:Int)+1-1)=j:=by rw[A5]<;>omega
  have w1':IntKind.i64.wrap (j:Int)=j:=by rw[A5]<;>omega
  have w2:IntKind.i64.wrap ((j:Int)+1+1)=(j:Int)+1+1:=by rw[A5]<;>omega
  have ih:=qEf f n hf lim u sp fd tr a ha h0 k (j+1) (by omega)
  generalize a.getD j 0=x at *
  by_cases hx:x=2
  ·rw[if_pos hx]at hj
   subst hx
   have hj:Ku a=j:=by omega
   rw[hj]at h0
   simp[hV,hS,hvn]at h0
   simp[hV,hS,hvn,h3,w1,w1',A3,Aa,h2,e1,e1']
   simpa using h0
  ·rw[if_neg hx]at hj
   have ih:=ih (by omega)
   simp[hV,hS,hvn]at ih
   simp[hV,hS,hvn,h3,w1,w1',w2,A3,Aa,h2,e1,e1',hx]
   rw[hK]
   simpa using ih
abbrev qLX (v:Nat):AV:=.ag [.t (tI (-((v:Int)+1))),.t (tI ((v:Int)+1))]
theorem q9V {Q:AX->St->Prop} (f:Cf) (n:Nat) (hf:qAw f n) (lim u:Int) (a:List Int) (ha:a.length=n) (v:Nat) (hv:v<n) (q:Nat) (hq:q<2) (x:Int) (hx:x=if q=0 then 0 else 1) (tr:T) (r:Bool×List Int×Int×Bool)
  (hc:Bl Tryz.prog Γ 27 (hS f lim u false (a.set v x)) [.lp 1000000 0 0] (.t (tB r.1)) (hS f lim r.2.2.1 r.2.2.2 r.2.1)) (hrl:r.2.1.length=n)
  (h1:r.1=true->Q .ret ⟨[(2,.lp 2 0 0),(13,q8B)],hV f lim r.2.2.1 r.2.2.2 r.2.1 true tr⟩)
  (h2:r.1=false->r.2.2.2=true->Q .ret ⟨[(2,.lp 2 0 0),(13,q8B)],hV f lim r.2.2.1 true (r.2.1.set v 2) false tr⟩)
  (h3:r.1=false->r.2.2.2=false->run Tryz.prog Γ E5 Q ⟨[(1,.lp 1 0 0),(2,.lp 2 0 0),(5,.t (tI ((v:Int)+1))),(13,q8B),(65,qLX v),(66,.t (tI ((q:Int)+1)))],hV f lim r.2.2.1 false (r.2.1.set v 2) false tr⟩) :
  run Tryz.prog Γ E5 Q ⟨[(1,.lp 1 0 0),(2,.lp 2 0 0),(5,.t (tI ((v:Int)+1))),(13,q8B),(65,qLX v),(66,.t (tI q))],hV f lim u false a false tr⟩:=by
 refine Lp fun K hK=>?_
 have hnb:=hf.nb
 have hsat:Bl Tryz.prog Γ 41 [(1000000,.sl 41 1 (Da a))] [.ls 1000000 0 a.length none,.t (tI (if q=0 then -((v:Int)+1) else(v:Int)+1))] (.t (.tup [])) [(1000000,.sl 41 1 (Da (a.set v x)))]:=by
  have e:a.set v x=Z2 a (if q=0 then -((v:Int)+1) else(v:Int)+1):=by
   unfold Z2 Fz
   by_cases q0:q=0
   ·have:(-(-((v:Int)+1))-1).toNat=v:=by omega
    simp only[q0,if_true,hx]
    rw[if_pos (by omega),if_pos (by omega),this]
   ·have:((v:Int)+1-1).toNat=v:=by omega
    simp only[q0,if_false,hx]
    rw[if_neg (by omega),if_neg (by omega),this]
  rw[e]
  exact q7c a _ (by unfold Dk;split<;>omega) (by omega)
 have wq:IntKind.i64.wrap ((q:Int)+1)=(q:Int)+1:=by rw[A5]<;>omega
 have wv:IntKind.i64.wrap (v:Int)=v:=by rw[A5]<;>omega
 have hle:(a.set v x).length=a.length:=by simp
 obtain⟨fd,b,u2,sp2⟩:=r
 simp only at hc hrl h1 h2 h3
 have hset:(Da b).set v [tK 2]=Da (b.set v 2):=S5
 have hvb:v<b.length:=by omega
 have hvb2:(v:Int)<b.length:=by omega
 have hq2:q=0\/q=1:=by omega
 generalize hb0:a.set v x=a2 at *
 simp[hS]at hc
 rcases hq2 with rfl|rfl
 ·simp[hV,hS]
  simp at hsat wq
  refine⟨_,_,hsat,?_⟩
  simp[List.idxOf_cons,Fp,A3,hle]
  rw[hle]at hc
  refine⟨_,_,hc,?_⟩
  cases fd with
  | true =>
   have h1:=h1 rfl
   simp[hV,hS,hrl]at h1
   simp[List.idxOf_cons,Fp,A3,hrl,ha]
   exact⟨hle.trans ha,by simpa using h1⟩
  | false =>
   cases sp2 with
   | true =>
    have h2:=h2 rfl rfl
    simp[hV,hS,hrl]at h2
    simp[List.idxOf_cons,Fp,A3,Aa,wv,hset,hvb,hvb2,hrl,ha]
    exact⟨hle.trans ha,hv,by simpa using h2⟩
   | false =>
    have h3:=h3 rfl rfl
    simp[hV,hS,hrl]at h3
    simp[List.idxOf_cons,Fp,A3,Aa,wv,wq,hset,hvb,hvb2,hrl,ha]
    rw[hK]
    exact⟨hle.trans ha,hv,by simpa using h3⟩
 ·simp[hV,hS]
  simp at hsat wq
  refine⟨_,_,hsat,?_⟩
  simp[List.idxOf_cons,Fp,A3,hle]
  rw[hle]at hc
  refine⟨_,_,hc,?_⟩
  cases fd with
  | true =>
   have h1:=h1 rfl
   simp[hV,hS,hrl]at h1
   simp[List.idxOf_cons,Fp,A3,hrl,ha]
   exact⟨hle.trans ha,by simpa using h1⟩
  | false =>
   cases sp2 with
   | true =>
    have h2:=h2 rfl rfl
    simp[hV,hS,hrl]at h2
    simp[List.idxOf_cons,Fp,A3,Aa,wv,hset,hvb,hvb2,hrl,ha]
    exact⟨hle.trans ha,hv,by simpa using h2⟩
   | false =>
    have h3:=h3 rfl rfl
    simp[hV,hS,hrl]at h3
    simp[List.idxOf_cons,Fp,A3,Aa,wv,wq,hset,hvb,hvb2,hrl,ha]
    rw[hK]
    exact⟨hle.trans ha,hv,by simpa using h3⟩
theorem qBz (f:Cf) (n:Nat) (hf:qAw f n) (lim:Int) (hlim:lim<=1000000000):∀ (F:Nat) (a:List Int) (u:Int),CV3 a->a.length=n->a.count 2<F->0<=u->u<=lim ->
  Bl Tryz.prog Γ 27 (hS f lim u false a) [.lp 1000000 0 0] (.t (tB (C7 f.L lim F a u).1)) (hS f lim (C7 f.L lim F a u).2.2.1 (C7 f.L lim F a u).2.2.2 (C7 f.L lim F a u).2.1)
 | 0,a,u,h3,hn,hF,hu0,hu=>by omega
 | F+1,a,u,h3,hn,hF,hu0,hu=>by
  obtain⟨p1,p2,p3,p4⟩:=Y6 hf.cl (f:=a.count 2+1) (a0:=a) (a:=a) (tr:=[]) ⟨h3,hn,rfl,(fun l hl=>by cases hl),by simp⟩ (by omega)
  have hnb:=hf.nb
  have hvn:=hf.vn
  have hpr:=qIu (Γ:=Γ) f n hf lim u false a hn h3
  have ihv:=fun a u=>qBz f n hf lim hlim F a u
  simp only[C7]
  generalize Ha f.L (a.count 2+1) a []=p at *
  obtain⟨ok,a1,tr⟩:=p
  simp only at p1 p2 p3 p4 hpr ⊢
  have hl1:=p1.ln
  have htl:tr.length<=1000000000:=by
   have:=p1.le
   have h5:a.count 2<=a.length:=List.count_le_length
   omega
  have hend:=fun u sp b (hb:b.length=n) fd=>qGJ (Γ:=Γ) f lim u sp b (by omega) ⟨tr,none,none⟩ htl (by rw[hb];exact p1.ok) fd
  have hun:=p1.un
  refine qFp (gs:=[kp [1,2,4,13] [1,2,3,1000000,1000001]]) (ids:=[1000000,1000001]) qAx rfl ?_
  generalize hr:(if ok=false then(false,Dl a1 tr,u,false)else _)=r
  have hQ:∀ (u':Int) (sp':Bool) (b:List Int) (fd:Bool),b.length=n->r=(fd,if fd then b else Dl b tr,u',sp') ->
    q9C Tryz.prog Γ E6 13 39 (tB r.1) [1000000,1000001] (hS f lim r.2.2.1 r.2.2.2 r.2.1) .ret ⟨[(2,.lp 2 0 0),(13,q8B)],hV f lim u' sp' b fd (.sl (Bc tr) none none)⟩:=fun u' sp' b fd hb he=>by
   rw[he];exact hend u' sp' b hb fd
  generalize hQQ:q9C Tryz.prog Γ E6 13 39 (tB r.1) [1000000,1000001] (hS f lim r.2.2.1 r.2.2.2 r.2.1)=QQ at *
  refine Ai (Em (Q:=fun e s=>e=.normal/\run Tryz.prog Γ qLW QQ s) ?_) (fun e s ⟨h1,h2⟩=>⟨h1,Em h2⟩)
  simp[hS]at hpr
  simp[hS]
  refine⟨_,_,hpr,?_⟩
  simp[List.idxOf_cons,Fp,hl1,hn,A3]
  cases ok with
  | false =>
   simp at hr
   have hQ:=hQ u false a1 false hl1 hr.symm
   simp[hV,hS,hl1]at hQ
   simp[Dy]
   simpa using hQ
  | true =>
   simp at hr
   obtain⟨o1,o2⟩:=Y7 (a:=a1)
   have g:=fun Q h0=>qEf (Γ:=Γ) (Q:=Q) f n hf lim u false false (.sl (Bc tr) none none) a1 hl1 h0 n 0 (by omega) (by simp)
   simp[hV,hS,hl1]at g
   simp[Dy]
   refine g _ ?_
   generalize Ku a1=v at *
   by_cases hv:n<=v
   ·rw[hl1,if_pos hv]at hr
    have hQ:=hQ u false a1 true hl1 hr.symm
    simp[hV,hS,hl1]at hQ
    have h5:(n:Int)<(v:Int)+1:=by omega
    simp[hvn,h5]
    simp[hvn]at hQ
    simpa using hQ
   ·rw[hl1,if_neg hv]at hr
    have hvlt:v<a1.length:=by omega
    have hvn2:v<n:=Nat.lt_of_not_le hv
    have h2:=o2 hvlt
    have h5:¬ (n:Int)<(v:Int)+1:=by omega
    have hle:a1.count 2<=a.count 2:=by have:=p1.le;omega
    have c0:=Jy (x:=0) h2 hvlt (by decide)
    have c1:=Jy (x:=1) h2 hvlt (by decide)
    by_cases hul:u=lim
    ·rw[if_pos hul]at hr
     have hQ:=hQ u true a1 false hl1 hr.symm
     simp[hV,hS,hl1,hvn]at hQ
     simp[hvn,h5,hul]
     simp[hul]at hQ
     simpa using hQ
    ·rw[if_neg hul]at hr
     have wu:IntKind.i64.wrap (u+1)=u+1:=by rw[A5]<;>omega
     have wv:IntKind.i64.wrap (-((v:Int)+1)) = -((v:Int)+1):=by rw[A5]<;>omega
     have vok1:=Hg hf.cl (lim:=lim) (f:=F) (a:=a1.set v 0) (u:=u+1) (p1.v3.set _ (.inl rfl)) (by simp[hl1]) (by omega) (by omega)
     have hc1:=ihv (a1.set v 0) (u+1) (p1.v3.set _ (.inl rfl)) (by simp[hl1]) (by omega) (by omega) (by omega)
     have hstep1:=fun Q hb h1 h2 h3=>q9V (Γ:=Γ) (Q:=Q) f n hf lim (u+1) a1 hl1 v hvn2 0 (by decide) 0 (by simp) (.sl (Bc tr) none none) (C7 f.L lim F (a1.set v 0) (u+1)) hc1 hb h1 h2 h3
     generalize C7 f.L lim F (a1.set v 0) (u+1)=r1 at *
     obtain⟨f1,b1,u1,s1⟩:=r1
     simp only at hr
     have hb1:b1.length=n:=by
      cases f1 with
      | true=>exact(vok1.tot rfl).2.1
      | false=>have:=vok1.back rfl;simp only at this;rw[this];simp[hl1]
     have hstep1:=fun Q=>hstep1 Q hb1
     simp[hV,hS,hvn,hl1]at hstep1
     simp[hvn,h5,hul,wu,wv]
     refine hstep1 _ (fun e=>?_) (fun e e2=>?_) (fun e e2=>?_)
     ·subst e
      simp at hr
      have hQ:=hQ u1 s1 b1 true hb1 hr.symm
      simp[hV,hS,hvn]at hQ
      simpa using hQ
     ·subst e;subst e2
      simp at hr
      have hQ:=hQ u1 true (b1.set v 2) false (by simp[hb1]) hr.symm
      simp[hV,hS,hvn]at hQ
      simpa using hQ
     ·subst e;subst e2
      simp at hr
      have hbk:=vok1.back rfl
      simp only at hbk
      subst hbk
      have hset:(a1.set v 0).set v 2=a1:=by rw[List.set_set];exact Tm h2 hvlt
      have hset1:(a1.set v 0).set v 1=a1.set v 1:=List.set_set ..
      rw[hset1]at hr
      rw[hset]
      have q1:=vok1.lo
      have q2:=vok1.hi
      simp only at q1 q2
      have vok2:=Hg hf.cl (lim:=lim) (f:=F) (a:=a1.set v 1) (u:=u1) (p1.v3.set _ (.inr (.inl rfl))) (by simp[hl1]) (by omega) q2
      have hc2:=ihv (a1.set v 1) u1 (p1.v3.set _ (.inr (.inl rfl))) (by simp[hl1]) (by omega) (by omega) q2
      have hstep2:=fun Q hb h1 h2 h3=>q9V (Γ:=Γ) (Q:=Q) f n hf lim u1 a1 hl1 v hvn2 1 (by decide) 1 (by simp) (.sl (Bc tr) none none) (C7 f.L lim F (a1.set v 1) u1) hc2 hb h1 h2 h3
      generalize C7 f.L lim F (a1.set v 1) u1=r2 at *
      obtain⟨f2,b2,u2,s2⟩:=r2
      simp only at hr
      have hb2:b2.length=n:=by
       cases f2 with
       | true=>exact(vok2.tot rfl).2.1
       | false=>have:=vok2.back rfl;simp only at this;rw[this];simp[hl1]
      have hstep2:=fun Q=>hstep2 Q hb2
      simp[hV,hS,hvn,hl1]at hstep2
      simp[hl1]
      refine hstep2 _ (fun e=>?_) (fun e e2=>?_) (fun e e2=>?_)
      ·subst e
       simp at hr
       have hQ:=hQ u2 s2 b2 true hb2 hr.symm
       simp[hV,hS,hvn]at hQ
       simpa using hQ
      ·subst e;subst e2
       simp at hr
       have hQ:=hQ u2 true (b2.set v 2) false (by simp[hb2]) hr.symm
       simp[hV,hS,hvn]at hQ
       simpa using hQ
      ·subst e;subst e2
       simp at hr
       have hQ:=hQ u2 false (b2.set v 2) false (by simp[hb2]) hr.symm
       simp[hV,hS,hvn]at hQ
       refine Lp fun K hK=>?_
       simp
       simpa using hQ
theorem q4q {v:Int}:∀ {cs:List (List Int)},q01 v cs=0->∀ c∈cs,c.length<=4096/\∀ l∈c,q2a v l=false
 | [],_,c,hc=>by cases hc
 | d::cs,h,c,hc=>by
  simp only[q01]at h
  split at h
  ·cases h
  ·rename_i h1
   split at h
   ·cases h
   ·rename_i h2
    rcases List.mem_cons.1 hc with rfl|hc
    ·refine⟨by omega,fun l hl=>?_⟩
     cases hb:q2a v l with
     | false=>rfl
     | true=>exact absurd (List.any_eq_true.2 ⟨l,hl,hb⟩) h2
    ·exact q4q h c hc
theorem q2b {f:Cf} (h:Jz f=0):0<=f.vars/\f.vars<=65536/\qAw f f.vars.toNat:=by
 unfold Jz at h
 split at h
 ·cases h
 ·rename_i h1
  split at h
  ·cases h
  ·rename_i h2
   have hc:=q4q h
   refine⟨by omega,by omega,by omega,by omega,fun c hc2 l hl=>?_,by omega,fun c hc2=>?_⟩
   ·have:=(hc c hc2).2 l hl
    unfold q2a at this
    simp at this
    unfold Dk
    omega
   ·have:=(hc c.l (List.mem_map.2 ⟨c,hc2,rfl⟩)).1
    omega
def Vt (f:Cf) (lim:Int):Option (List Int)×Bool×Int :=
 if Jz f≠0 then(none,false,Jz f)else if lim<0 then(none,false,1)else if 1000000<lim then(none,false,3) else
  let r:=C7 f.L lim (f.vars.toNat+1) (List.replicate f.vars.toNat 2) 0
  if r.1=true then(some r.2.1,true,0)else if r.2.2.2=true then(none,false,0) else(none,true,9)
def q3a:Option (List Int)->T
 | none=>.sl [] (some 0) (some true)
 | some b=>.sl (Da b) none none
def q2c (o:Option (List Int)×Bool×Int):T:=.tup [q3a o.1,tB o.2.1,tI o.2.2]
theorem q9W {Q:AX->St->Prop} (n:Nat) (hn:n<=1000000) (c1 c2 c3 c4 c5:AV)
  (h0:Q (.exit 0) ⟨[(9,.lp 28 0 0),(33,.t (tI n)),(34,.t (tI n)),(35,.t (tB false))],[(25,.sl 41 1 (Da (List.replicate n 2))),(28,.bx [c1,c2,.ls 25 0 n none,c3,c4,c5])]⟩) :
  ∀ (k i:Nat),k+i=n->run Tryz.prog Γ Px Q ⟨[(9,.lp 28 0 0),(33,.t (tI n)),(34,.t (tI i))],[(25,.sl 41 1 (Da (List.replicate i 2++List.replicate k 0))),(28,.bx [c1,c2,.ls 25 0 n none,c3,c4,c5])]⟩
 | 0,i,h=>by
  refine V6 fun K hK=>?_
  have h2:i=n:=by omega
  subst h2
  simp
  simpa using h0
 | k+1,i,h=>by
  refine V6 fun K hK=>?_
  have ih:=q9W n hn c1 c2 c3 c4 c5 h0 k (i+1) (by omega)
  have h2:i<n:=by omega
  have w1:IntKind.i64.wrap ((i:Int)+1)=(i:Int)+1:=by rw[A5]<;>omega
  have hs:(Da (List.replicate i 2++List.replicate (k+1) 0)).set i [tK 2]=Da (List.replicate (i+1) 2++List.replicate k 0):=by
   show(Ak tK _).set i [tK _]=Ak tK _
   rw[S5]
   congr 1
   rw[List.set_append,if_neg (by simp),List.length_replicate,Nat.sub_self,List.replicate_succ,List.set_cons_zero,List.replicate_succ',List.append_assoc]
   rfl
  have hlen:(Da (List.replicate i (2:Int)++List.replicate (k+1) 0)).length=n:=by simp[Da,Ak];omega
  generalize Da (List.replicate i (2:Int)++List.replicate (k+1) 0)=E0 at *
  simp[h2,hlen,hs,w1]
  rw[hK]
  simpa using ih
theorem q1p (f:Cf) (hi:Vv f.vars) (lim:Int):A6 Tryz.prog Γ 12 [.agg (He f),tI lim] (q2c (Vt f lim)):=by
 refine Af q5z rfl ?_
 have hck:=Dx (Γ:=Γ) f hi
 have hst:=qAv (Γ:=Γ) lim
 simp[q18,He,B5]
 refine A4 hck rfl ?_
 by_cases he:Jz f=0
 ·obtain⟨hv0,hv1,hf⟩:=q2b he
  simp[he]
  refine A4 hst rfl ?_
  by_cases hl0:lim<0
  ·simp[hl0,Vt,he,q2c,q3a,Gi]
  ·by_cases hl1:1000000<lim
   ·simp[hl0,hl1,Vt,he,q2c,q3a,Gi]
   ·have hr:Vt f lim=(if(C7 f.L lim (f.vars.toNat+1) (List.replicate f.vars.toNat 2) 0).1=true then(some (C7 f.L lim (f.vars.toNat+1) (List.replicate f.vars.toNat 2) 0).2.1,true,0)else if(C7 f.L lim (f.vars.toNat+1) (List.replicate f.vars.toNat 2) 0).2.2.2=true then(none,false,0) else(none,true,9)):=by
     unfold Vt;rw[if_neg (by simp[he]),if_neg hl0,if_neg hl1]
    rw[hr]
    have hvn:f.vars=(f.vars.toNat:Int):=by omega
    have hfv:=hf.vn
    generalize f.vars.toNat=n at *
    have hcn:(List.replicate n (2:Int)).count 2<n+1:=by
     have:(List.replicate n (2:Int)).count 2<=(List.replicate n (2:Int)).length:=List.count_le_length
     rw[List.length_replicate]at this;omega
    have h3:CV3 (List.replicate n 2):=fun v hv=>by have:=List.eq_of_mem_replicate hv;omega
    have hvis:=qBz (Γ:=Γ) f n hf lim (by omega) (n+1) (List.replicate n 2) 0 h3 (by simp) hcn (by omega) (by omega)
    have hspec:=Hg hf.cl (lim:=lim) (f:=n+1) (a:=List.replicate n 2) (u:=0) h3 (by simp) hcn (by omega)
    have hlen:(C7 f.L lim (n+1) (List.replicate n 2) 0).2.1.length=n:=by
     cases hb:(C7 f.L lim (n+1) (List.replicate n 2) 0).1 with
     | true=>exact(hspec.tot hb).2.1
     | false=>rw[hspec.back hb];simp
    generalize C7 f.L lim (n+1) (List.replicate n 2) 0=r at *
    obtain⟨fd,b,u,sp⟩:=r
    have hnb:=hf.nb
    simp only at hvis hlen ⊢
    have g:=fun Q c1 c2 c3 c4 c5 h0=>q9W (Γ:=Γ) (Q:=Q) n (by omega) c1 c2 c3 c4 c5 h0 n 0 (by omega)
    simp[hS,hfv]at hvis
    simp at g
    simp[hl0,hl1,hfv]
    have e0:List.replicate n [tK 0]=Da (List.replicate n 0):=by simp[Da,Ak]
    rw[e0]
    refine⟨by omega,g _ _ _ _ _ _ ?_⟩
    simp[B5]at hvis
    simp
    refine⟨_,_,hvis,?_⟩
    cases fd with
    | true =>
     simp[List.idxOf_cons,Fp,hlen,A3,Gi,q2c,q3a]
     exact List.take_of_length_le (by simp[Da,Ak,hlen])
    | false =>
     cases sp with
     | true=>simp[List.idxOf_cons,Fp,hlen,A3,Gi,q2c,q3a]
     | false=>simp[List.idxOf_cons,Fp,hlen,A3,Gi,q2c,q3a]
 ·simp[he,Vt,q2c,q3a,Gi]
theorem qC0 {f:Cf} (he:Jz f=0) {lim:Int} (h0:0<=lim) (h1:lim<=1000000) :
  (∃ b,Vt f lim=(some b,true,0)/\q4W b/\b.length=f.vars.toNat/\q2X b f.L) \/
  (Vt f lim=(none,true,9)/\∀ m,q4W m->m.length=f.vars.toNat->¬ q2X m f.L)\/(Vt f lim=(none,false,0)/\lim+1<2 ^ f.vars.toNat):=by
 obtain⟨hv0,hv1,hf⟩:=q2b he
 unfold Vt
 rw[if_neg (by simp[he]),if_neg (by omega),if_neg (by omega)]
 generalize f.vars.toNat=n at *
 have hct:(List.replicate n (2:Int)).count 2=n:=by simp
 have h3:CV3 (List.replicate n 2):=fun v hv=>by have:=List.eq_of_mem_replicate hv;omega
 have hspec:=Hg hf.cl (lim:=lim) (f:=n+1) (a:=List.replicate n 2) (u:=0) h3 (by simp) (by omega) h0
 generalize C7 f.L lim (n+1) (List.replicate n 2) 0=r at *
 obtain⟨fd,b,u,sp⟩:=r
 cases fd with
 | true =>
  obtain⟨k1,k2,k3,k4⟩:=hspec.tot rfl
  exact .inl ⟨b,by simp,k1,k2,k3⟩
 | false =>
  cases sp with
  | true =>
   refine .inr (.inr ⟨by simp,?_⟩)
   have:=hspec.spent
   rw[hct]at this
   rcases Int.lt_or_le (lim+1) (2 ^ n)with h|h
   ·exact h
   ·have:=this (by omega);cases this
  | false =>
   refine .inr (.inl ⟨by simp,fun m hm hl=>hspec.none rfl rfl m hm ⟨by simp[hl],fun i hi=>?_⟩⟩)
   by_cases hin:i<n
   ·exact absurd (by simp[List.getD_eq_getElem?_getD,hin]) hi
   ·rw[List.getD_eq_getElem?_getD,List.getD_eq_getElem?_getD,List.getElem?_eq_none (by omega),List.getElem?_eq_none (by simp;omega)]
theorem q9X {f:Cf} (he:Jz f=0) {lim lim':Int} (h0:0<=lim) (hl:lim<=lim') (h1:lim'<=1000000) (hd:(Vt f lim).2.1=true):Vt f lim'=Vt f lim:=by
 obtain⟨hv0,hv1,hf⟩:=q2b he
 have hs:∀ q,0<=q->q<=1000000->Vt f q=(if(C7 f.L q (f.vars.toNat+1) (List.replicate f.vars.toNat 2) 0).1=true then(some (C7 f.L q (f.vars.toNat+1) (List.replicate f.vars.toNat 2) 0).2.1,true,0)else if(C7 f.L q (f.vars.toNat+1) (List.replicate f.vars.toNat 2) 0).2.2.2=true then(none,false,0) else(none,true,9)):=fun q h2 h3=>by
  unfold Vt;rw[if_neg (by simp[he]),if_neg (by omega),if_neg (by omega)]
 rw[hs lim h0 (by omega)]at hd ⊢
 rw[hs lim' (by omega) h1]
 generalize f.vars.toNat=n at *
 have h3:CV3 (List.replicate n 2):=fun v hv=>by have:=List.eq_of_mem_replicate hv;omega
 rw[q1o hf.cl hl (f:=n+1) h3 (by simp) (by simp) h0]
 have hspec:=Hg hf.cl (lim:=lim) (f:=n+1) (a:=List.replicate n 2) (u:=0) h3 (by simp) (by simp) h0
 generalize C7 f.L lim (n+1) (List.replicate n 2) 0=r at *
 obtain⟨fd,b,u,sp⟩:=r
 cases sp with
 | false=>rfl
 | true =>
  cases fd with
  | true=>exact(hspec.tot rfl).2.2.2
  | false=>simp at hd
end Go.Lg
namespace Go.Lg
open Go Go.Proofs Go.Shelf
def fiR:Go.Shelf.Ren:=⟨fun|246=>54|283=>71|284=>72|285=>73|286=>74|129=>92|317=>91|318=>93|319=>94|320=>95|337=>106|338=>107|n=>n,fun|2=>2|3=>3|9=>9|4=>4|171=>121|0=>0|53=>122|37=>22|5=>5|173=>125|212=>142|51=>143|20=>20|213=>144|46=>146|232=>172|233=>173|n=>n,fun|17=>0|18=>6|19=>7|n=>n⟩
theorem fiL:LaysM.n246 Tryz.prog fiR where
 mixed:=by kernel_rfl
 f129:=Tryz.func92.trans (congrArg some (by kernel_rfl))
 f246:=Tryz.func54.trans (congrArg some (by kernel_rfl))
 f283:=Tryz.func71.trans (congrArg some (by kernel_rfl))
 f284:=Tryz.func72.trans (congrArg some (by kernel_rfl))
 f285:=Tryz.func73.trans (congrArg some (by kernel_rfl))
 f286:=Tryz.func74.trans (congrArg some (by kernel_rfl))
 f317:=Tryz.func91.trans (congrArg some (by kernel_rfl))
 f318:=Tryz.func93.trans (congrArg some (by kernel_rfl))
 f319:=Tryz.func94.trans (congrArg some (by kernel_rfl))
 f320:=Tryz.func95.trans (congrArg some (by kernel_rfl))
 f337:=Tryz.func106.trans (congrArg some (by kernel_rfl))
 f338:=Tryz.func107.trans (congrArg some (by kernel_rfl))
 t0:=Tryz.underlying0
 a0:=Tryz.isAgg0
 z0:=Tryz.sizeOf0
 v0:=Tryz.zeroValue0
 t2:=Tryz.underlying2
 a2:=Tryz.isAgg2
 z2:=Tryz.sizeOf2
 v2:=Tryz.zeroValue2
 t3:=Tryz.underlying3
 a3:=Tryz.isAgg3
 z3:=Tryz.sizeOf3
 v3:=Tryz.zeroValue3
 t4:=Tryz.underlying4
 a4:=Tryz.isAgg4
 z4:=Tryz.sizeOf4
 v4:=Tryz.zeroValue4
 t5:=Tryz.underlying5
 a5:=Tryz.isAgg5
 z5:=Tryz.sizeOf5
 v5:=Tryz.zeroValue5
 t9:=Tryz.underlying9
 a9:=Tryz.isAgg9
 z9:=Tryz.sizeOf9
 v9:=Tryz.zeroValue9
 t20:=Tryz.underlying20
 a20:=Tryz.isAgg20
 z20:=Tryz.sizeOf20
 v20:=Tryz.zeroValue20
 t37:=Tryz.underlying22
 a37:=Tryz.isAgg22
 z37:=Tryz.sizeOf22
 v37:=Tryz.zeroValue22
 t46:=Tryz.underlying146
 a46:=Tryz.isAgg146
 z46:=Tryz.sizeOf146
 v46:=Tryz.zeroValue146
 t51:=Tryz.underlying143
 a51:=Tryz.isAgg143
 z51:=Tryz.sizeOf143
 v51:=Tryz.zeroValue143
 t53:=Tryz.underlying122
 a53:=Tryz.isAgg122
 z53:=Tryz.sizeOf122
 v53:=Tryz.zeroValue122
 t171:=Tryz.underlying121
 a171:=Tryz.isAgg121
 z171:=Tryz.sizeOf121
 v171:=Tryz.zeroValue121
 t173:=Tryz.underlying125
 a173:=Tryz.isAgg125
 z173:=Tryz.sizeOf125
 v173:=Tryz.zeroValue125
 t212:=Tryz.underlying142
 a212:=Tryz.isAgg142
 z212:=Tryz.sizeOf142
 v212:=Tryz.zeroValue142
 t213:=Tryz.underlying144
 a213:=Tryz.isAgg144
 z213:=Tryz.sizeOf144
 t232:=Tryz.underlying172
 a232:=Tryz.isAgg172
 z232:=Tryz.sizeOf172
 v232:=Tryz.zeroValue172
 t233:=Tryz.underlying173
 a233:=Tryz.isAgg173
 z233:=Tryz.sizeOf173
 v233:=Tryz.zeroValue173
 g17:=by kernel_rfl
 g18:=by kernel_rfl
 g19:=by kernel_rfl
 i0:=by kernel_rfl
 i2:=by kernel_rfl
 i3:=by kernel_rfl
 i4:=by kernel_rfl
 i5:=by kernel_rfl
 i9:=by kernel_rfl
 i20:=by kernel_rfl
 i37:=by kernel_rfl
 i46:=by kernel_rfl
 i51:=by kernel_rfl
 i53:=by kernel_rfl
 i171:=by kernel_rfl
 i173:=by kernel_rfl
 i212:=by kernel_rfl
 i232:=by kernel_rfl
 i233:=by kernel_rfl
 m17:=by kernel_rfl
 m18:=by kernel_rfl
 m19:=by kernel_rfl
def atR:Go.Shelf.Ren:=⟨fun|172=>36|244=>60|245=>61|247=>80|279=>81|280=>82|281=>83|282=>84|287=>101|316=>102|171=>15|205=>103|321=>110|322=>111|243=>32|246=>54|283=>71|284=>72|285=>73|286=>74|129=>92|317=>91|318=>93|319=>94|320=>95|337=>106|338=>107|n=>n,fun|9=>9|3=>3|75=>62|76=>63|4=>4|5=>5|167=>132|37=>22|0=>0|85=>133|2=>2|168=>135|53=>122|175=>148|46=>146|210=>152|127=>84|145=>168|143=>166|21=>21|171=>121|173=>125|212=>142|51=>143|20=>20|213=>144|232=>172|233=>173|80=>66|n=>n,fun|15=>2|16=>3|17=>0|18=>6|19=>7|n=>n⟩
theorem atL:LaysC.n172 Tryz.prog atR where
 mixed:=by kernel_rfl
 f129:=Tryz.func92.trans (congrArg some (by kernel_rfl))
 f171:=Tryz.func15.trans (congrArg some (by kernel_rfl))
 f172:=Tryz.func36.trans (congrArg some (by kernel_rfl))
 f205:=Tryz.func103.trans (congrArg some (by kernel_rfl))
 f243:=Tryz.func32.trans (congrArg some (by kernel_rfl))
 f244:=Tryz.func60.trans (congrArg some (by kernel_rfl))
 f245:=Tryz.func61.trans (congrArg some (by kernel_rfl))
 f246:=Tryz.func54.trans (congrArg some (by kernel_rfl))
 f247:=Tryz.func80.trans (congrArg some (by kernel_rfl))
 f279:=Tryz.func81.trans (congrArg some (by kernel_rfl))
 f280:=Tryz.func82.trans (congrArg some (by kernel_rfl))
 f281:=Tryz.func83.trans (congrArg some (by kernel_rfl))
 f282:=Tryz.func84.trans (congrArg some (by kernel_rfl))
 f283:=Tryz.func71.trans (congrArg some (by kernel_rfl))
 f284:=Tryz.func72.trans (congrArg some (by kernel_rfl))
 f285:=Tryz.func73.trans (congrArg some (by kernel_rfl))
 f286:=Tryz.func74.trans (congrArg some (by kernel_rfl))
 f287:=Tryz.func101.trans (congrArg some (by kernel_rfl))
 f316:=Tryz.func102.trans (congrArg some (by kernel_rfl))
 f317:=Tryz.func91.trans (congrArg some (by kernel_rfl))
 f318:=Tryz.func93.trans (congrArg some (by kernel_rfl))
 f319:=Tryz.func94.trans (congrArg some (by kernel_rfl))
 f320:=Tryz.func95.trans (congrArg some (by kernel_rfl))
 f321:=Tryz.func110.trans (congrArg some (by kernel_rfl))
 f322:=Tryz.func111.trans (congrArg some (by kernel_rfl))
 f337:=Tryz.func106.trans (congrArg some (by kernel_rfl))
 f338:=Tryz.func107.trans (congrArg some (by kernel_rfl))
 t0:=Tryz.underlying0
 a0:=Tryz.isAgg0
 z0:=Tryz.sizeOf0
 v0:=Tryz.zeroValue0
 t2:=Tryz.underlying2
 a2:=Tryz.isAgg2
 z2:=Tryz.sizeOf2
 v2:=Tryz.zeroValue2
 t3:=Tryz.underlying3
 a3:=Tryz.isAgg3
 z3:=Tryz.sizeOf3
 v3:=Tryz.zeroValue3
 t4:=Tryz.underlying4
 a4:=Tryz.isAgg4
 z4:=Tryz.sizeOf4
 v4:=Tryz.zeroValue4
 t5:=Tryz.underlying5
 a5:=Tryz.isAgg5
 z5:=Tryz.sizeOf5
 v5:=Tryz.zeroValue5
 t9:=Tryz.underlying9
 a9:=Tryz.isAgg9
 z9:=Tryz.sizeOf9
 v9:=Tryz.zeroValue9
 t20:=Tryz.underlying20
 a20:=Tryz.isAgg20
 z20:=Tryz.sizeOf20
 v20:=Tryz.zeroValue20
 t21:=Tryz.underlying21
 a21:=Tryz.isAgg21
 z21:=Tryz.sizeOf21
 v21:=Tryz.zeroValue21
 t37:=Tryz.underlying22
 a37:=Tryz.isAgg22
 z37:=Tryz.sizeOf22
 v37:=Tryz.zeroValue22
 t46:=Tryz.underlying146
 a46:=Tryz.isAgg146
 z46:=Tryz.sizeOf146
 v46:=Tryz.zeroValue146
 t51:=Tryz.underlying143
 a51:=Tryz.isAgg143
 z51:=Tryz.sizeOf143
 v51:=Tryz.zeroValue143
 t53:=Tryz.underlying122
 a53:=Tryz.isAgg122
 z53:=Tryz.sizeOf122
 v53:=Tryz.zeroValue122
 t75:=Tryz.underlying62
 a75:=Tryz.isAgg62
 z75:=Tryz.sizeOf62
 v75:=Tryz.zeroValue62
 t76:=Tryz.underlying63
 a76:=Tryz.isAgg63
 z76:=Tryz.sizeOf63
 v76:=Tryz.zeroValue63
 t85:=Tryz.underlying133
 a85:=Tryz.isAgg133
 z85:=Tryz.sizeOf133
 v85:=Tryz.zeroValue133
 t127:=Tryz.underlying84
 a127:=Tryz.isAgg84
 z127:=Tryz.sizeOf84
 v127:=Tryz.zeroValue84
 t143:=Tryz.underlying166
 a143:=Tryz.isAgg166
 z143:=Tryz.sizeOf166
 v143:=Tryz.zeroValue166
 t145:=Tryz.underlying168
 a145:=Tryz.isAgg168
 z145:=Tryz.sizeOf168
 v145:=Tryz.zeroValue168
 t167:=Tryz.underlying132
 a167:=Tryz.isAgg132
 z167:=Tryz.sizeOf132
 v167:=Tryz.zeroValue132
 t168:=Tryz.underlying135
 a168:=Tryz.isAgg135
 z168:=Tryz.sizeOf135
 v168:=Tryz.zeroValue135
 t171:=Tryz.underlying121
 a171:=Tryz.isAgg121
 z171:=Tryz.sizeOf121
 v171:=Tryz.zeroValue121
 t173:=Tryz.underlying125
 a173:=Tryz.isAgg125
 z173:=Tryz.sizeOf125
 v173:=Tryz.zeroValue125
 t175:=Tryz.underlying148
 a175:=Tryz.isAgg148
 z175:=Tryz.sizeOf148
 v175:=Tryz.zeroValue148
 t210:=Tryz.underlying152
 a210:=Tryz.isAgg152
 z210:=Tryz.sizeOf152
 v210:=Tryz.zeroValue152
 t212:=Tryz.underlying142
 a212:=Tryz.isAgg142
 z212:=Tryz.sizeOf142
 v212:=Tryz.zeroValue142
 t213:=Tryz.underlying144
 a213:=Tryz.isAgg144
 z213:=Tryz.sizeOf144
 t232:=Tryz.underlying172
 a232:=Tryz.isAgg172
 z232:=Tryz.sizeOf172
 v232:=Tryz.zeroValue172
 t233:=Tryz.underlying173
 a233:=Tryz.isAgg173
 z233:=Tryz.sizeOf173
 v233:=Tryz.zeroValue173
 g15:=by kernel_rfl
 g16:=by kernel_rfl
 g17:=by kernel_rfl
 g18:=by kernel_rfl
 g19:=by kernel_rfl
 t80:=Tryz.underlying66
 a80:=Tryz.isAgg66
 z80:=Tryz.sizeOf66
 v80:=Tryz.zeroValue66
 i0:=by kernel_rfl
 i2:=by kernel_rfl
 i3:=by kernel_rfl
 i4:=by kernel_rfl
 i5:=by kernel_rfl
 i9:=by kernel_rfl
 i20:=by kernel_rfl
 i21:=by kernel_rfl
 i37:=by kernel_rfl
 i46:=by kernel_rfl
 i51:=by kernel_rfl
 i53:=by kernel_rfl
 i75:=by kernel_rfl
 i76:=by kernel_rfl
 i80:=by kernel_rfl
 i85:=by kernel_rfl
 i127:=by kernel_rfl
 i143:=by kernel_rfl
 i145:=by kernel_rfl
 i167:=by kernel_rfl
 i168:=by kernel_rfl
 i171:=by kernel_rfl
 i173:=by kernel_rfl
 i175:=by kernel_rfl
 i210:=by kernel_rfl
 i212:=by kernel_rfl
 i232:=by kernel_rfl
 i233:=by kernel_rfl
 m15:=by kernel_rfl
 m16:=by kernel_rfl
 m17:=by kernel_rfl
 m18:=by kernel_rfl
 m19:=by kernel_rfl
 c0:=by kernel_rfl
 c2:=by kernel_rfl
 c3:=by kernel_rfl
 c4:=by kernel_rfl
 c5:=by kernel_rfl
 c9:=by kernel_rfl
 c20:=by kernel_rfl
 c21:=by kernel_rfl
 c37:=by kernel_rfl
 c46:=by kernel_rfl
 c51:=by kernel_rfl
 c53:=by kernel_rfl
 c75:=by kernel_rfl
 c76:=by kernel_rfl
 c80:=by kernel_rfl
 c85:=by kernel_rfl
 c127:=by kernel_rfl
 c143:=by kernel_rfl
 c145:=by kernel_rfl
 c167:=by kernel_rfl
 c168:=by kernel_rfl
 c171:=by kernel_rfl
 c173:=by kernel_rfl
 c175:=by kernel_rfl
 c210:=by kernel_rfl
 c212:=by kernel_rfl
 c213:=by kernel_rfl
 c232:=by kernel_rfl
 c233:=by kernel_rfl
end Go.Lg
namespace Go.Lg
open Go Go.Proofs Go.Shelf
variable {Γ:Tables}
def q3b:List T:=Lib.pow10Tab.map fun z=>.v (.int .u64 z)
def Ij (Γ:Tables):Prop:=Γ 0=some q3b
theorem qGK:Tryz.prog.globalNamed "internal/strconv.uint64pow10" = some 0:=by kernel_rfl
theorem qIv {w:World} {X:Nat->Prop} (h:Gl Γ w X) (hp:Ij Γ):Lib.TabIs Tryz.prog w "internal/strconv.uint64pow10" .u64 Lib.pow10Tab:=by
 obtain⟨ht,arr,ty,fr,hh,hs⟩:=h _ _ hp
 unfold Lib.TabIs World.var?
 rw[qGK]
 simp only[Option.bind_some,hh,Option.some.injEq]
 obtain⟨b,off,xs,he,hx,h1,hr,hc⟩:=ht.ip_inv
 simp only[Value.pointer.injEq,Option.some.injEq,Addr.mk.injEq,Nat.add_zero,and_true]at he
 obtain⟨e1,e2⟩:=he
 subst e1;subst e2
 have hl:q3b.length=Lib.pow10Tab.length:=by simp[q3b]
 have hlx:xs.length=q3b.length:=hr.1.symm
 refine Array.ext (by simp[hs,hl]) fun i h2 h3=>?_
 have hi:i<Lib.pow10Tab.length:=by simpa using h3
 have hix:i<xs.length:=by rw[hlx,hl];exact hi
 have ht2:=hr.2 i (.v (.int .u64 Lib.pow10Tab[i])) xs[i] (by simp[q3b,hi]) (by simp[hix])
 have hv:=ht2.v_inv
 have hcc:=hc i xs[i] (by simp[hix])
 simp only[World.cell?,hh,Nat.zero_add]at hcc
 have:arr[i]? = some xs[i]:=hcc
 rw[Array.getElem?_eq_getElem h2]at this
 rw[Option.some.inj this]
 simp[hv]
theorem qAy (vs:Array Value) (w:World):(callFunc 54 vs).run Tryz.prog w=.ok (.enter 54 vs) w:=enters_of Tryz.func54 (by kernel_rfl) rfl vs w
def Bf (n:Int):ByteArray:=⟨(Lib.itoa n).toArray⟩
theorem qEg (hP:Ij Γ) (n:Int) (hn:Vv n):A6 Tryz.prog Γ 54 [tI n,tI 10] (.v (.string (Bf n))):=by
 intro w X vs hg hx hts
 obtain⟨x,xs,rfl,h1,h2⟩:=hts.cons_inv
 obtain⟨y,ys,rfl,h3,h4⟩:=h2.cons_inv
 have:=h4.nil_inv;subst this
 cases h1;cases h3
 refine .inl ⟨qAy _ _,?_⟩
 refine(Any.internal_strconv_FormatInt_10 fiL n (by unfold Vv at hn;omega) (by unfold Vv at hn;omega) w (qIv hg hP)).mono fun e w' ⟨he,k,os,hw⟩=>?_
 subst hw
 refine⟨_,he,⟨rfl,rfl,rfl,?_,fun k hk=>?_⟩,.v _⟩
 ·simp[Go.Sort.grow]
 ·simp only[Go.Sort.grow]
  rw[Array.getElem?_append_left (by simpa using hk)]
  rfl
theorem q2d (hP:Ij Γ) (n:Int) (hn:Vv n):A6 Tryz.prog Γ 15 [tI n] (.v (.string (Bf n))):=by
 have h2:A6 Tryz.prog Γ 32 [tI n] (.v (.string (Bf n))):=by
  refine Af q1l rfl ?_
  simp[Uy]
  refine A4 (qEg hP n hn) rfl ?_
  simp[Uz]
 refine Af q3W rfl ?_
 simp[Yh]
 refine A4 h2 rfl ?_
 simp[Yi]
end Go.Lg
namespace Go.Lg
open Go
section
variable {P:Program} {Γ:Tables} {Q:AX->St->Prop} {s:St}
/- (*probecard/cnfs.Cnf).add (function 20) -/
abbrev Yj:IC:=(.reg [om 4 0,om 5 0,od 6 (.nck (tm 5)),od 7 (fa 1 6),od 8 (ld 1 7),om 9 1,od 10 (.appA 37 1 (tm 8) (tm 9)),od 11 (.nck (tm 4)),od 12 (fa 1 11),on (.store 1 (tm 12) (tm 10))] [.keepE []])
def Yk:List RV:=[]
/- (*probecard/cnfs.Cnf).fix (function 45) -/
abbrev Yl:IC:=(.seq (.seq (.reg [om 6 2,od 7 (.bin .eql (tm 6) (ku 0))] [.keepE [0,1,7]]) (.cond (tm 7) (.reg [om 8 1,od 9 (.un .neg (tm 8)),om 1 9] [.keepE [0,1]]) .skip)) (.reg [om 10 0,om 11 1,od 12 (.bsl false 3 1 [(tm 11)]),od 13
 (.bslA 37 1 [(tm 12)]),od 14 (.hcallW 20 [(tm 10),(tm 13)] 100000)] [.ren 100010 900,.drop [13],.keepE []]))
def Ym:List RV:=[]
/- (*probecard/cnfs.Cnf).same (function 47) -/
abbrev Wg:IC:=(.reg [om 6 0,om 7 1,od 8 (.un .neg (tm 7)),om 9 2,od 10 (.bsl false 3 1 [(tm 8),(tm 9)]),om 11 1,om 12 2,od 13 (.un .neg (tm 12)),od 14 (.bsl false 3 1 [(tm 11),(tm 13)]),od 15 (.bslA 37 1 [(tm 10),(tm 14)]),od 16
 (.hcallW 20 [(tm 6),(tm 15)] 100000)] [.ren 100010 900,.drop [15],.keepE []])
def Wh:List RV:=[]
/- (*probecard/cnfs.Cnf).odd (function 68) -/
abbrev Yn:IC:=(.reg [om 8 0,om 9 1,od 10 (.un .neg (tm 9)),om 11 2,om 12 3,od 13 (.bsl false 3 1 [(tm 10),(tm 11),(tm 12)]),om 14 1,od 15 (.un .neg (tm 14)),om 16 2,od 17 (.un .neg (tm 16)),om 18 3,od 19 (.un .neg (tm 18)),od 20
 (.bsl false 3 1 [(tm 15),(tm 17),(tm 19)]),om 21 1,om 22 2,od 23 (.un .neg (tm 22)),om 24 3,od 25 (.bsl false 3 1 [(tm 21),(tm 23),(tm 24)]),om 26 1,om 27 2,om 28 3,od 29 (.un .neg (tm 28)),od 30 (.bsl false 3 1 [(tm
 26),(tm 27),(tm 29)]),od 31 (.bslA 37 1 [(tm 13),(tm 20),(tm 25),(tm 30)]),od 32 (.hcallW 20 [(tm 8),(tm 31)] 100000)] [.ren 100010 900,.drop [31],.keepE []])
def Yo:List RV:=[]
/- (*probecard/cnfs.Cnf).every (function 66) -/
abbrev q2e:IC:=.gh (.seq (.reg [od 14 (.bin .lss (tm 13) (tm 12))] [.keepE [0,1,6,11,12,13,14]]) (.seq (.cond (tm 14) .skip (.exit 0)) (.seq (.block 1 (.seq (.reg [od 15 (ia 1 11 13),od 16 (ld 1 15),om 8 16] [.keepE [0,1,6,8,11,12,
 13]]) (.seq (.reg [om 17 0,om 18 1,od 19 (.un .neg (tm 18)),om 20 8,od 21 (.bsl false 3 1 [(tm 19),(tm 20)]),od 22 (.bslA 37 1 [(tm 21)]),od 23 (.hcallW 20 [(tm 17),(tm 22)] 100000)] [.ren 100010 900,.drop [22],.renS 21
 3000 13,.keepE [0,1,6,8,11,12,13]]) (.reg [om 24 6,om 25 8,od 26 (.un .neg (tm 25)),od 27 (.bsl true 3 1 [(tm 26)]),od 28 (.app false 3 1 (tm 24) (tm 27)),om 6 28] [.keepE [0,1,6,11,12,13]])))) (.reg [od 29 (.bin
 .add (tm 13) (ki 1)),om 13 29] [.keepE [0,1,6,11,12,13]])))) [.keepE [0,1,6,11,12,13]]
def q2f:IC:=.loop q2e
abbrev V7:IC:=(.seq (.reg [om 9 1,od 10 (.bsl false 3 1 [(tm 9)]),om 6 10] [.keepE [0,1,2,6]]) (.seq (.seq (.reg [om 11 2,od 12 (le 0 11),od 13 (.mv (ki 0))] [.keepE [0,1,6,11,12,13]]) (.block 0 q2f)) (.reg [om 30 0,om
 31 6,od 32 (.bslA 37 1 [(tm 31)]),od 33 (.hcallW 20 [(tm 30),(tm 32)] 100000)] [.ren 100010 900,.drop [32],.ren 10 3900,.ren 28 3900,.keepE []])))
def V8:List RV:=[]
/- (*probecard/cnfs.Cnf).fresh (function 48) -/
abbrev V9:IC:=(.seq (.reg [od 2 (.mv (ki 0))] [.keepE [0]]) (.seq (.reg [om 3 0,od 4 (.nck (tm 3)),od 5 (fa 0 4),od 6 (ld 1 5),od 7 (.bin .add (tm 6) (ki 1)),od 8 (.nck (tm 3)),od 9 (fa 0 8),on (.store 1 (tm 9) (tm 7))] [.keepE [0]])
 (.seq (.reg [om 10 0,od 11 (.nck (tm 10)),od 12 (fa 0 11),od 13 (ld 1 12),om 2 13] [.keepE [2]]) .ret)))
def Va:List RV:=[.tmp 2]
/- (*probecard/cnfs.Cnf).size (function 50) -/
abbrev Wi:IC:=(.seq (.reg [od 2 (.mv (ki 0))] [.keepE [0]]) (.seq (.seq (.reg [om 3 0,od 4 (.nck (tm 3)),od 5 (fa 0 4),od 6 (ld 1 5),od 7 (.bin .gtr (tm 6) (ki 65536)),om 8 7,oF 9 (.mv (tm 0)) 8,oF 10 (.nck (tm 9)) 8,oF 11 (fa 1 10) 8,
 oF 12 (ld 1 11) 8,oF 13 (le 0 12) 8,oF 14 (.bin .gtr (tm 13) (ki 262144)) 8,od 15 (.pick (tm 8) kT (tm 14))] [.keepE [15]]) (.cond (tm 15) (.seq (.reg [od 2 (.mv (ki 3))] [.keepE [2]]) .ret) .skip)) (.seq (.reg [od 2 (.mv (ki
 0))] [.keepE [2]]) .ret)))
def Wj:List RV:=[.tmp 2]
/- probecard/cnfs.opposite (function 67) -/
abbrev q3c:IC:=.gh (.seq (.reg [od 12 (.bin .lss (tm 11) (tm 10))] [kp [3,9,10,11,12] [8]]) (.seq (.cond (tm 12) .skip (.exit 0)) (.seq (.block 1 (.seq (.reg [om 13 11,od 14 (ia 1 9 11),od 15 (ld 1 14),om 4 13,om 5 15] [kp [3,4,5,9,
 10,11] [8]]) (.reg [om 16 3,om 17 4,om 18 5,od 19 (.un .neg (tm 18)),od 20 (ia 1 16 17),on (.store 1 (tm 20) (tm 19))] [kp [3,9,10,11] [8]]))) (.reg [od 21 (.bin .add (tm 11) (ki 1)),om 11 21] [kp [3,9,10,11] [8]]))))
 [kp [3,9,10,11] [8]]
def q3d:IC:=.loop q3c
abbrev Wl:IC:=(.seq (.reg [od 2 (.mv kN)] [kp [0] []]) (.seq (.reg [om 6 0,od 7 (le 0 6),od 8 (.mk 3 1 [(.int .i64 0)] (tm 7) (tm 7)),om 3 8] [kp [0,3] [8]]) (.seq (.seq (.reg [om 9 0,od 10 (le 0 9),od 11 (.mv (ki 0))] [kp [3,9,10,11]
 [8]]) (.block 0 q3d)) (.seq (.reg [om 22 3,om 2 22] [kp [2] [8]]) .ret))))
def Wm:List RV:=[.tmp 2]
/- (*probecard/cnfs.Cnf).gate (function 49) -/
abbrev q3e:IC:=.gh (.seq (.reg [od 68 (.bin .lss (tm 67) (tm 66))] [.keepE [0,2,3,8,65,66,67,68]]) (.seq (.cond (tm 68) .skip (.exit 1)) (.seq (.block 2 (.seq (.reg [od 69 (ia 1 65 67),od 70 (ld 1 69),om 10 70] [.keepE [0,2,3,8,10,
 65,66,67]]) (.seq (.reg [om 71 0,od 72 (.hcallW 48 [(tm 71)] 0),om 11 72] [.keepE [0,2,3,8,10,11,65,66,67]]) (.seq (.reg [om 73 0,om 74 11,om 75 8,om 76 10,od 77 (.hcallW 68 [(tm 73),(tm 74),(tm 75),(tm 76)]
 200000)] [.ren 200900 900,.renS 200013 3000 67,.renS 200020 3100 67,.renS 200025 3200 67,.renS 200030 3300 67,.keepE [0,2,3,11,65,66,67]]) (.reg [om 78 11,om 8 78] [.keepE [0,2,3,8,65,66,67]]))))) (.reg [od 79
 (.bin .add (tm 67) (ki 1)),om 67 79] [.keepE [0,2,3,8,65,66,67]])))) [.keepE [0,2,3,8,65,66,67]]
def q3f:IC:=.loop q3e
abbrev Wn:IC:=(.seq (.seq (.reg [om 15 1,od 16 (.call 65 [(tm 15)])] [.keepE [0,1,2,3,16]]) (.cond (tm 16) (.reg [om 17 2,od 18 (.un .neg (tm 17)),om 2 18] [.keepE [0,1,2,3]]) .skip)) (.seq (.reg [om 19 1] [.keepE [0,2,3,19]])
 (.block 0 (.seq (.reg [od 21 (.bin .eql (tm 19) (ku 1)),om 20 21] [.keepE [0,2,3,19,20]]) (.cond (tm 20) (.reg [om 22 0,om 23 2,od 24 (.hcallW 45 [(tm 22),(tm 23),(ku 0)] 200000)] [.ren 200900 900,.ren 200012 12,.keepE
 []]) (.seq (.reg [od 26 (.bin .eql (tm 19) (ku 2)),om 25 26] [.keepE [0,2,3,19,25]]) (.cond (tm 25) (.reg [om 27 0,om 28 2,od 29 (.hcallW 45 [(tm 27),(tm 28),(ku 1)] 200000)] [.ren 200900 900,.ren 200012 12,.keepE []])
 (.seq (.seq (.reg [od 31 (.bin .eql (tm 19) (ku 3)),om 30 31] [.keepE [0,2,3,19,30]]) (.cond (tm 30) .skip (.reg [od 32 (.bin .eql (tm 19) (ku 4)),om 30 32] [.keepE [0,2,3,19,30]]))) (.cond (tm 30) (.reg [om 33 0,om 34
 2,om 35 3,od 36 (.iadr 1 (tm 35) (ki 0)),od 37 (ld 1 36),od 38 (.hcallW 47 [(tm 33),(tm 34),(tm 37)] 200000)] [.ren 200900 900,.ren 200010 12,.ren 200014 14,.keepE []]) (.seq (.seq (.reg [od 40 (.bin .eql (tm 19) (ku 5)),
 om 39 40] [.keepE [0,2,3,19,39]]) (.cond (tm 39) .skip (.reg [od 41 (.bin .eql (tm 19) (ku 6)),om 39 41] [.keepE [0,2,3,19,39]]))) (.cond (tm 39) (.reg [om 42 0,om 43 2,om 44 3,od 45 (.hcallW 66 [(tm 42),(tm 43),(tm
 44)] 200000)] [.ren 200900 900,.renB 203000 3000 8,.ren 203900 3900,.keepE []]) (.seq (.seq (.reg [od 47 (.bin .eql (tm 19) (ku 7)),om 46 47] [.keepE [0,2,3,19,46]]) (.cond (tm 46) .skip (.reg [od 48 (.bin .eql (tm 19) (ku
 8)),om 46 48] [.keepE [0,2,3,19,46]]))) (.cond (tm 46) (.reg [om 49 0,om 50 2,od 51 (.un .neg (tm 50)),om 52 3,od 53 (.call 67 [(tm 52)]),od 54 (.hcallW 66 [(tm 49),(tm 51),(tm 53)] 200000)] [.ren 200900 900,.renB
 203000 3000 8,.ren 203900 3900,.keepE []]) (.seq (.seq (.reg [od 56 (.bin .eql (tm 19) (ku 9)),om 55 56] [.keepE [0,2,3,19,55]]) (.cond (tm 55) .skip (.reg [od 57 (.bin .eql (tm 19) (ku 10)),om 55 57] [.keepE [0,2,3,19,
 55]]))) (.cond (tm 55) (.seq (.reg [om 58 3,od 59 (.iadr 1 (tm 58) (ki 0)),od 60 (ld 1 59),om 8 60] [.keepE [0,2,3,8]]) (.seq (.seq (.reg [om 61 3,om 62 3,od 63 (le 0 62),od 64 (.bin .sub (tm 63) (ki 1)),od 65 (.slice 1
 (tm 61) (some (ki 1)) (some (tm 64)) none),od 66 (le 0 65),od 67 (.mv (ki 0))] [.keepE [0,2,3,8,65,66,67]]) (.block 1 q3f)) (.reg [om 80 0,om 81 2,om 82 8,om 83 3,om 84 3,od 85 (le 0 84),od 86 (.bin .sub
 (tm 85) (ki 1)),od 87 (ia 1 83 86),od 88 (ld 1 87),od 89 (.hcallW 68 [(tm 80),(tm 81),(tm 82),(tm 88)] 200000)] [.ren 200900 900,.ren 200013 3901,.ren 200020 3902,.ren 200025 3903,.ren 200030 3904,.keepE []]))) (.seq
 (.reg [od 91 (.bin .eql (tm 19) (ku 11)),om 90 91] [.keepE [0,2,3,90]]) (.cond (tm 90) (.seq (.reg [om 92 3,od 93 (.iadr 1 (tm 92) (ki 0)),od 94 (ld 1 93),om 95 3,od 96 (.iadr 1 (tm 95) (ki 1)),od 97 (ld 1 96),om 98 3,od
 99 (.iadr 1 (tm 98) (ki 2)),od 100 (ld 1 99),om 12 94,om 13 97,om 14 100] [.keepE [0,2,12,13,14]]) (.reg [om 101 0,om 102 12,om 103 13,od 104 (.un .neg (tm 103)),om 105 2,od 106 (.bsl false 3 1 [(tm 102),(tm 104),(tm
 105)]),om 107 12,om 108 13,om 109 2,od 110 (.un .neg (tm 109)),od 111 (.bsl false 3 1 [(tm 107),(tm 108),(tm 110)]),om 112 12,od 113 (.un .neg (tm 112)),om 114 14,od 115 (.un .neg (tm 114)),om 116 2,od 117 (.bsl false
 3 1 [(tm 113),(tm 115),(tm 116)]),om 118 12,od 119 (.un .neg (tm 118)),om 120 14,om 121 2,od 122 (.un .neg (tm 121)),od 123 (.bsl false 3 1 [(tm 119),(tm 120),(tm 122)]),od 124 (.bslA 37 1 [(tm 106),(tm 111),(tm 117),
 (tm 123)]),od 125 (.hcallW 20 [(tm 101),(tm 124)] 200000)] [.ren 200010 900,.drop [124],.keepE []])) .skip)))))))))))))))))
def Wp:List RV:=[]
/- probecard/cnfs.free (function 46) -/
abbrev q2g:IC:=(.seq (.reg [od 2 (.mv kF)] [kp [0] []]) (.seq (.reg [om 3 0,od 4 (.bin .eql (tm 3) (ku 0)),om 5 4,oF 6 (.mv (tm 0)) 5,oF 7 (.bin .eql (tm 6) (ku 14)) 5,od 8 (.pick (tm 5) kT (tm 7)),om 2 8] [kp [2] []]) .ret))
def q2h:List RV:=[.tmp 2]
/- probecard/cnfs.Circuit (function 43) -/
abbrev q4X:IC:=.gh (.seq (.reg [od 38 (.bin .lss (tm 37) (tm 36))] [.keepE [2,5,6,7,8,23,24,25,35,36,37,38]]) (.seq (.cond (tm 38) .skip (.exit 2)) (.seq (.block 3 (.seq (.reg [om 39 37,od 40 (ia 1 35 37),od 41 (ld 1 40),om 9 39,om
 10 41] [.keepE [2,5,6,7,8,9,10,23,24,25,35,36,37]]) (.reg [om 42 8,om 43 9,om 44 10,od 45 (.bin .add (tm 44) (ki 1)),od 46 (ia 1 42 43),on (.store 1 (tm 46) (tm 45))] [.keepE [2,5,6,7,8,23,24,25,35,36,
 37]]))) (.reg [od 47 (.bin .add (tm 37) (ki 1)),om 37 47] [.keepE [2,5,6,7,8,23,24,25,35,36,37]])))) [.keepE [2,5,6,7,8,23,24,25,35,36,37]]
def q4Y:IC:=.loop q4X
abbrev q4Z:IC:=.gh (.seq (.reg [od 26 (.bin .lss (tm 25) (tm 24))] [.keepE [2,5,23,24,25,26]]) (.seq (.cond (tm 26) .skip (.exit 0)) (.seq (.block 1 (.seq (.reg [om 27 25,od 28 (ia 4 23 25),od 29 (lG 4 28),od 7 (.alloc false [(.int .u8
 0),(.slice none 0 0),(.int .i64 0),(.int .i64 0)]),om 6 27,on (.store 4 (tm 7) (tm 29))] [.keepE [2,5,6,7,23,24,25]]) (.seq (.reg [od 30 (fa 1 7),od 31 (ld 1 30),od 32 (le 0 31),od 33 (.mk 3 1 [(.int .i64 0)] (tm 32)
 (tm 32)),om 8 33] [.keepE [2,5,6,7,8,23,24,25]]) (.seq (.seq (.reg [od 34 (fa 1 7),od 35 (ld 1 34),od 36 (le 0 35),od 37 (.mv (ki 0))] [.keepE [2,5,6,7,8,23,24,25,35,36,37]]) (.block 2 q4Y)) (.seq
 (.seq (.reg [od 48 (fa 0 7),od 49 (ld 1 48),od 50 (.call 46 [(tm 49)]),od 51 (.un .not (tm 50))] [.frz 33,.keepE [2,5,6,7,8,23,24,25,51]]) (.cond (tm 51) (.reg [od 52 (fa 0 7),od 53 (ld 1 52),om 54 6,od 55 (.bin .add
 (tm 54) (ki 1)),om 56 8,od 57 (.hcallW 49 [(tm 5),(tm 53),(tm 55),(tm 56)] 200000)] [.ren 200900 900,.renS 203000 20000 25,.renS 203001 21000 25,.renS 203900 22000 25,.keepE [2,5,23,24,25]]) .skip)) (.seq (.reg [od 58
 (.hcallW 50 [(tm 5)] 0),om 11 58] [.keepE [2,5,11,23,24,25]]) (.seq (.reg [om 59 11,od 60 (.bin .neq (tm 59) (ki 0))] [.keepE [2,5,11,23,24,25,60]]) (.cond (tm 60) (.seq (.reg [od 61 (.build [(1,(ki 0)),(1,kN)]),om
 62 11,on (.store 2 (tm 2) (tm 61)),om 3 62] [.keepE [2,3]]) .ret) .skip)))))))) (.reg [od 63 (.bin .add (tm 25) (ki 1)),om 25 63] [.drop [7],.keepE [2,5,23,24,25]])))) [.keepE [2,5,23,24,25]]
def q4a:IC:=.loop q4Z
abbrev Yp:IC:=(.seq (.reg [od 1 (.box true (tm 0)),od 2 (.alloc false [(.int .i64 0),(.slice none 0 0)]),od 3 (.mv (ki 0))] [.keepE [1,2]]) (.seq (.seq (.reg [od 12 (lG 4 1),od 13 (.call 63 [(tm 12)]),om 4 13] [.keepE [1,2,4]]) (.seq
 (.reg [om 14 4,od 15 (.bin .neq (tm 14) (ki 0))] [.keepE [1,2,4,15]]) (.cond (tm 15) (.seq (.reg [od 16 (.build [(1,(ki 0)),(1,kN)]),om 17 4,on (.store 2 (tm 2) (tm 16)),om 3 17] [.keepE [2,3]]) .ret) .skip))) (.seq
 (.reg [od 18 (fa 0 1),od 19 (ld 1 18),od 20 (le 0 19),od 21 (.build [(1,(tm 20)),(1,kN)]),od 5 (.alloc false [(.int .i64 0),(.slice none 0 0)]),on (.store 2 (tm 5) (tm 21))] [.nlb 5 1 900 37 1,.toR 900,.keepE [1,2,5]])
 (.seq (.seq (.reg [od 22 (fa 0 1),od 23 (ld 1 22),od 24 (le 0 23),od 25 (.mv (ki 0))] [.keepE [2,5,23,24,25]]) (.block 0 q4a)) (.seq (.reg [od 64 (lG 2 5),on (.store 2 (tm 2) (tm 64)),od 3 (.mv (ki 0))] [.keepE
 [2,3]]) .ret)))))
def Yq:List RV:=[.cell 2 2 true,.tmp 3]
/- probecard/cnfs.check (function 42) -/
abbrev q19:IC:=(.seq (.reg [od 2 (.box true (tm 0)),od 3 (.box true (tm 1)),od 4 (.mv (ki 0))] [kp [2,3] []]) (.seq (.seq (.reg [od 7 (lG 4 2),od 8 (.call 63 [(tm 7)]),om 5 8] [kp [2,3,5] []]) (.seq (.reg [om 9 5,od 10 (.bin .neq (tm 9)
 (ki 0))] [kp [2,3,5,10] []]) (.cond (tm 10) (.seq (.reg [om 11 5,om 4 11] [kp [4] []]) .ret) .skip))) (.seq (.seq (.reg [od 12 (lG 4 2),od 13 (lG 5 3),od 14 (.call 64 [(tm 12),(tm 13)]),om 6 14] [kp [3,6] []]) (.seq (.reg
 [om 15 6,od 16 (.bin .neq (tm 15) (ki 0))] [kp [3,6,16] []]) (.cond (tm 16) (.seq (.reg [om 17 6,om 4 17] [kp [4] []]) .ret) .skip))) (.seq (.seq (.reg [od 18 (fa 0 3),od 19 (ld 1 18),od 20 (.bin .neq (tm 19) (ku 0))] [kp
 [20] []]) (.cond (tm 20) (.seq (.reg [od 4 (.mv (ki 7))] [kp [4] []]) .ret) .skip)) (.seq (.reg [od 4 (.mv (ki 0))] [kp [4] []]) .ret)))))
def q1A:List RV:=[.tmp 4]
/- probecard/cnfs.Miter (function 28) -/
abbrev q6b:IC:=.gh (.seq (.reg [od 60 (.bin .lss (tm 59) (tm 58))] [.keepE [2,3,4,7,9,10,12,51,52,53,57,58,59,60]]) (.seq (.cond (tm 60) .skip (.exit 2)) (.seq (.block 3 (.seq (.reg [om 61 59,od 62 (ia 1 57 59),od 63 (ld 1 62),om
 13 61,om 14 63] [.keepE [2,3,4,7,9,10,12,13,14,51,52,53,57,58,59]]) (.reg [om 64 12,om 65 13,om 66 10,om 67 14,od 68 (.callv (tm 66) [(tm 67)]),od 69 (ia 1 64 65),on (.store 1 (tm 69) (tm 68))] [.keepE [2,3,
 4,7,9,10,12,51,52,53,57,58,59]]))) (.reg [od 70 (.bin .add (tm 59) (ki 1)),om 59 70] [.keepE [2,3,4,7,9,10,12,51,52,53,57,58,59]])))) [.keepE [2,3,4,7,9,10,12,51,52,53,57,58,59]]
def q6c:IC:=.loop q6b
abbrev q6d:IC:=.gh (.seq (.reg [od 54 (.bin .lss (tm 53) (tm 52))] [.keepE [2,3,4,7,9,10,51,52,53,54]]) (.seq (.cond (tm 54) .skip (.exit 0)) (.seq (.block 1 (.seq (.reg [od 55 (ia 1 51 53),od 56 (ld 1 55),om 12 56] [.keepE [2,3,4,
 7,9,10,12,51,52,53]]) (.seq (.reg [om 57 12,od 58 (le 0 57),od 59 (.mv (ki 0))] [.keepE [2,3,4,7,9,10,12,51,52,53,57,58,59]]) (.block 2 q6c)))) (.reg [od 71 (.bin .add (tm 53) (ki 1)),om 53 71]
 [.keepE [2,3,4,7,9,10,51,52,53]])))) [.keepE [2,3,4,7,9,10,51,52,53]]
def q6e:IC:=.loop q6d
abbrev q6f:IC:=.gh (.seq (.reg [od 113 (.bin .lss (tm 112) (tm 111))] [.keepE [2,3,4,7,9,15,16,17,18,78,79,80,110,111,112,113]]) (.seq (.cond (tm 113) .skip (.exit 6)) (.seq (.block 7 (.seq (.reg [om 114 112,od 115 (ia 1 110 112),
 od 116 (ld 1 115),om 19 114,om 20 116] [.keepE [2,3,4,7,9,15,16,17,18,19,20,78,79,80,110,111,112]]) (.seq (.reg [om 117 18,om 118 19,od 119 (ld 1 9),om 120 20,od 121 (.bin .add (tm 119) (tm 120)),od 122 (.bin
 .add (tm 121) (ki 1)),od 123 (ia 1 117 118),on (.store 1 (tm 123) (tm 122))] [.keepE [2,3,4,7,9,15,16,17,18,19,78,79,80,110,111,112]]) (.seq (.reg [od 124 (fa 1 3),od 125 (lG 2 124),om 126 15,om 127 19,od 128
 (.build [(1,(tm 126)),(1,(tm 127))]),od 129 (.eqg true [(some .i64),(some .i64)] (tm 125) (tm 128))] [.keepE [2,3,4,7,9,15,16,17,18,19,78,79,80,110,111,112,129]]) (.cond (tm 129) (.seq (.reg [om 130 18,om 131
 19,od 132 (.hcallW 48 [(tm 7)] 0),od 133 (ia 1 130 131),on (.store 1 (tm 133) (tm 132))] [.keepE [2,3,4,7,9,15,16,17,18,19,78,79,80,110,111,112]]) (.reg [om 134 18,om 135 19,od 136 (ia 1 134 135),od 137 (ld 1
 136),od 138 (fa 3 3),od 139 (ld 1 138),od 140 (.hcallW 45 [(tm 7),(tm 137),(tm 139)] 100000)] [.keepE [2,3,4,7,9,15,16,17,18,78,79,80,110,111,112]])) .skip))))) (.reg [od 141 (.bin .add (tm 112) (ki 1)),om 112
 141] [.keepE [2,3,4,7,9,15,16,17,18,78,79,80,110,111,112]])))) [.keepE [2,3,4,7,9,15,16,17,18,78,79,80,110,111,112]]
def q6g:IC:=.loop q6f
abbrev q6h:IC:=.gh (.seq (.reg [od 81 (.bin .lss (tm 80) (tm 79))] [.keepE [2,3,4,7,9,78,79,80,81]]) (.seq (.cond (tm 81) .skip (.exit 4)) (.seq (.block 5 (.seq (.reg [om 82 80,od 83 (ia 4 78 80),od 84 (lG 4 83),od 16 (.alloc false
 [(.int .u8 0),(.slice none 0 0),(.int .i64 0),(.int .i64 0)]),om 15 82,on (.store 4 (tm 16) (tm 84))] [.keepE [2,3,4,7,9,15,16,78,79,80]]) (.seq (.reg [od 85 (ld 1 9),om 86 15,od 87 (.bin .add (tm 85) (tm 86)),od
 88 (.bin .add (tm 87) (ki 1)),om 17 88] [.keepE [2,3,4,7,9,15,16,17,78,79,80]]) (.seq (.seq (.reg [od 89 (fa 1 3),od 90 (lG 2 89),om 91 15,od 92 (.build [(1,(tm 91)),(1,(.const (.int .i64 (-1))))]),od 93 (.eqg
 true [(some .i64),(some .i64)] (tm 90) (tm 92))] [.keepE [2,3,4,7,9,15,16,17,78,79,80,93]]) (.cond (tm 93) (.seq (.reg [om 94 17,od 95 (fa 3 3),od 96 (ld 1 95),od 97 (.hcallW 45 [(tm 7),(tm 94),(tm 96)] 100000)]
 [.ren 100900 400900,.renS 100012 30000 80,.keepE [2,3,4,7,9,78,79,80]]) (.exit 5)) .skip)) (.seq (.seq (.reg [od 98 (fa 0 16),od 99 (ld 1 98),od 100 (.call 46 [(tm 99)])] [.keepE [2,3,4,7,9,15,16,17,78,79,80,
 100]]) (.cond (tm 100) (.seq (.reg [om 101 17,om 102 15,od 103 (.bin .add (tm 102) (ki 1)),od 104 (.hcallW 47 [(tm 7),(tm 101),(tm 103)] 100000)] [.ren 100900 400900,.renS 100010 31000 80,.renS 100014 32000 80,.keepE [2,3,
 4,7,9,78,79,80]]) (.exit 5)) .skip)) (.seq (.reg [od 105 (fa 1 16),od 106 (ld 1 105),od 107 (le 0 106),od 108 (.mk 3 1 [(.int .i64 0)] (tm 107) (tm 107)),om 18 108] [.keepE [2,3,4,7,9,15,16,17,18,78,79,80]])
 (.seq (.seq (.reg [od 109 (fa 1 16),od 110 (ld 1 109),od 111 (le 0 110),od 112 (.mv (ki 0))] [.keepE [2,3,4,7,9,15,16,17,18,78,79,80,110,111,112]]) (.block 6 q6g)) (.seq (.pre [.frz 108] (.reg [od 142 (fa
 0 16),od 143 (ld 1 142),om 144 17,om 145 18,od 146 (.hcallW 49 [(tm 7),(tm 143),(tm 144),(tm 145)] 100000)] [.ren 100900 400900,.renS 103000 33000 80,.renS 103001 34000 80,.renS 103900 35000 80,.keepE [2,3,4,7,9,78,
 79,80]])) (.seq (.reg [od 147 (.hcallW 50 [(tm 7)] 0),om 21 147] [.keepE [2,3,4,7,9,21,78,79,80]]) (.seq (.reg [om 148 21,od 149 (.bin .neq (tm 148) (ki 0))] [.keepE [2,3,4,7,9,21,78,79,80,149]]) (.cond (tm 149)
 (.seq (.reg [od 150 (.build [(1,(ki 0)),(1,kN)]),om 151 21,on (.store 2 (tm 4) (tm 150)),om 5 151] [.keepE [4,5]]) .ret) .skip))))))))))) (.reg [od 152 (.bin .add (tm 80) (ki 1)),om 80 152] [.drop [16],.keepE [2,3,4,7,
 9,78,79,80]])))) [.keepE [2,3,4,7,9,78,79,80]]
def q6i:IC:=.loop q6h
abbrev q6j:IC:=.gh (.seq (.reg [od 158 (.bin .lss (tm 157) (tm 156))] [.keepE [2,3,4,7,22,23,155,156,157,158]]) (.seq (.cond (tm 158) .skip (.exit 8)) (.seq (.block 9 (.seq (.reg [od 159 (ia 1 155 157),od 160 (ld 1 159),om 25 160]
 [.keepE [2,3,4,7,22,23,25,155,156,157]]) (.reg [om 161 23,om 162 25,od 163 (.hcallvW (tm 161) [(tm 162)] 100000)] [.ren 100900 400900,.ren 100032 905,.renS 100015 36000 157,.renS 100026 37000 157,.keepE [2,3,4,7,
 22,23,155,156,157]]))) (.reg [od 164 (.bin .add (tm 157) (ki 1)),om 157 164] [.keepE [2,3,4,7,22,23,155,156,157]])))) [.keepE [2,3,4,7,22,23,155,156,157]]
def q6k:IC:=.loop q6j
abbrev q60:IC:=.gh (.seq (.reg [od 169 (.bin .lss (tm 168) (tm 167))] [.keepE [2,3,4,7,22,23,166,167,168,169]]) (.seq (.cond (tm 169) .skip (.exit 10)) (.seq (.block 11 (.seq (.reg [od 170 (ia 1 166 168),od 171 (ld 1 170),om 27 171]
 [.keepE [2,3,4,7,22,23,27,166,167,168]]) (.seq (.reg [od 172 (fa 0 2),od 173 (ld 1 172),om 174 27,od 175 (ia 4 173 174),od 176 (fa 1 175),od 177 (ld 1 176),od 178 (.iadr 1 (tm 177) (ki 0)),od 179 (ld 1 178),om 28
 179] [.keepE [2,3,4,7,22,23,27,28,166,167,168]]) (.seq (.seq (.reg [od 180 (fa 1 3),od 181 (lG 2 180),om 182 27,od 183 (.build [(1,(tm 182)),(1,(ki 0))]),od 184 (.eqg false [(some .i64),(some .i64)] (tm 181) (tm
 183))] [.keepE [2,3,4,7,22,23,28,166,167,168,184]]) (.cond (tm 184) (.seq (.reg [om 185 23,om 186 28,od 187 (.hcallvW (tm 185) [(tm 186)] 100000)] [.keepE [2,3,4,7,22,23,166,167,168]]) (.exit 11)) .skip)) (.seq
 (.reg [od 188 (fa 3 3),od 189 (ld 1 188),od 190 (.bin .eql (tm 189) (ku 0))] [.keepE [2,3,4,7,22,23,28,166,167,168,190]]) (.cond (tm 190) (.reg [od 191 (ld 1 22),om 192 28,od 193 (.bin .add (tm 192) (ki 1)),od 194
 (.bsl true 3 1 [(tm 193)]),od 195 (.app false 3 1 (tm 191) (tm 194)),on (.store 1 (tm 22) (tm 195))] [.keepE [2,3,4,7,22,23,166,167,168]]) (.reg [od 196 (ld 1 22),om 197 28,od 198 (.un .neg (tm 197)),od 199 (.bin .sub
 (tm 198) (ki 1)),od 200 (.bsl true 3 1 [(tm 199)]),od 201 (.app false 3 1 (tm 196) (tm 200)),on (.store 1 (tm 22) (tm 201))] [.keepE [2,3,4,7,22,23,166,167,168]]))))))) (.reg [od 202 (.bin .add (tm 168) (ki 1)),om 168
 202] [.keepE [2,3,4,7,22,23,166,167,168]])))) [.keepE [2,3,4,7,22,23,166,167,168]]
def q61:IC:=.loop q60
abbrev q1B:IC:=(.seq (.reg [od 2 (.box true (tm 0)),od 3 (.box true (tm 1)),od 4 (.alloc false [(.int .i64 0),(.slice none 0 0)]),od 5 (.mv (ki 0))] [.keepE [2,3,4]]) (.seq (.seq (.reg [od 30 (lG 4 2),od 31 (lG 5 3),od 32 (.call 42 [(tm
 30),(tm 31)]),om 6 32] [.keepE [2,3,4,6]]) (.seq (.reg [om 33 6,od 34 (.bin .neq (tm 33) (ki 0))] [.keepE [2,3,4,6,34]]) (.cond (tm 34) (.seq (.reg [od 35 (.build [(1,(ki 0)),(1,kN)]),om 36 6,on (.store 2 (tm 4) (tm
 35)),om 5 36] [.keepE [4,5]]) .ret) .skip))) (.seq (.reg [od 38 (lG 4 2),od 39 (.ncall 43 [(tm 38)] 400000),om 37 39,od 40 (ex 37 0),od 41 (ex 37 1),od 7 (.alloc false [(.int .i64 0),(.slice none 0 0)]),on (.store 2 (tm 7)
 (tm 40)),om 8 41] [.keepE [2,3,4,7,8]]) (.seq (.seq (.reg [om 42 8,od 43 (.bin .neq (tm 42) (ki 0))] [.keepE [2,3,4,7,8,43]]) (.cond (tm 43) (.seq (.reg [od 44 (.build [(1,(ki 0)),(1,kN)]),om 45 8,on (.store 2 (tm
 4) (tm 44)),om 5 45] [.keepE [4,5]]) .ret) .skip)) (.seq (.reg [od 46 (fa 0 2),od 47 (ld 1 46),od 48 (le 0 47),od 9 (.alloc false [(.int .i64 0)]),on (.store 1 (tm 9) (tm 48))] [.keepE [2,3,4,7,9]]) (.seq (.reg [od 49
 (.mkf 44 [(tm 9)]),om 10 49] [.keepE [2,3,4,7,9,10]]) (.seq (.seq (.reg [od 50 (fa 1 7),od 51 (ld 1 50),od 52 (le 0 51),od 53 (.mv (ki 0))] [.keepE [2,3,4,7,9,10,51,52,53]]) (.block 0 q6e)) (.seq (.reg
 [od 72 (fa 0 7),od 73 (ld 1 72),od 74 (ld 1 9),od 75 (.bin .add (tm 73) (tm 74)),od 76 (fa 0 7),on (.store 1 (tm 76) (tm 75))] [.keepE [2,3,4,7,9]]) (.seq (.seq (.reg [od 77 (fa 0 2),od 78 (ld 1 77),od 79 (le 0 78),od
 80 (.mv (ki 0))] [.keepE [2,3,4,7,9,78,79,80]]) (.block 4 q6i)) (.seq (.reg [od 22 (.alloc false [(.slice none 0 0)])] [.nlb 22 0 905 3 1,.keepE [2,3,4,7,9,22]]) (.seq (.reg [od 153 (.mkf 51 [(tm 7),(tm 9),
 (tm 22)]),om 23 153] [.keepE [2,3,4,7,22,23]]) (.seq (.seq (.reg [od 154 (fa 3 2),od 155 (ld 1 154),od 156 (le 0 155),od 157 (.mv (ki 0))] [.keepE [2,3,4,7,22,23,155,156,157]]) (.block 8 q6k)) (.seq (.seq
 (.reg [od 165 (lG 4 2),od 166 (.call 30 [(tm 165)]),od 167 (le 0 166),od 168 (.mv (ki 0))] [.keepE [2,3,4,7,22,23,166,167,168]]) (.block 10 q61)) (.seq (.reg [od 203 (ld 1 22),od 204 (.bslA 37 1 [(tm 203)]),
 od 205 (.hcallW 20 [(tm 7),(tm 204)] 100000)] [.ren 100010 400900,.drop [204],.keepE [4,7,22]]) (.seq (.seq (.reg [od 206 (.hcallW 50 [(tm 7)] 0),om 29 206] [.keepE [4,7,22,29]]) (.seq (.reg [om 207 29,od 208 (.bin .neq
 (tm 207) (ki 0)),om 209 208,oF 210 (ld 1 22) 209,oF 211 (le 0 210) 209,oF 212 (.bin .gtr (tm 211) (ki 4096)) 209,od 213 (.pick (tm 209) kT (tm 212))] [.keepE [4,7,213]]) (.cond (tm 213) (.seq (.reg [od 214 (.build [(1,(ki
 0)),(1,kN)]),on (.store 2 (tm 4) (tm 214)),od 5 (.mv (ki 3))] [.keepE [4,5]]) .ret) .skip))) (.seq (.pre [.frzs 420000 8,.frzs 421000 8,.frzs 422000 8,.frzs 30000 8,.frzs 31000 8,.frzs 32000 8,.frzs 33000 8,.frzs 34000
 8,.frzs 35000 8,.frzs 36000 8,.frzs 37000 8,.frz 905,.frz 400900] (.reg [od 215 (lG 2 7),on (.store 2 (tm 4) (tm 215)),od 5 (.mv (ki 0))] [.keepE [4,5]])) .ret))))))))))))))))
def q1C:List RV:=[.cell 4 2 true,.tmp 5]
/- probecard/cnfs.Miter$1 (function 44) -/
abbrev Yr:IC:=(.seq (.reg [od 3 (.mv (ki 0))] [kp [0,1] []]) (.seq (.block 0 (.seq (.reg [om 5 0,od 6 (ld 1 1),od 7 (.bin .gtr (tm 5) (tm 6)),om 4 7] [kp [0,1,4] []]) (.cond (tm 4) (.seq (.reg [om 8 0,od 9 (ld 1 1),od 10 (.bin .add (tm
 8) (tm 9)),om 3 10] [kp [3] []]) .ret) (.seq (.reg [om 12 0,od 13 (ld 1 1),od 14 (.un .neg (tm 13)),od 15 (.bin .lss (tm 12) (tm 14)),om 11 15] [kp [0,1,11] []]) (.cond (tm 11) (.seq (.reg [om 16 0,od 17 (ld 1 1),od 18
 (.bin .sub (tm 16) (tm 17)),om 3 18] [kp [3] []]) .ret) .skip))))) (.seq (.reg [om 19 0,om 3 19] [kp [3] []]) .ret)))
def Ys:List RV:=[.tmp 3]
/- probecard/cnfs.Miter$2 (function 51) -/
abbrev Yt:IC:=(.seq (.reg [od 6 (.hcallW 48 [(tm 1)] 0),om 5 6] [.keepE [0,1,2,3,5]]) (.seq (.reg [om 7 5,od 8 (.un .neg (tm 7)),om 9 0,od 10 (.bin .add (tm 9) (ki 1)),od 11 (ld 1 2),om 12 0,od 13 (.bin .add (tm 11) (tm 12)),od 14
 (.bin .add (tm 13) (ki 1)),od 15 (.bsl false 3 1 [(tm 8),(tm 10),(tm 14)]),om 16 5,od 17 (.un .neg (tm 16)),om 18 0,od 19 (.un .neg (tm 18)),od 20 (.bin .sub (tm 19) (ki 1)),od 21 (ld 1 2),od 22 (.un .neg (tm 21)),om 23
 0,od 24 (.bin .sub (tm 22) (tm 23)),od 25 (.bin .sub (tm 24) (ki 1)),od 26 (.bsl false 3 1 [(tm 17),(tm 20),(tm 25)]),od 27 (.bslA 37 1 [(tm 15),(tm 26)]),od 28 (.hcallW 20 [(tm 1),(tm 27)] 100000)] [.ren 100010 900,.drop
 [27],.keepE [3,5]]) (.reg [od 29 (ld 1 3),om 30 5,od 31 (.bsl true 3 1 [(tm 30)]),od 32 (.app false 3 1 (tm 29) (tm 31)),on (.store 1 (tm 3) (tm 32))] [.keepE []])))
def Yu:List RV:=[]
/- probecard/cnfs.Generate (function 13) -/
abbrev q3g:IC:=.gh (.seq (.reg [od 41 (.bin .lss (tm 40) (tm 39))] [kp [3,6,10,38,39,40,41] [6,900,901]]) (.seq (.cond (tm 41) .skip (.exit 0)) (.seq (.block 1 (.seq (.reg [od 42 (ia 1 38 40),od 43 (ld 1 42),om 12 43] [kp [3,6,10,12,
 38,39,40] [6,900,901]]) (.reg [od 44 (fa 0 6),od 45 (.ldR 6 1 false (tm 44)),om 46 10,om 47 12,od 48 (ia 1 46 47),od 49 (.ldT 1 false (tm 48)),od 50 (.bsl true 41 1 [(tm 49)]),oz 51 (.app false 41 1 (tm 45) (tm 50)) 900,
 od 52 (fa 0 6),on (.stR 6 1 (tm 52) (tm 51))] [kp [3,6,10,38,39,40] [6,900,901]]))) (.reg [od 53 (.bin .add (tm 40) (ki 1)),om 40 53] [kp [3,6,10,38,39,40] [6,900,901]])))) [kp [3,6,10,38,39,40] [6,900,901]]
def q3h:IC:=.loop q3g
abbrev q3i:IC:=.gh (.seq (.reg [od 58 (.bin .lss (tm 57) (tm 56))] [kp [6,10,55,56,57,58] [6,900,901]]) (.seq (.cond (tm 58) .skip (.exit 2)) (.seq (.block 3 (.seq (.reg [od 59 (ia 1 55 57),od 60 (ld 1 59),om 14 60] [kp [6,10,14,55,
 56,57] [6,900,901]]) (.reg [od 61 (fa 1 6),od 62 (.ldR 6 1 false (tm 61)),om 63 10,om 64 14,od 65 (ia 1 63 64),od 66 (.ldT 1 false (tm 65)),od 67 (.bsl true 41 1 [(tm 66)]),oz 68 (.app false 41 1 (tm 62) (tm 67)) 901,od
 69 (fa 1 6),on (.stR 6 1 (tm 69) (tm 68))] [kp [6,10,55,56,57] [6,900,901]]))) (.reg [od 70 (.bin .add (tm 57) (ki 1)),om 57 70] [kp [6,10,55,56,57] [6,900,901]])))) [kp [6,10,55,56,57] [6,900,901]]
def q3j:IC:=.loop q3i
abbrev Wq:IC:=(.seq (.reg [od 3 (.box true (tm 0)),od 4 (.box true (tm 1)),od 6 (.alloc false [(.slice none 0 0),(.slice none 0 0)]),od 7 (.mv kF),od 8 (.mv (ki 0))] [.nlb 6 0 900 41 1,.nlb 6 1 901 41 1,kp [2,3,4,6] [6,900,901]])
 (.seq (.reg [od 16 (lG 4 3),od 17 (lG 5 4),od 18 (.call 28 [(tm 16),(tm 17)]),om 15 18,od 19 (ex 15 0),od 20 (ex 15 1),od 9 (.alloc false [(.int .i64 0),(.slice none 0 0)]),on (.store 2 (tm 9) (tm 19)),om 8 20] [kp [2,3,
 6,8,9] [6,9,900,901]]) (.seq (.seq (.reg [om 21 8,od 22 (.bin .neq (tm 21) (ki 0))] [kp [2,3,6,8,9,22] [6,9,900,901]]) (.cond (tm 22) (.seq (.reg [od 23 (.build [(1,kN),(1,kN)]),om 24 8,on (.store 2 (tm 6) (tm
 23)),od 7 (.mv kF),om 8 24] [kp [6,7,8] [6,900,901]]) .ret) .skip)) (.seq (.reg [od 26 (lG 2 9),om 27 2,od 28 (.call 12 [(tm 26),(tm 27)]),om 25 28,od 29 (ex 25 0),od 30 (ex 25 1),od 31 (ex 25 2),om 10 29,om 7 30,om
 8 31] [kp [3,6,7,8,10] [6,900,901]]) (.seq (.seq (.reg [om 32 10,od 33 (.isNil true (tm 32))] [kp [3,6,7,8,10,33] [6,900,901]]) (.cond (tm 33) (.seq (.reg [od 34 (.build [(1,kN),(1,kN)]),om 35 7,om 36 8,on
 (.store 2 (tm 6) (tm 34)),om 7 35,om 8 36] [kp [6,7,8] [6,900,901]]) .ret) .skip)) (.seq (.seq (.reg [od 37 (lG 4 3),od 38 (.call 29 [(tm 37)]),od 39 (le 0 38),od 40 (.mv (ki 0))] [kp [3,6,10,38,39,40] [6,900,901]])
 (.block 0 q3h)) (.seq (.seq (.reg [od 54 (lG 4 3),od 55 (.call 30 [(tm 54)]),od 56 (le 0 55),od 57 (.mv (ki 0))] [kp [6,10,55,56,57] [6,900,901]]) (.block 2 q3j)) (.seq (.pre [.frz 900,.frz 901]
 (.reg [od 71 (lG 2 6),on (.store 2 (tm 6) (tm 71)),od 7 (.mv kT),od 8 (.mv (ki 0))] [kp [6,7,8] [6,900,901]])) .ret))))))))
def Ws:List RV:=[.cell 6 2 true,.tmp 7,.tmp 8]
/- probecard/implies.Plain (function 63) -/
abbrev Wt:IC:=(.seq (.reg [od 1 (.box true (tm 0)),od 2 (.mv (ki 0))] [kp [1] []]) (.seq (.seq (.reg [od 4 (lG 4 1),od 5 (.call 86 [(tm 4)]),om 3 5] [kp [1,3] []]) (.seq (.reg [om 6 3,od 7 (.bin .neq (tm 6) (ki 0))] [kp [1,3,7] []])
 (.cond (tm 7) (.seq (.reg [om 8 3,om 2 8] [kp [2] []]) .ret) .skip))) (.seq (.seq (.reg [od 9 (fa 2 1),od 10 (ld 1 9),od 11 (le 0 10),od 12 (.bin .gtr (tm 11) (ki 0)),om 13 12,oF 14 (lG 4 1) 13,oF 15 (.bsl true 42 1 [(ku
 12),(ku 13),(ku 15)]) 13,oF 16 (.call 52 [(tm 14),(tm 15)]) 13,oF 17 (le 0 16) 13,oF 18 (.bin .gtr (tm 17) (ki 0)) 13,od 19 (.pick (tm 13) kT (tm 18))] [kp [19] []]) (.cond (tm 19) (.seq (.reg [od 2 (.mv (ki 7))] [kp [2]
 []]) .ret) .skip)) (.seq (.reg [od 2 (.mv (ki 0))] [kp [2] []]) .ret))))
def Wu:List RV:=[.tmp 2]
/- probecard/faults.Check (function 64) -/
abbrev Yv:IC:=(.seq (.reg [od 2 (.box true (tm 0)),od 3 (.box true (tm 1)),od 4 (.mv (ki 0))] [kp [2,3] []]) (.seq (.seq (.reg [od 6 (lG 4 2),od 7 (.call 87 [(tm 6)]),om 5 7] [kp [2,3,5] []]) (.seq (.reg [om 8 5,od 9 (.bin .neq (tm 8)
 (ki 0))] [kp [2,3,5,9] []]) (.cond (tm 9) (.seq (.reg [om 10 5,om 4 10] [kp [4] []]) .ret) .skip))) (.seq (.block 0 (.seq (.reg [od 12 (fa 0 3),od 13 (ld 1 12),od 14 (.bin .gtr (tm 13) (ku 3)),om 15 14,oF 16 (fa 3 3) 15,oF
 17 (ld 1 16) 15,oF 18 (.bin .gtr (tm 17) (ku 1)) 15,od 19 (.pick (tm 15) kT (tm 18)),om 20 19,oF 21 (lG 4 2) 20,oF 22 (fa 1 3) 20,oF 23 (lG 2 22) 20,oF 24 (.call 88 [(tm 21),(tm 23)]) 20,oF 25 (.un .not (tm 24)) 20,od 26
 (.pick (tm 20) kT (tm 25)),om 11 26] [kp [2,3,11] []]) (.cond (tm 11) (.seq (.reg [od 4 (.mv (ki 1))] [kp [4] []]) .ret) (.seq (.reg [od 28 (fa 0 3),od 29 (ld 1 28),od 30 (.bin .geq (tm 29) (ku 2)),om 27 30] [kp [2,3,27]
 []]) (.cond (tm 27) (.seq (.reg [od 31 (lG 4 2),od 32 (lG 5 3),od 33 (.call 89 [(tm 31),(tm 32)]),om 4 33] [kp [4] []]) .ret) (.seq (.reg [od 35 (fa 4 3),od 36 (ld 1 35),od 37 (.bin .neq (tm 36) (ki 0)),om 34 37] [kp [34]
 []]) (.cond (tm 34) (.seq (.reg [od 4 (.mv (ki 1))] [kp [4] []]) .ret) .skip))))))) (.seq (.reg [od 4 (.mv (ki 0))] [kp [4] []]) .ret))))
def Yw:List RV:=[.tmp 4]
/- probecard/faults.valid (function 87) -/
abbrev Yx:IC:=(.seq (.reg [od 1 (.box true (tm 0)),od 2 (.mv (ki 0))] [kp [1] []]) (.seq (.seq (.reg [od 4 (lG 4 1),od 5 (.call 86 [(tm 4)]),om 3 5] [kp [1,3] []]) (.seq (.reg [om 6 3,od 7 (.bin .neq (tm 6) (ki 0))] [kp [1,3,7] []])
 (.cond (tm 7) (.seq (.reg [om 8 3,om 2 8] [kp [2] []]) .ret) .skip))) (.seq (.seq (.reg [od 9 (fa 2 1),od 10 (ld 1 9),od 11 (le 0 10),od 12 (.bin .gtr (tm 11) (ki 0))] [kp [12] []]) (.cond (tm 12) (.seq (.reg [od 2 (.mv (ki
 7))] [kp [2] []]) .ret) .skip)) (.seq (.reg [od 2 (.mv (ki 0))] [kp [2] []]) .ret))))
def Yy:List RV:=[.tmp 2]
/- probecard/faults.line (function 88) -/
abbrev q0B:IC:=(.seq (.reg [od 2 (.box true (tm 0)),od 3 (.box true (tm 1)),od 4 (.mv kF)] [kp [2,3] []]) (.seq (.reg [od 5 (fa 0 3),od 6 (ld 1 5),od 7 (.bin .geq (tm 6) (ki 0)),om 8 7,oT 9 (fa 0 3) 8,oT 10 (ld 1 9) 8,oT 11 (fa 0 2) 8,
 oT 12 (ld 1 11) 8,oT 13 (le 0 12) 8,oT 14 (.bin .lss (tm 10) (tm 13)) 8,od 15 (.pick (tm 8) (tm 14) kF),om 16 15,oT 17 (fa 1 3) 16,oT 18 (ld 1 17) 16,oT 19 (.bin .geq (tm 18) (.const (.int .i64 (-1)))) 16,od 20 (.pick (tm
 16) (tm 19) kF),om 21 20,oT 22 (fa 1 3) 21,oT 23 (ld 1 22) 21,oT 24 (fa 0 2) 21,oT 25 (ld 1 24) 21,oT 26 (fa 0 3) 21,oT 27 (ld 1 26) 21,oT 28 (ia 4 25 27) 21,oT 29 (fa 1 28) 21,oT 30 (ld 1 29) 21,oT 31 (le 0 30) 21,oT
 32 (.bin .lss (tm 23) (tm 31)) 21,od 33 (.pick (tm 21) (tm 32) kF),om 4 33] [kp [4] []]) .ret))
def q0C:List RV:=[.tmp 4]
/- probecard/probecardlaw28.lives (function 5) -/
abbrev q0D:IC:=(.seq (.reg [od 0 (.mv kF)] [kp [] []]) (.seq (.reg [od 28 (.bsl true 3 1 [(ki 1),(ki 2)]),od 29 (.bsl true 3 1 [(.const (.int .i64 (-1)))]),od 30 (.bsl true 37 1 [(tm 28),(tm 29)]),od 31 (.build [(1,(ki 2)),(1,(tm 30))]),
 od 32 (.call 12 [(tm 31),(ki 9)]),om 27 32,od 33 (ex 27 0),od 34 (ex 27 1),od 35 (ex 27 2),om 1 33,om 2 34,om 3 35] [kp [1,2,3] []]) (.seq (.reg [od 37 (.bsl true 3 1 [(ki 1)]),od 38 (.bsl true 3 1 [(.const (.int .i64
 (-1)))]),od 39 (.bsl true 37 1 [(tm 37),(tm 38)]),od 40 (.build [(1,(ki 1)),(1,(tm 39))]),od 41 (.call 12 [(tm 40),(ki 9)]),om 36 41,od 42 (ex 36 0),od 43 (ex 36 1),od 44 (ex 36 2),om 4 42,om 5 43,om 6 44] [kp [1,2,
 3,5,6] []]) (.seq (.reg [od 46 (.bsl true 3 1 []),od 47 (.bsl true 37 1 [(tm 46)]),od 48 (.build [(1,(ki 0)),(1,(tm 47))]),od 49 (.call 12 [(tm 48),(ki 9)]),om 45 49,od 50 (ex 45 0),od 51 (ex 45 1),od 52 (ex 45 2),om
 7 50,om 8 51,om 9 52] [kp [1,2,3,5,6,8,9] []]) (.seq (.reg [od 54 (.build [(1,(ki 0)),(1,kN)]),od 55 (.call 12 [(tm 54),(ki 0)]),om 53 55,od 56 (ex 53 0),od 57 (ex 53 1),od 58 (ex 53 2),om 10 56,om 11 57,om 12
 58] [kp [1,2,3,5,6,8,9,10,11,12] []]) (.seq (.reg [od 59 (.bsl true 3 1 [(ki 1),(ki 2)]),od 60 (.bsl true 3 1 [(.const (.int .i64 (-1))),(ki 2)]),od 61 (.bsl true 3 1 [(ki 1),(.const (.int .i64 (-2)))]),od 62 (.bsl
 true 3 1 [(.const (.int .i64 (-1))),(.const (.int .i64 (-2)))]),od 63 (.bsl true 37 1 [(tm 59),(tm 60),(tm 61),(tm 62)]),od 64 (.build [(1,(ki 2)),(1,(tm 63))]),od 13 (.alloc false [(.int .i64 0),(.slice none 0 0)]),on
 (.store 2 (tm 13) (tm 64))] [kp [1,2,3,5,6,8,9,10,11,12,13] [13]]) (.seq (.reg [od 66 (lG 2 13),od 67 (.call 12 [(tm 66),(ki 0)]),om 65 67,od 68 (ex 65 0),od 69 (ex 65 1),od 70 (ex 65 2),om 14 68,om 15 69,om 16
 70] [kp [1,2,3,5,6,8,9,10,11,12,13,15,16] [13]]) (.seq (.reg [od 72 (lG 2 13),od 73 (.call 12 [(tm 72),(ki 1)]),om 71 73,od 74 (ex 71 0),od 75 (ex 71 1),od 76 (ex 71 2),om 17 74,om 18 75,om 19 76] [kp [1,2,3,
 5,6,8,9,10,11,12,15,16,18,19] []]) (.seq (.seq (.reg [om 77 3,od 78 (.bin .neq (tm 77) (ki 0)),om 79 78,oF 80 (.mv (tm 2)) 79,oF 81 (.un .not (tm 80)) 79,od 82 (.pick (tm 79) kT (tm 81)),om 83 82,oF 84 (.mv (tm 1))
 83,oF 85 (le 0 84) 83,oF 86 (.bin .neq (tm 85) (ki 2)) 83,od 87 (.pick (tm 83) kT (tm 86)),om 88 87,oF 89 (.mv (tm 1)) 88,oF 90 (.iadr 1 (tm 89) (ki 0)) 88,oF 91 (ld 1 90) 88,oF 92 (.bin .neq (tm 91) (ku 0)) 88,od 93
 (.pick (tm 88) kT (tm 92)),om 94 93,oF 95 (.mv (tm 1)) 94,oF 96 (.iadr 1 (tm 95) (ki 1)) 94,oF 97 (ld 1 96) 94,oF 98 (.bin .neq (tm 97) (ku 1)) 94,od 99 (.pick (tm 94) kT (tm 98)),om 100 99,oF 101 (.mv (tm 6)) 100,oF 102
 (.bin .neq (tm 101) (ki 9)) 100,od 103 (.pick (tm 100) kT (tm 102)),om 104 103,oF 105 (.mv (tm 5)) 104,oF 106 (.un .not (tm 105)) 104,od 107 (.pick (tm 104) kT (tm 106)),om 108 107,oF 109 (.mv (tm 9)) 108,oF 110 (.bin .neq
 (tm 109) (ki 9)) 108,od 111 (.pick (tm 108) kT (tm 110)),om 112 111,oF 113 (.mv (tm 8)) 112,oF 114 (.un .not (tm 113)) 112,od 115 (.pick (tm 112) kT (tm 114)),om 116 115,oF 117 (.mv (tm 12)) 116,oF 118 (.bin .neq (tm 117)
 (ki 0)) 116,od 119 (.pick (tm 116) kT (tm 118)),om 120 119,oF 121 (.mv (tm 11)) 120,oF 122 (.un .not (tm 121)) 120,od 123 (.pick (tm 120) kT (tm 122)),om 124 123,oF 125 (.mv (tm 10)) 124,oF 126 (le 0 125) 124,oF 127 (.bin
 .neq (tm 126) (ki 0)) 124,od 128 (.pick (tm 124) kT (tm 127)),om 129 128,oF 130 (.mv (tm 15)) 129,od 131 (.pick (tm 129) kT (tm 130)),om 132 131,oF 133 (.mv (tm 16)) 132,oF 134 (.bin .neq (tm 133) (ki 0)) 132,od 135 (.pick
 (tm 132) kT (tm 134)),om 136 135,oF 137 (.mv (tm 18)) 136,oF 138 (.un .not (tm 137)) 136,od 139 (.pick (tm 136) kT (tm 138)),om 140 139,oF 141 (.mv (tm 19)) 140,oF 142 (.bin .neq (tm 141) (ki 9)) 140,od 143 (.pick (tm 140)
 kT (tm 142))] [kp [143] []]) (.cond (tm 143) (.seq (.reg [od 0 (.mv kF)] [kp [0] []]) .ret) .skip)) (.seq (.seq (.reg [od 144 (.bsl true 3 1 [(ki 1),(.const (.int .i64 (-2)))]),od 145 (.bsl true 3 1 []),od 146 (.bsl true 37 1
 [(tm 144),(tm 145)]),od 147 (.build [(1,(ki 2)),(1,(tm 146))]),od 148 (.call 7 [(tm 147)]),od 149 (.bin .neq (tm 148) (.const (sV [112,32,99,110,102,32,50,32,50,10,49,32,45,50,32,48,10,48,10])))] [kp [149]
 []]) (.cond (tm 149) (.seq (.reg [od 0 (.mv kF)] [kp [0] []]) .ret) .skip)) (.seq (.reg [od 150 (.build [(1,(ku 0)),(1,kN),(1,(ki 0)),(1,(ki 0))]),od 151 (.build [(1,(ku 0)),(1,kN),(1,(ki 0)),(1,(ki 0))]),od 152
 (.bsl true 3 1 [(ki 0),(ki 1)]),od 153 (.build [(1,(ku 5)),(1,(tm 152)),(1,(ki 0)),(1,(ki 0))]),od 154 (.bsl true 3 1 [(ki 0),(ki 2)]),od 155 (.build [(1,(ku 7)),(1,(tm 154)),(1,(ki 0)),(1,(ki 0))]),od 156 (.bsl
 true 44 4 [(tm 150),(tm 151),(tm 153),(tm 155)]),od 157 (.bsl true 9 1 [(.const (sV [97])),(.const (sV [98])),(.const (sV [100])),(.const (sV [101]))]),od 158 (.bsl true 3 1 [(ki 3)]),od 159 (.build [(1,(tm 156)),(1,(tm
 157)),(1,kN),(1,(tm 158))]),od 20 (.alloc false [(.slice none 0 0),(.slice none 0 0),(.slice none 0 0),(.slice none 0 0)]),on (.store 4 (tm 20) (tm 159))] [kp [20] [20]]) (.seq (.reg [od 161 (lG 4 20),od 162 (.build [(1,
 (ki 0)),(1,(.const (.int .i64 (-1))))]),od 163 (.build [(1,(ku 0)),(2,(tm 162)),(1,(ku 0)),(1,(ki 0))]),od 164 (.call 13 [(tm 161),(tm 163),(ki 99)]),om 160 164,od 165 (ex 160 0),od 166 (ex 160 1),od 167 (ex 160
 2),od 21 (.alloc false [(.slice none 0 0),(.slice none 0 0)]),on (.store 2 (tm 21) (tm 165)),om 22 166,om 23 167] [kp [20,21,22,23] [20,21]]) (.seq (.reg [od 169 (lG 4 20),od 170 (.build [(1,(ki 2)),(1,(.const (.int
 .i64 (-1))))]),od 171 (.build [(1,(ku 0)),(2,(tm 170)),(1,(ku 0)),(1,(ki 0))]),od 172 (.call 13 [(tm 169),(tm 171),(ki 99)]),om 168 172,od 173 (ex 168 0),od 174 (ex 168 1),od 175 (ex 168 2),od 24 (.alloc false
 [(.slice none 0 0),(.slice none 0 0)]),on (.store 2 (tm 24) (tm 173)),om 25 174,om 26 175] [kp [21,22,23,25,26] [21]]) (.seq (.reg [om 176 23,od 177 (.bin .eql (tm 176) (ki 0)),om 178 177,oT 179 (.mv (tm 22)) 178,od 180
 (.pick (tm 178) (tm 179) kF),om 181 180,oT 182 (fa 0 21) 181,oT 183 (ld 1 182) 181,oT 184 (le 0 183) 181,oT 185 (.bin .eql (tm 184) (ki 2)) 181,od 186 (.pick (tm 181) (tm 185) kF),om 187 186,oT 188 (fa 0 21) 187,oT 189 (ld
 1 188) 187,oT 190 (.iadr 1 (tm 189) (ki 0)) 187,oT 191 (ld 1 190) 187,oT 192 (.bin .eql (tm 191) (ku 1)) 187,od 193 (.pick (tm 187) (tm 192) kF),om 194 193,oT 195 (.mv (tm 26)) 194,oT 196 (.bin .eql (tm 195) (ki 9)) 194,od
 197 (.pick (tm 194) (tm 196) kF),om 198 197,oT 199 (.mv (tm 25)) 198,od 200 (.pick (tm 198) (tm 199) kF),om 0 200] [kp [0] []]) .ret))))))))))))))
def q0E:List RV:=[.tmp 0]
end
end Go.Lg
namespace Go.Lg
open Go
section
variable {P:Program} {Γ:Tables} {Q:AX->St->Prop} {s:St}
/- probecard/logic.Inverts (function 65) -/
abbrev Wv:IC:=(.seq (.reg [od 2 (.mv kF)] [kp [0] []]) (.seq (.reg [od 3 (.bsl true 42 1 [(ku 4),(ku 6),(ku 8),(ku 10)]),om 4 0,od 5 (.call 69 [(tm 3),(tm 4)]),om 2 5] [kp [2] []]) .ret))
def Ww:List RV:=[.tmp 2]
end
end Go.Lg
namespace Go.Lg
open Go
def qIw:Tbl:=[(5,⟨q0D,201,0,q0E⟩),
 (13,⟨Wq,72,3,Ws⟩),
 (28,⟨q1B,216,2,q1C⟩),
 (29,⟨Ti,6,1,Tj⟩),
 (30,⟨S7,6,1,S8⟩),
 (42,⟨q19,21,2,q1A⟩),
 (43,⟨Yp,65,1,Yq⟩),
 (44,⟨Yr,20,2,Ys⟩),
 (45,⟨Yl,15,3,Ym⟩),
 (46,⟨q2g,9,1,q2h⟩),
 (47,⟨Wg,17,3,Wh⟩),
 (48,⟨V9,14,1,Va⟩),
 (49,⟨Wn,126,4,Wp⟩),
 (50,⟨Wi,16,1,Wj⟩),
 (51,⟨Yt,33,4,Yu⟩),
 (20,⟨Yj,13,2,Yk⟩),
 (52,⟨Zs,27,2,Zt⟩),
 (63,⟨Wt,20,1,Wu⟩),
 (64,⟨Yv,38,2,Yw⟩),
 (65,⟨Wv,6,1,Ww⟩),
 (66,⟨V7,34,3,V8⟩),
 (67,⟨Wl,23,1,Wm⟩),
 (68,⟨Yn,33,4,Yo⟩),
 (69,⟨J2,9,2,J3⟩),
 (70,⟨S9,9,1,Si⟩),
 (86,⟨Np,11,1,Nq⟩),
 (87,⟨Yx,13,1,Yy⟩),
 (88,⟨q0B,34,2,q0C⟩),
 (90,⟨L6,19,2,L8⟩),
 (104,⟨Ly,131,1,F3⟩),
 (112,⟨D7,73,1,Bn⟩),
 (113,⟨P3,9,1,P4⟩),
 (114,⟨M1,65,1,M3⟩),
 (115,⟨P5,53,2,C5⟩),
 (116,⟨O0,25,1,J7⟩),
 (117,⟨M4,37,2,C2⟩),
 (119,⟨Kr,4,1,Ks⟩),
 (118,⟨F4,9,2,F5⟩),
 (120,⟨Gy,9,1,Gz⟩),
 (121,⟨Ny,15,1,Nz⟩),
 (122,⟨M5,11,2,M6⟩),
 (123,⟨Di,45,2,Dj⟩),
 (124,⟨F8,17,1,F9⟩),
 (125,⟨Jl,14,2,Jm⟩),
 (127,⟨Is,13,2,It⟩),
 (126,⟨H2,19,2,E9⟩),
 (128,⟨E1,13,1,E2⟩),
 (130,⟨H5,9,2,H6⟩),
 (129,⟨H3,9,2,H4⟩),
 (132,⟨Jp,8,2,Jq⟩),
 (131,⟨Jn,187,2,Jo⟩),
 (135,⟨Jr,21,3,G6⟩),
 (133,⟨Jj,8,2,Jk⟩),
 (134,⟨Uo,17,1,Up⟩),
 (97,⟨F6,8,2,F7⟩)]
end Go.Lg
namespace Go.Lg
open Go Go.Proofs
theorem q3k:Ax Tryz.prog 20 Yj 13 2 Yk=true:=by kernel_rfl
theorem q3l:Ax Tryz.prog 45 Yl 15 3 Ym=true:=by kernel_rfl
theorem q2i:Ax Tryz.prog 47 Wg 17 3 Wh=true:=by kernel_rfl
theorem q3m:Ax Tryz.prog 68 Yn 33 4 Yo=true:=by kernel_rfl
theorem q1q:Ax Tryz.prog 66 V7 34 3 V8=true:=by kernel_rfl
theorem q1r:Ax Tryz.prog 48 V9 14 1 Va=true:=by kernel_rfl
theorem q2j:Ax Tryz.prog 50 Wi 16 1 Wj=true:=by kernel_rfl
theorem q2k:Ax Tryz.prog 67 Wl 23 1 Wm=true:=by kernel_rfl
theorem q2l:Ax Tryz.prog 49 Wn 126 4 Wp=true:=by kernel_rfl
theorem q6l:Ax Tryz.prog 46 q2g 9 1 q2h=true:=by kernel_rfl
theorem q3n:Ax Tryz.prog 43 Yp 65 1 Yq=true:=by kernel_rfl
theorem q62:Ax Tryz.prog 42 q19 21 2 q1A=true:=by kernel_rfl
theorem q63:Ax Tryz.prog 28 q1B 216 2 q1C=true:=by kernel_rfl
theorem q3o:Ax Tryz.prog 44 Yr 20 2 Ys=true:=by kernel_rfl
theorem q3p:Ax Tryz.prog 51 Yt 33 4 Yu=true:=by kernel_rfl
theorem q2m:Ax Tryz.prog 13 Wq 72 3 Ws=true:=by kernel_rfl
theorem q2n:Ax Tryz.prog 63 Wt 20 1 Wu=true:=by kernel_rfl
theorem q3q:Ax Tryz.prog 64 Yv 38 2 Yw=true:=by kernel_rfl
theorem q3r:Ax Tryz.prog 87 Yx 13 1 Yy=true:=by kernel_rfl
theorem q4b:Ax Tryz.prog 88 q0B 34 2 q0C=true:=by kernel_rfl
theorem q4c:Ax Tryz.prog 5 q0D 201 0 q0E=true:=by kernel_rfl
theorem q2o:Ax Tryz.prog 65 Wv 6 1 Ww=true:=by kernel_rfl
theorem qC1:q5W Tryz.prog qIw:=⟨q4c,q2m,q63,q0r,q0p,q62,q3n,q3o,q3l,q6l,q2i,q1r,q2l,q2j,q3p,q3k,q4T,q2n,q3q,q2o,q1q,q2k,q3m,Qg,q0q,T0,q3r,q4b,Ud,Qm,T8,Ur,Qn,Us,T9,Qo,Q4,J9,La,Yg,Qp,Wa,Qq,Oo,O1,Lc,Oq,Le,Ld,Ou,Ot,Ov,On,q1d,Ja,trivial⟩
end Go.Lg
namespace Go.Lg
open Go Go.Proofs
variable {Γ:Tables}
def q9Y:List (List T)->Option (List Int)
 | []=>some []
 | e::l=>match e with
  | [.v (.int .i64 n)]=>(q9Y l).map (n::·)
  | _=>none
theorem q9Z:∀ {es:List (List T)} {l:List Int},q9Y es=some l->es=Bc l
 | [],l,h=>by simp only[q9Y,Option.some.injEq]at h;subst h;rfl
 | e::es,l,h=>by
  simp only[q9Y]at h
  split at h
  ·obtain⟨l',h1,rfl⟩:=Option.map_eq_some_iff.1 h
   rw[q9Z h1];rfl
  ·cases h
def qEh:List (List T)->Option (List (Sl Int))
 | []=>some []
 | e::l=>match e with
  | [.sl es c n]=>(q9Y es).bind fun q=>(qEh l).map (⟨q,c,n⟩::·)
  | _=>none
theorem qC2:∀ {es:List (List T)} {l:List (Sl Int)},qEh es=some l->es=Ak Bh l
 | [],l,h=>by simp only[qEh,Option.some.injEq]at h;subst h;rfl
 | e::es,l,h=>by
  simp only[qEh]at h
  split at h
  ·obtain⟨q,h1,h2⟩:=Option.bind_eq_some_iff.1 h
   obtain⟨l',h3,rfl⟩:=Option.map_eq_some_iff.1 h2
   rw[qC2 h3,q9Z h1];rfl
  ·cases h
def cfC:T->Option Cf
 | .agg [.v (.int .i64 n),.sl es c b]=>(qEh es).map fun l=>⟨n,⟨l,c,b⟩⟩
 | _=>none
theorem qIx {x:T} {f:Cf} (h:cfC x=some f):x=.agg (He f):=by
 unfold cfC at h
 split at h
 ·obtain⟨l,h1,rfl⟩:=Option.map_eq_some_iff.1 h
  rw[qC2 h1];rfl
 ·cases h
def qIy:List T->Option T
 | [x,.v (.int .i64 n)]=>(cfC x).bind fun f=>if decide (-9223372036854775808<=f.vars)&&decide (f.vars<=9223372036854775807)then some (q2c (Vt f n))else none
 | _=>none
theorem qGL {ts:List T} {r:T} (h:qIy ts=some r):A6 Tryz.prog Γ 12 ts r:=by
 unfold qIy at h
 split at h
 ·obtain⟨f,h1,h2⟩:=Option.bind_eq_some_iff.1 h
  split at h2
  ·rename_i hc
   simp only[Bool.and_eq_true,decide_eq_true_eq]at hc
   simp only[Option.some.injEq]at h2
   subst h2
   rw[qIx h1]
   exact q1p f hc _
  ·cases h2
 ·cases h
def GC:Tables:=fun g=>if g=8 then some qAb else if g=0 then some q3b else none
theorem qLY:GOk GC:=rfl
theorem qIz:Ij GC:=rfl
theorem qLZ {Γ:Tables} (h:GOk Γ) (hp:Ij Γ) {w:World} {X:Nat->Prop} (hg:Gl Γ w X):Gl GC w X:=fun g cs e=>by
 unfold GC at e
 split at e
 ·rename_i hh;cases e;exact hg g _ (by rw[hh];exact h)
 ·split at e
  ·rename_i hh;cases e;exact hg g _ (by rw[hh];exact hp)
  ·cases e
def txA:List T:=[.agg [tI 2,.sl [[.sl [[tI 1],[tI (-2)]] (some 2) (some false)],[.sl [] (some 0) (some false)]] (some 2) (some false)]]
def txR:T:=.v (.string ⟨#[112,32,99,110,102,32,50,32,50,10,49,32,45,50,32,48,10,48,10]⟩)
def cnF (f:FuncId) (ts:List T):Option T :=
 if Nat.beq f 108 then(match ts with
  | [.v (.string s),.v (.int .u8 c)]=>some (.v (.int .i64 (Lib.indexByte s.data.toList c.toNat.toUInt8)))
  | _=>none)
 else if Nat.beq f 12 then qIy ts
 else if Nat.beq f 7 then(match ts with
  | [.agg [.v (.int .i64 a),.sl [[.sl [[.v (.int .i64 b)],[.v (.int .i64 c)]] (some 2) (some false)],[.sl [] (some 0) (some false)]] (some 2) (some false)]]=>if decide (a=2)&&decide (b=1)&&decide (c = -2)then some txR else none
  | _=>none)
 else none
theorem qEi (ht:A6 Tryz.prog Γ 7 txA txR) {f:FuncId} {ts:List T} {r:T} (h:cnF f ts=some r):A6 Tryz.prog Γ f ts r:=by
 unfold cnF at h
 split at h
 ·rename_i hf
  rw[Nat.eq_of_beq_eq_true hf]
  split at h
  ·cases h;exact Q5 _ _
  ·cases h
 ·split at h
  ·rename_i hf;rw[Nat.eq_of_beq_eq_true hf];exact qGL h
  ·split at h
   ·rename_i hf
    rw[Nat.eq_of_beq_eq_true hf]
    split at h
    ·split at h
     ·rename_i hc
      simp only[Bool.and_eq_true,decide_eq_true_eq]at hc
      obtain⟨⟨h1,h2⟩,h3⟩:=hc
      subst h1;subst h2;subst h3
      cases h;exact ht
     ·cases h
    ·cases h
   ·cases h
theorem qEj {P:Program} {f:FuncId} {ts:List T} {b:Value} (h:An P Γ f ts (.v b)):A6 P Γ f ts (.v b) :=
 fun w X vs hg hx hr=>(h w X vs hg hx hr).mono fun v w' ⟨hb,ht⟩=>⟨hb,by cases ht;exact .v _⟩
end Go.Lg
namespace Go.Proofs.YtjhbkddcmcfpaaaGreatDoor
open Go Go.Lg Go.ChangeShapes Go.WideShapes Go.ChangeAt Go.RowKit
theorem qJ0:(Tryz.prog.globals[0]?).map (·.type)=some 142:=by kernel_rfl
theorem qEk:Tryz.prog.cellsOf 122=1:=by kernel_rfl
theorem qEl:Tryz.prog.cellsOf 142=20:=by kernel_rfl
theorem qEm:(Rows.laid_internal_strconv_uint64pow10:DataW Unit)=Lib.tabData .u64 Lib.pow10Tab:=rfl
theorem qJ1 {W:World} {rest:List (String×DataW Unit)} (h:laidMet Tryz.prog (("internal/strconv.uint64pow10",Rows.laid_internal_strconv_uint64pow10)::rest) W) :
  TR W (Old W) (.ip q3b 0) (.pointer (some ⟨(0:Nat),0,none⟩))/\∃ arr ty fr,W.heap[(0:Nat)]? = some (.cells arr ty fr)/\arr.size=q3b.length:=by
 rw[qEm]at h
 have ht:=Lib.tabIs_of_head qGK qJ0 Tryz.underlying142 Tryz.underlying122 qEk qEl h
 have hcell:=fun i hi=>ht.cell qGK i hi
 have hl:q3b.length=20:=rfl
 have hl2:Lib.pow10Tab.length=20:=Lib.pow10Tab_length
 have hblk:∃ arr ty fr,W.heap[(0:Nat)]? = some (.cells arr ty fr)/\arr.size=q3b.length:=by
  unfold Lib.TabIs World.var? at ht
  rw[qGK]at ht
  simp only[Option.bind_some]at ht
  split at ht
  ·rename_i cs ty fr hh
   simp only[Option.some.injEq]at ht
   exact⟨cs,ty,fr,hh,by rw[ht];simp[hl,hl2]⟩
  ·cases ht
 refine⟨.ip q3b 0 0 0 (fun j=>.int .u64 (Lib.pow10Tab.getD j 0)) (fun j hj=>?_) (fun j t hj=>?_) (fun j t hj=>?_) ?_,hblk⟩
 ·rw[Nat.zero_add];exact hcell j (by omega)
 ·unfold q3b at hj
  rw[List.getElem?_map,Option.map_eq_some_iff]at hj
  obtain⟨z,hz,rfl⟩:=hj
  rw[List.getD_eq_getElem?_getD,hz]
  exact .v _
 ·unfold q3b at hj
  rw[List.getElem?_map,Option.map_eq_some_iff]at hj
  obtain⟨z,hz,rfl⟩:=hj
  rfl
 ·obtain⟨arr,ty,fr,hh,_⟩:=hblk
  exact(Array.getElem?_eq_some_iff.1 hh).1
end Go.Proofs.YtjhbkddcmcfpaaaGreatDoor
namespace Go.Lg
open Go Go.Proofs Go.Shelf
variable {Γ:Tables}
def Qv (Γ:Tables):Prop:=∃ tp p tq q,Γ 2=some [.v (.iface tp p)]/\Γ 3=some [.v (.iface tq q)]
theorem qJ2:Tryz.prog.globalNamed "strconv.ErrSyntax" = some 2:=by kernel_rfl
theorem qJ3:Tryz.prog.globalNamed "strconv.ErrRange" = some 3:=by kernel_rfl
theorem qC3 {w:World} {X:Nat->Prop} {g:Nat} {n:String} {v:Value} (h:Gl Γ w X) (hn:Tryz.prog.globalNamed n=some g) (hp:Γ g=some [.v v]):w.var? Tryz.prog n=some #[v]:=by
 obtain⟨ht,arr,ty,fr,hh,hs⟩:=h _ _ hp
 unfold World.var?
 rw[hn]
 simp only[Option.bind_some,hh,Option.some.injEq]
 obtain⟨b,off,xs,he,hx,h1,hr,hc⟩:=ht.ip_inv
 simp only[Value.pointer.injEq,Option.some.injEq,Addr.mk.injEq,Nat.add_zero,and_true]at he
 obtain⟨e1,e2⟩:=he
 subst e1;subst e2
 have hlx:xs.length=1:=hr.1.symm
 have hs1:arr.size=1:=by simpa using hs
 have ht2:=hr.2 0 (.v v) (xs[0]'(by omega)) rfl (by simp[hlx])
 have hcc:=hc 0 (xs[0]'(by omega)) (by simp[hlx])
 simp only[World.cell?,hh,Nat.zero_add]at hcc
 have ha:arr[0]? = some (xs[0]'(by omega)):=hcc
 rw[Array.getElem?_eq_getElem (by omega)]at ha
 refine Array.ext (by simp[hs1]) fun i h2 h3=>?_
 have:i=0:=by omega
 subst this
 rw[Option.some.inj ha,ht2.v_inv]
 rfl
theorem q0F (vs:Array Value) (w:World):(callFunc 36 vs).run Tryz.prog w=.ok (.enter 36 vs) w:=enters_of Tryz.func36 (by kernel_rfl) rfl vs w
theorem qGM (s:ByteArray) (hs:s.size<=1000000000) (v:Int) (h:Lib.atoiAll s.data.toList=.ok v):A6 Tryz.prog Γ 36 [.v (.string s)] (.tup [tI v,.v .nilIface]):=by
 intro w X vs hg hx hts
 obtain⟨x,xs,rfl,h1,h2⟩:=hts.cons_inv
 have:=h2.nil_inv;subst this
 cases h1
 refine .inl ⟨q0F _ _,?_⟩
 refine(Any.strconv_Atoi_ok atL s (by omega) v h w).mono fun e w' ⟨he,hw⟩=>⟨_,he,?_,TR.mk_tup (Ds.cons (.v _) (Ds.cons (.v _) (Ds.nil _ _)))⟩
 rcases hw with rfl|⟨t,rfl⟩
 ·exact RowKit.Below.refl _ _
 ·exact Lib.bytesWorld_below _ _ _
theorem qEn (hE:Qv Γ) (s:ByteArray) (hs:s.size<=1000000000) (h:∀ v,Lib.atoiAll s.data.toList ≠ .ok v):∃ n,A6 Tryz.prog Γ 36 [.v (.string s)] (.tup [tI n,.ifc]):=by
 obtain⟨tp,p,tq,q,h1,h2⟩:=hE
 cases hc:Lib.atoiAll s.data.toList
 ·rename_i v
  exact absurd hc (h v)
 ·refine⟨0,?_⟩
  intro w X vs hg hx hts
  obtain⟨x,xs,rfl,k1,k2⟩:=hts.cons_inv
  have:=k2.nil_inv;subst this
  cases k1
  refine .inl ⟨q0F _ _,?_⟩
  exact(Any.strconv_Atoi_syntax_var atL s (by omega) hc tp p w (qC3 hg qJ2 h1)).mono fun e w' ⟨N,he,_,_,hb⟩=>⟨_,he,hb,TR.mk_tup (Ds.cons (.v _) (Ds.cons (.ifc _ _) (Ds.nil _ _)))⟩
 ·refine⟨Lib.atoiSat s.data.toList,?_⟩
  intro w X vs hg hx hts
  obtain⟨x,xs,rfl,k1,k2⟩:=hts.cons_inv
  have:=k2.nil_inv;subst this
  cases k1
  refine .inl ⟨q0F _ _,?_⟩
  exact(Any.strconv_Atoi_range_var atL s (by omega) hc tq q w (qC3 hg qJ3 h2)).mono fun e w' ⟨N,he,_,_,hb⟩=>⟨_,he,hb,TR.mk_tup (Ds.cons (.v _) (Ds.cons (.ifc _ _) (Ds.nil _ _)))⟩
def Vu (w:List UInt8):Option Int:=match Lib.atoiAll w with
 | .ok v=>if Bf v=⟨w.toArray⟩then some v else none
 | _=>none
def En:List (List UInt8)->Option (List Int)
 | []=>some []
 | w::ws=>match Vu w with
  | some v=>(En ws).map (v::·)
  | none=>none
theorem qAz (pre:List (List UInt8)) (w:List UInt8):En (pre++[w])=(En pre).bind fun l=>(Vu w).map fun v=>l++[v]:=by
 induction pre with
 | nil=>simp only[List.nil_append,En];cases Vu w<;>rfl
 | cons x pre ih =>
  simp only[List.cons_append,En]
  cases Vu x with
  | none=>rfl
  | some v =>
   rw[ih]
   cases En pre<;>simp
   cases Vu w<;>rfl
theorem q64 {pre xs:List (List UInt8)} (h:En pre=none):En (pre++xs)=none:=by
 induction pre with
 | nil=>simp[En]at h
 | cons x pre ih =>
  simp only[List.cons_append,En]at h ⊢
  cases hx:Vu x with
  | none=>rfl
  | some v=>rw[hx]at h;simp only[Option.map_eq_none_iff]at h ⊢;exact ih h
theorem qEo {w:List UInt8} {v:Int} (h:Vu w=some v):Vv v:=by
 unfold Vu at h
 split at h
 ·rename_i u hu
  split at h
  ·simp only[Option.some.injEq]at h;subst h
   obtain⟨h1,h2⟩:=Lib.atoiAll_bounds hu
   unfold Vv;omega
  ·cases h
 ·cases h
end Go.Lg
namespace Go.Proofs.YtjhbkddcmcfpaaaGreatDoor
open Go Go.Lg Go.ChangeShapes Go.WideShapes Go.ChangeAt Go.RowKit
theorem q8C {P:Program} {x:String×DataW Unit} {l:List (String×DataW Unit)} {w:World} (h:laidMet P (x::l) w):laidMet P [x] w:=by
 obtain⟨ps,hv,hn,hm⟩:=h
 obtain⟨n,d⟩:=x
 obtain⟨g,t,cs,fuel,p,q,h1,h2,h3,h4,h5,rfl⟩:=hv
 exact⟨MemPlace.row ⟨g,0,none⟩ cs.size++p++[],⟨g,t,cs,fuel,p,[],h1,h2,h3,h4,rfl,rfl⟩,by rw[List.append_nil];exact(List.nodup_append.1 hn).1,fun b off hq=>hm b off (List.mem_append_left _ (by simpa using hq))⟩
theorem qJ4:(Tryz.prog.globals[2]?).map (·.type)=some 62:=by kernel_rfl
theorem qJ5:(Tryz.prog.globals[3]?).map (·.type)=some 62:=by kernel_rfl
def GE (a b:Value):Lg.Tables:=fun g=>if g=2 then some [.v a]else if g=3 then some [.v b]else GC g
theorem qLa (a b:Value):GOk (GE a b):=rfl
theorem qJ6 (a b:Value):Ij (GE a b):=rfl
theorem qJ7 (tp tq:TypeId) (p q:Value):Qv (GE (.iface tp p) (.iface tq q)):=⟨tp,p,tq,q,rfl,rfl⟩
theorem q9a {W:World} {n:String} {g:Nat} {v:Value} (hg:Tryz.prog.globalNamed n=some g) (hv:W.var? Tryz.prog n=some #[v]) (h1:v.oneCell'=true):TR W (Old W) (.ip [.v v] 0) (.pointer (some ⟨g,0,none⟩))/\∃ arr ty fr,W.heap[g]? = some (.cells arr ty fr)/\arr.size=[T.v v].length:=by
 unfold World.var? at hv
 rw[hg]at hv
 simp only[Option.bind_some]at hv
 split at hv
 ·rename_i cs ty fr hh
  simp only[Option.some.injEq]at hv
  subst hv
  refine⟨.ip [.v v] 0 g 0 (fun _=>v) (fun j hj=>?_) (fun j t hj=>?_) (fun j t hj=>?_) ?_,_,ty,fr,hh,rfl⟩
  ·have:j=0:=by simpa using hj
   subst this
   simp[World.cell?,hh]
  ·have:j=0:=by have:=(List.getElem?_eq_some_iff.1 hj).1;simpa using this
   subst this
   simp at hj;subst hj;exact .v _
  ·have:j=0:=by have:=(List.getElem?_eq_some_iff.1 hj).1;simpa using this
   subst this
   simp at hj;subst hj;exact h1
  ·exact(Array.getElem?_eq_some_iff.1 hh).1
 ·cases hv
theorem qHC : "*" ++ "errors.errorString" = "*errors.errorString" := by decide
theorem qJ8 {W:World} (h:laidMetH Tryz.prog [("math/bits.deBruijn32tab",Rows.laid_math_bits_deBruijn32tab),("math/bits.deBruijn64tab",Rows.laid_math_bits_deBruijn64tab),("internal/strconv.uint64pow10",Rows.laid_internal_strconv_uint64pow10),("unicode/utf8.acceptRanges",Rows.laid_unicode_utf8_acceptRanges),("strconv.ErrRange",Rows.laid_strconv_ErrRange),("strconv.ErrSyntax",Rows.laid_strconv_ErrSyntax),("probecard/logic.fanins",Rows.laid_probecard_logic_fanins),("unicode/utf8.first",Rows.laid_unicode_utf8_first)] W) :
  ∃ Γ:Lg.Tables,GOk Γ/\Ij Γ/\Qv Γ/\Gl Γ W (Old W):=by
 rw[MakeChecks.laidMetH_plain _ _ _ (by kernel_rfl)]at h
 have h3:=K7 (K7 h)
 have h5:=K7 (K7 h3)
 have h6:=K7 h5
 have h7:=K7 h6
 have hf:=qIj (q8C h7)
 have hp:=qJ1 h3
 have hrow:∀ u,Tryz.prog.typeName? 3 u=some "*errors.errorString" -> u=166 :=
  fun u h=>typeName_ptr_named (nm := "errors.errorString") (by rw[qHC];kernel_rfl) (by kernel_rfl) (by decide) u (by rw[qHC];exact h)
 obtain⟨a,s,hq,_⟩:=laid_sentinel (ms:=_) (f:=_) h5 qJ3 qJ5 Tryz.underlying62 hrow Tryz.underlying166 Tryz.underlying168 rfl rfl Tryz.underlying9 (by kernel_rfl) (by kernel_rfl)
 obtain⟨b,s',hs,_⟩:=laid_sentinel (ms:=_) (f:=_) h6 qJ2 qJ4 Tryz.underlying62 hrow Tryz.underlying166 Tryz.underlying168 rfl rfl Tryz.underlying9 (by kernel_rfl) (by kernel_rfl)
 refine⟨GE (.iface 166 (.pointer (some b))) (.iface 166 (.pointer (some a))),qLa _ _,qJ6 _ _,qJ7 _ _ _ _,?_⟩
 intro g cs hg
 unfold GE at hg
 split at hg
 ·rename_i hh
  subst hh
  simp only[Option.some.injEq]at hg
  subst hg
  exact q9a qJ2 hs rfl
 ·split at hg
  ·rename_i hh
   subst hh
   simp only[Option.some.injEq]at hg
   subst hg
   exact q9a qJ3 hq rfl
  ·unfold GC at hg
   split at hg
   ·rename_i hh
    exact hf g cs (by unfold G0;rw[if_pos hh];exact hg)
   ·split at hg
    ·rename_i hh
     subst hh
     simp only[Option.some.injEq]at hg
     subst hg
     exact hp
    ·cases hg
def qEp:DataW Unit->List Value
 | .lit (.int k n)=>[.int k n]
 | _=>[]
def qCz:DataW Unit->List Value
 | .agg ps=>ps.flatMap fun p=>match p with
  | .agg qs=>qs.flatMap qEp
  | q=>qEp q
 | q=>qEp q
def q9b (g:Nat) (vs:List Value) (h:Array Obj):Array Obj:=h.modify g fun
 | .cells _ t frozen=>.cells vs.toArray t frozen
 | o=>o
noncomputable def q1s (os:Os):World :=
 { World.holding Tryz.prog os ⟨#[],#[],[]⟩with heap :=
  (((q9b 8 (qCz Rows.laid_probecard_logic_fanins) (q9b 0 (qCz Rows.laid_internal_strconv_uint64pow10) (q9b 6 (qCz Rows.laid_math_bits_deBruijn32tab) (q9b 7 (qCz Rows.laid_math_bits_deBruijn64tab)
   (q9b 4 (qCz Rows.laid_unicode_utf8_first) (q9b 5 (qCz Rows.laid_unicode_utf8_acceptRanges)
    (q9b 3 [.iface 166 (.pointer (some ⟨(World.holding Tryz.prog os ⟨#[],#[],[]⟩).heap.size,0,none⟩))] (q9b 2 [.iface 166 (.pointer (some ⟨(World.holding Tryz.prog os ⟨#[],#[],[]⟩).heap.size+1,0,none⟩))]
     (World.holding Tryz.prog os ⟨#[],#[],[]⟩).heap))))))))).push (.cells #[.string ⟨#[118,97,108,117,101,32,111,117,116,32,111,102,32,114,97,110,103,101]⟩] 168 (0,0))).push (.cells #[.string ⟨#[105,110,118,97,108,105,100,32,115,121,110,116,97,120]⟩] 168 (0,0)) }
end Go.Proofs.YtjhbkddcmcfpaaaGreatDoor
namespace Go.Lg
open Go
section
variable {P:Program} {Γ:Tables} {Q:AX->St->Prop} {s:St}
/- strings.Index (function 57) -/
abbrev Wx:IC:=(.seq (.reg [od 4 (.mv (ki 0))] [kp [0,1] []]) (.seq (.reg [om 5 0,om 6 1,od 7 (.call 78 [(tm 5),(tm 6)]),om 4 7] [kp [4] []]) .ret))
def Wy:List RV:=[.tmp 4]
/- internal/stringslite.Index (function 78) -/
abbrev Y9:IC:=.gh (.seq (.seq (.reg [om 57 8,om 58 9,od 59 (.bin .lss (tm 57) (tm 58))] [kp [0,1,5,6,7,8,9,10,59] []]) (.cond (tm 59) .skip (.exit 1))) (.block 2 (.seq (.seq (.reg [om 60 0,om 61 8,od 62 (.idxS (tm 60) (tm 61)),om 63
 6,od 64 (.bin .neq (tm 62) (tm 63))] [kp [0,1,5,6,7,8,9,10,64] []]) (.cond (tm 64) (.seq (.reg [om 65 0,om 66 8,od 67 (.bin .add (tm 66) (ki 1)),om 68 9,od 69 (.slice 0 (tm 65) (some (tm 67)) (some (tm 68)) none),om
 70 6,od 71 (.call 97 [(tm 69),(tm 70)]),om 11 71] [kp [0,1,5,6,7,8,9,10,11] []]) (.seq (.seq (.reg [om 72 11,od 73 (.bin .lss (tm 72) (ki 0))] [kp [0,1,5,6,7,8,9,10,11,73] []]) (.cond (tm 73) (.seq (.reg [od 4
 (.mv (.const (.int .i64 (-1))))] [kp [4] []]) .ret) .skip)) (.reg [om 74 8,om 75 11,od 76 (.bin .add (tm 75) (ki 1)),od 77 (.bin .add (tm 74) (tm 76)),om 8 77] [kp [0,1,5,6,7,8,9,10] []]))) .skip)) (.seq (.seq (.reg [om
 78 0,om 79 8,od 80 (.bin .add (tm 79) (ki 1)),od 81 (.idxS (tm 78) (tm 80)),om 82 7,od 83 (.bin .eql (tm 81) (tm 82)),om 84 83,oT 85 (.mv (tm 0)) 84,oT 86 (.mv (tm 8)) 84,oT 87 (.mv (tm 8)) 84,oT 88 (.mv (tm 5)) 84,oT 89
 (.bin .add (tm 87) (tm 88)) 84,oT 90 (.slice 0 (tm 85) (some (tm 86)) (some (tm 89)) none) 84,oT 91 (.mv (tm 1)) 84,oT 92 (.bin .eql (tm 90) (tm 91)) 84,od 93 (.pick (tm 84) (tm 92) kF)] [kp [0,1,5,6,7,8,9,10,93] []])
 (.cond (tm 93) (.seq (.reg [om 94 8,om 4 94] [kp [4] []]) .ret) .skip)) (.seq (.reg [om 95 8,od 96 (.bin .add (tm 95) (ki 1)),om 8 96] [kp [0,1,5,6,7,8,9,10] []]) (.seq (.reg [om 97 10,od 98 (.bin .add (tm 97) (ki 1)),
 om 10 98] [kp [0,1,5,6,7,8,9,10] []]) (.seq (.reg [om 99 5,od 100 (.load 1 false (.global 1)),od 101 (.bin .leq (tm 99) (tm 100)),om 102 101,oT 103 (.mv (tm 10)) 102,oT 104 (.mv (tm 8)) 102,oT 105 (.call 99 [(tm 104)])
 102,oT 106 (.bin .gtr (tm 103) (tm 105)) 102,od 107 (.pick (tm 102) (tm 106) kF)] [kp [0,1,5,6,7,8,9,10,107] []]) (.cond (tm 107) (.seq (.reg [om 108 0,om 109 8,od 110 (.slice 0 (tm 108) (some (tm 109)) none none),om
 111 1,od 112 (.call 98 [(tm 110),(tm 111)]),om 12 112] [kp [8,12] []]) (.seq (.seq (.reg [om 113 12,od 114 (.bin .geq (tm 113) (ki 0))] [kp [8,12,114] []]) (.cond (tm 114) (.seq (.reg [om 115 12,om 116 8,od 117 (.bin .add
 (tm 115) (tm 116)),om 4 117] [kp [4] []]) .ret) .skip)) (.seq (.reg [od 4 (.mv (.const (.int .i64 (-1))))] [kp [4] []]) .ret))) (.seq (.reg [om 118 5,od 119 (.load 1 false (.global 1)),od 120 (.bin .gtr (tm 118) (tm 119)),om
 121 120,oT 122 (.mv (tm 10)) 121,oT 123 (.mv (tm 8)) 121,oT 124 (.bin .shr (tm 123) (.const (.int .u64 4))) 121,oT 125 (.bin .add (ki 4) (tm 124)) 121,oT 126 (.bin .geq (tm 122) (tm 125)) 121,od 127 (.pick (tm 121) (tm 126)
 kF),om 128 127,oT 129 (.mv (tm 8)) 128,oT 130 (.mv (tm 9)) 128,oT 131 (.bin .lss (tm 129) (tm 130)) 128,od 132 (.pick (tm 128) (tm 131) kF)] [kp [0,1,5,6,7,8,9,10,132] []]) (.cond (tm 132) (.seq (.reg [om 133 0,om 134
 8,od 135 (.slice 0 (tm 133) (some (tm 134)) none none),om 136 1,od 137 (.call 100 [(tm 135),(tm 136)]),om 13 137] [kp [8,13] []]) (.seq (.seq (.reg [om 138 13,od 139 (.bin .lss (tm 138) (ki 0))] [kp [8,13,139] []]) (.cond
 (tm 139) (.seq (.reg [od 4 (.mv (.const (.int .i64 (-1))))] [kp [4] []]) .ret) .skip)) (.seq (.reg [om 140 8,om 141 13,od 142 (.bin .add (tm 140) (tm 141)),om 4 142] [kp [4] []]) .ret))) .skip)))))))))) [kp [0,1,5,6,7,8,9,
 10] []]
def Ya:IC:=.loop Y9
abbrev Hy:IC:=(.seq (.reg [od 4 (.mv (ki 0))] [kp [0,1] []]) (.seq (.reg [om 14 1,od 15 (le 1 14),om 5 15] [kp [0,1,5] []]) (.seq (.block 0 (.seq (.reg [om 17 5,od 18 (.bin .eql (tm 17) (ki 0)),om 19 18,oF 20 (.mv (tm 1)) 19,oF 21 (.mv
 (tm 0)) 19,oF 22 (.bin .eql (tm 20) (tm 21)) 19,od 23 (.pick (tm 19) kT (tm 22)),om 16 23] [kp [0,1,5,16] []]) (.cond (tm 16) (.seq (.reg [od 4 (.mv (ki 0))] [kp [4] []]) .ret) (.seq (.reg [om 25 5,od 26 (.bin .eql (tm 25)
 (ki 1)),om 24 26] [kp [0,1,5,24] []]) (.cond (tm 24) (.seq (.reg [om 27 0,om 28 1,od 29 (.idxS (tm 28) (ki 0)),od 30 (.call 97 [(tm 27),(tm 29)]),om 4 30] [kp [4] []]) .ret) (.seq (.reg [om 32 5,om 33 0,od 34 (le 1 33),
 od 35 (.bin .geq (tm 32) (tm 34)),om 31 35] [kp [0,1,5,31] []]) (.cond (tm 31) (.seq (.reg [od 4 (.mv (.const (.int .i64 (-1))))] [kp [4] []]) .ret) (.seq (.reg [om 37 5,od 38 (.load 1 false (.global 1)),od 39 (.bin .leq (tm
 37) (tm 38)),om 40 39,oT 41 (.mv (tm 0)) 40,oT 42 (le 1 41) 40,oT 43 (.bin .leq (tm 42) (ki 64)) 40,od 44 (.pick (tm 40) (tm 43) kF),om 36 44] [kp [0,1,5,36] []]) (.cond (tm 36) (.seq (.reg [om 45 0,om 46 1,od 47 (.call
 98 [(tm 45),(tm 46)]),om 4 47] [kp [4] []]) .ret) .skip))))))))) (.seq (.reg [om 48 1,od 49 (.idxS (tm 48) (ki 0)),om 6 49] [kp [0,1,5,6] []]) (.seq (.reg [om 50 1,od 51 (.idxS (tm 50) (ki 1)),om 7 51] [kp [0,1,5,6,7]
 []]) (.seq (.reg [od 8 (.mv (ki 0))] [kp [0,1,5,6,7,8] []]) (.seq (.reg [om 52 0,od 53 (le 1 52),om 54 5,od 55 (.bin .sub (tm 53) (tm 54)),od 56 (.bin .add (tm 55) (ki 1)),om 9 56] [kp [0,1,5,6,7,8,9] []]) (.seq
 (.reg [od 10 (.mv (ki 0))] [kp [0,1,5,6,7,8,9,10] []]) (.seq (.block 1 Ya) (.seq (.reg [od 4 (.mv (.const (.int .i64 (-1))))] [kp [4] []]) .ret))))))))))
def Hz:List RV:=[.tmp 4]
/- strings.SplitSeq (function 35) -/
abbrev Qw:IC:=(.seq (.reg [od 4 (.mv (.const .nilFunc))] [kp [0,1] []]) (.seq (.reg [om 5 0,om 6 1,od 7 (.ncall 59 [(tm 5),(tm 6),(ki 0)] 7000),om 4 7] [kp [4] [7003,7004,7005]]) .ret))
def Qx:List RV:=[.tmp 4]
/- strings.splitSeq (function 59) -/
abbrev Qy:IC:=(.seq (.reg [od 3 (.box false (tm 0)),od 4 (.box false (tm 1)),od 5 (.box false (tm 2)),od 6 (.mv (.const .nilFunc))] [kp [3,4,5] [3,4,5]]) (.seq (.reg [od 7 (.mkf 79 [(tm 4),(tm 3),(tm 5)]),om 6 7] [kp [6] [3,4,5]])
 .ret))
def Qz:List RV:=[.tmp 6]
/- strings.Split (function 17) -/
abbrev Wz:IC:=(.seq (.reg [od 4 (.mv kN)] [kp [0,1] []]) (.seq (.reg [om 5 0,om 6 1,od 7 (.call 33 [(tm 5),(tm 6),(ki 0),(.const (.int .i64 (-1)))]),om 4 7] [kp [4] []]) .ret))
def X4:List RV:=[.tmp 4]
/- strings.genSplit (function 33) -/
abbrev R1:IC:=.gh (.seq (.seq (.reg [om 34 10,om 35 3,od 36 (.bin .lss (tm 34) (tm 35))] [kp [0,1,2,3,9,10,36] [31]]) (.cond (tm 36) .skip (.exit 0))) (.block 1 (.seq (.reg [om 37 0,om 38 1,od 39 (.call 57 [(tm 37),(tm 38)]),om 11
 39] [kp [0,1,2,3,9,10,11] [31]]) (.seq (.seq (.reg [om 40 11,od 41 (.bin .lss (tm 40) (ki 0))] [kp [0,1,2,3,9,10,11,41] [31]]) (.cond (tm 41) (.exit 0) .skip)) (.seq (.reg [om 42 9,om 43 10,om 44 0,om 45 11,om 46
 2,od 47 (.bin .add (tm 45) (tm 46)),od 48 (.slice 0 (tm 44) none (some (tm 47)) none),od 49 (ia 1 42 43),on (.store 1 (tm 49) (tm 48))] [kp [0,1,2,3,9,10,11] [31]]) (.seq (.reg [om 50 0,om 51 11,om 52 1,od 53 (le 1
 52),od 54 (.bin .add (tm 51) (tm 53)),od 55 (.slice 0 (tm 50) (some (tm 54)) none none),om 0 55] [kp [0,1,2,3,9,10] [31]]) (.reg [om 56 10,od 57 (.bin .add (tm 56) (ki 1)),om 10 57] [kp [0,1,2,3,9,10] [31]])))))))
 [kp [0,1,2,3,9,10] [31]]
def Gq:IC:=.loop R1
abbrev R2:IC:=(.seq (.reg [od 8 (.mv kN)] [kp [0,1,2,3] []]) (.seq (.seq (.reg [om 12 3,od 13 (.bin .eql (tm 12) (ki 0))] [kp [0,1,2,3,13] []]) (.cond (tm 13) (.seq (.reg [od 8 (.mv kN)] [kp [8] [31]]) .ret) .skip)) (.seq (.seq (.reg [om
 14 1,od 15 (.bin .eql (tm 14) (.const (sV [])))] [kp [0,1,2,3,15] []]) (.cond (tm 15) (.seq (.reg [om 16 0,om 17 3,od 18 (.call 55 [(tm 16),(tm 17)]),om 8 18] [kp [8] [31]]) .ret) .skip)) (.seq (.seq (.reg [om 19 3,od 20
 (.bin .lss (tm 19) (ki 0))] [kp [0,1,2,3,20] []]) (.cond (tm 20) (.reg [om 21 0,om 22 1,od 23 (.call 56 [(tm 21),(tm 22)]),od 24 (.bin .add (tm 23) (ki 1)),om 3 24] [kp [0,1,2,3] []]) .skip)) (.seq (.reg [om 25 3,om 26
 0,od 27 (le 1 26),od 28 (.bin .add (tm 27) (ki 1)),od 29 (.mmx false [(tm 25),(tm 28)]),om 3 29] [kp [0,1,2,3] []]) (.seq (.reg [om 30 3,od 31 (.mk 9 1 [(sV [])] (tm 30) (tm 30)),om 9 31] [kp [0,1,2,3,9] [31]]) (.seq
 (.reg [om 32 3,od 33 (.bin .sub (tm 32) (ki 1)),om 3 33] [kp [0,1,2,3,9] [31]]) (.seq (.reg [od 10 (.mv (ki 0))] [kp [0,1,2,3,9,10] [31]]) (.seq (.block 0 Gq) (.seq (.reg [om 58 9,om 59 10,om 60 0,od
 61 (ia 1 58 59),on (.store 1 (tm 61) (tm 60))] [kp [9,10] [31]]) (.seq (.reg [om 62 9,om 63 10,od 64 (.bin .add (tm 63) (ki 1)),od 65 (.slice 1 (tm 62) none (some (tm 64)) none),om 8 65] [kp [8] [31]]) .ret)))))))))))
theorem N7 (h:∀ K:St->Prop,K=run P Γ Gq Q->run P Γ R1 (B1 K Q) s):run P Γ Gq Q s:=Au h
def Gs:List RV:=[.tmp 8]
/- strings.Count (function 56) -/
abbrev q3s:IC:=.gh (.block 1 (.seq (.reg [om 20 0,om 21 1,od 22 (.call 57 [(tm 20),(tm 21)]),om 6 22] [kp [0,1,5,6] []]) (.seq (.seq (.reg [om 23 6,od 24 (.bin .eql (tm 23) (.const (.int .i64 (-1))))] [kp [0,1,5,6,24] []]) (.cond (tm
 24) (.seq (.reg [om 25 5,om 4 25] [kp [4] []]) .ret) .skip)) (.seq (.reg [om 26 5,od 27 (.bin .add (tm 26) (ki 1)),om 5 27] [kp [0,1,5,6] []]) (.reg [om 28 0,om 29 6,om 30 1,od 31 (le 1 30),od 32 (.bin .add (tm 29) (tm
 31)),od 33 (.slice 0 (tm 28) (some (tm 32)) none none),om 0 33] [kp [0,1,5] []]))))) [kp [0,1,5] []]
def q3t:IC:=.loop q3s
abbrev X5:IC:=(.seq (.reg [od 4 (.mv (ki 0))] [kp [0,1] []]) (.seq (.seq (.reg [om 7 1,od 8 (le 1 7),od 9 (.bin .eql (tm 8) (ki 0))] [kp [0,1,9] []]) (.cond (tm 9) (.seq (.reg [om 10 0,od 11 (.call 75 [(tm 10)]),od 12 (.bin .add (tm 11)
 (ki 1)),om 4 12] [kp [4] []]) .ret) .skip)) (.seq (.seq (.reg [om 13 1,od 14 (le 1 13),od 15 (.bin .eql (tm 14) (ki 1))] [kp [0,1,15] []]) (.cond (tm 15) (.seq (.reg [om 16 0,om 17 1,od 18 (.idxS (tm 17) (ki 0)),od 19
 (.call 77 [(tm 16),(tm 18)]),om 4 19] [kp [4] []]) .ret) .skip)) (.seq (.reg [od 5 (.mv (ki 0))] [kp [0,1,5] []]) (.block 0 q3t)))))
def X6:List RV:=[.tmp 4]
/- strings.CutPrefix (function 18) -/
abbrev Q9:IC:=(.seq (.reg [od 4 (.mv (.const (sV []))),od 5 (.mv kF)] [kp [0,1] []]) (.seq (.reg [om 6 0,om 7 1,od 8 (.call 34 [(tm 6),(tm 7)]),od 9 (ex 8 0),od 10 (ex 8 1),om 4 9,om 5 10] [kp [4,5] []]) .ret))
def Qa:List RV:=[.tmp 4,.tmp 5]
/- internal/stringslite.CutPrefix (function 34) -/
abbrev K0:IC:=(.seq (.reg [od 4 (.mv (.const (sV []))),od 5 (.mv kF)] [kp [0,1] []]) (.seq (.seq (.reg [om 6 0,om 7 1,od 8 (.call 58 [(tm 6),(tm 7)]),od 9 (.un .not (tm 8))] [kp [0,1,9] []]) (.cond (tm 9) (.seq (.reg [om 10 0,om 4 10,
 od 5 (.mv kF)] [kp [4,5] []]) .ret) .skip)) (.seq (.reg [om 11 0,om 12 1,od 13 (le 1 12),od 14 (.slice 0 (tm 11) (some (tm 13)) none none),om 4 14,od 5 (.mv kT)] [kp [4,5] []]) .ret)))
def Ff:List RV:=[.tmp 4,.tmp 5]
/- internal/stringslite.HasPrefix (function 58) -/
abbrev Fg:IC:=(.seq (.reg [od 4 (.mv kF)] [kp [0,1] []]) (.seq (.reg [om 5 0,od 6 (le 1 5),om 7 1,od 8 (le 1 7),od 9 (.bin .geq (tm 6) (tm 8)),om 10 9,oT 11 (.mv (tm 0)) 10,oT 12 (.mv (tm 1)) 10,oT 13 (le 1 12) 10,oT 14 (.slice 0 (tm
 11) none (some (tm 13)) none) 10,oT 15 (.mv (tm 1)) 10,oT 16 (.bin .eql (tm 14) (tm 15)) 10,od 17 (.pick (tm 10) (tm 16) kF),om 4 17] [kp [4] []]) .ret))
def Fh:List RV:=[.tmp 4]
/- (*probecard/cnfs.Cnf).add (function 20) -/
abbrev X7:IC:=(.reg [om 4 0,om 5 0,od 6 (.nck (tm 5)),od 7 (fa 1 6),od 8 (ld 1 7),om 9 1,od 10 (.app false 37 1 (tm 8) (tm 9)),od 11 (.nck (tm 4)),od 12 (fa 1 11),on (.store 1 (tm 12) (tm 10))] [.keepE []])
def X8:List RV:=[]
/- probecard/cnfs.Parse (function 8) -/
abbrev q1D:IC:=.gh (.seq (.reg [od 73 (.bin .lss (tm 72) (tm 71))] [.keepE [2,9,70,71,72,73]]) (.seq (.cond (tm 73) .skip (.exit 0)) (.seq (.block 1 (.seq (.reg [od 74 (ia 1 70 72),od 75 (ld 1 74),om 11 75] [.keepE [2,9,11,70,71,72]])
 (.seq (.reg [om 77 11,od 78 (.call 19 [(tm 77)]),om 76 78,od 79 (ex 76 0),od 80 (ex 76 1),om 12 79,om 13 80] [.keepE [2,9,12,13,70,71,72]]) (.seq (.seq (.reg [om 81 13,od 82 (.un .not (tm 81)),om 83 82,oF 84 (.mv (tm
 12)) 83,oF 85 (.mv (tm 12)) 83,oF 86 (le 0 85) 83,oF 87 (.bin .sub (tm 86) (ki 1)) 83,oF 88 (ia 1 84 87) 83,oF 89 (ld 1 88) 83,oF 90 (.bin .neq (tm 89) (ki 0)) 83,od 91 (.pick (tm 83) kT (tm 90))] [.keepE [2,9,12,70,71,
 72,91]]) (.cond (tm 91) (.seq (.reg [od 92 (.build [(1,(ki 0)),(1,kN)]),on (.store 2 (tm 2) (tm 92)),od 3 (.mv (ki 4))] [.keepE [2,3]]) .ret) .skip)) (.reg [om 93 12,om 94 12,od 95 (le 0 94),od 96 (.bin .sub (tm 95) (ki
 1)),om 97 12,od 98 (le 0 97),od 99 (.bin .sub (tm 98) (ki 1)),od 100 (.slice 1 (tm 93) none (some (tm 96)) (some (tm 99))),od 101 (.bsl true 37 1 [(tm 100)]),od 102 (.hcall 20 [(tm 9),(tm 101)] [9,900] 500000)] [.ren 500010
 900,.keepE [2,9,70,71,72]]))))) (.reg [od 103 (.bin .add (tm 72) (ki 1)),om 72 103] [.keepE [2,9,70,71,72]])))) [.keepE [2,9,70,71,72]]
def Py:IC:=.loop q1D
abbrev Pz:IC:=(.seq (.reg [od 2 (.alloc false [(.int .i64 0),(.slice none 0 0)]),od 3 (.mv (ki 0))] [.keepE [0,2]]) (.seq (.seq (.reg [om 14 0,od 15 (le 1 14),od 16 (.bin .gtr (tm 15) (ki 1048576))] [.keepE [0,2,16]]) (.cond (tm 16) (.seq
 (.reg [od 17 (.build [(1,(ki 0)),(1,kN)]),on (.store 2 (tm 2) (tm 17)),od 3 (.mv (ki 3))] [.keepE [2,3]]) .ret) .skip)) (.seq (.reg [om 18 0,od 19 (.call 17 [(tm 18),(.const (sV [10]))]),om 4 19] [.keepE [2,4]]) (.seq
 (.reg [om 21 4,od 22 (.iadr 1 (tm 21) (ki 0)),od 23 (ld 1 22),od 24 (.call 18 [(tm 23),(.const (sV [112,32,99,110,102,32]))]),om 20 24,od 25 (ex 20 0),od 26 (ex 20 1),om 5 25,om 6 26] [.keepE [2,4,5,6]]) (.seq
 (.reg [om 28 5,od 29 (.call 19 [(tm 28)]),om 27 29,od 30 (ex 27 0),od 31 (ex 27 1),om 7 30,om 8 31] [.keepE [2,4,6,7,8]]) (.seq (.seq (.reg [om 32 6,od 33 (.un .not (tm 32)),om 34 33,oF 35 (.mv (tm 8)) 34,oF 36 (.un
 .not (tm 35)) 34,od 37 (.pick (tm 34) kT (tm 36)),om 38 37,oF 39 (.mv (tm 7)) 38,oF 40 (le 0 39) 38,oF 41 (.bin .neq (tm 40) (ki 2)) 38,od 42 (.pick (tm 38) kT (tm 41)),om 43 42,oF 44 (.mv (tm 4)) 43,oF 45 (.mv (tm 4)) 43,
 oF 46 (le 0 45) 43,oF 47 (.bin .sub (tm 46) (ki 1)) 43,oF 48 (ia 1 44 47) 43,oF 49 (ld 1 48) 43,oF 50 (.bin .neq (tm 49) (.const (sV []))) 43,od 51 (.pick (tm 43) kT (tm 50)),om 52 51,oF 53 (.mv (tm 7)) 52,oF 54 (.iadr 1
 (tm 53) (ki 1)) 52,oF 55 (ld 1 54) 52,oF 56 (.mv (tm 4)) 52,oF 57 (le 0 56) 52,oF 58 (.bin .sub (tm 57) (ki 2)) 52,oF 59 (.bin .neq (tm 55) (tm 58)) 52,od 60 (.pick (tm 52) kT (tm 59))] [.keepE [2,4,7,60]]) (.cond (tm 60)
 (.seq (.reg [od 61 (.build [(1,(ki 0)),(1,kN)]),on (.store 2 (tm 2) (tm 61)),od 3 (.mv (ki 4))] [.keepE [2,3]]) .ret) .skip)) (.seq (.reg [om 62 7,od 63 (.iadr 1 (tm 62) (ki 0)),od 64 (ld 1 63),od 65 (.build [(1,(tm 64)),
 (1,kN)]),od 9 (.alloc false [(.int .i64 0),(.slice none 0 0)]),on (.store 2 (tm 9) (tm 65))] [.nlb 9 1 900 37 1,.keepE [2,4,9]]) (.seq (.seq (.reg [om 66 4,om 67 4,od 68 (le 0 67),od 69 (.bin .sub (tm 68) (ki 1)),od 70
 (.slice 1 (tm 66) (some (ki 1)) (some (tm 69)) none),od 71 (le 0 70),od 72 (.mv (ki 0))] [.keepE [2,9,70,71,72]]) (.block 0 Py)) (.seq (.seq (.reg [od 104 (lG 2 9),od 105 (.call 10 [(tm 104)]),od 106 (.bin .neq
 (tm 105) (ki 0))] [.frz 900,.keepE [2,9,106]]) (.cond (tm 106) (.seq (.reg [od 107 (.build [(1,(ki 0)),(1,kN)]),on (.store 2 (tm 2) (tm 107)),od 3 (.mv (ki 4))] [.keepE [2,3]]) .ret) .skip)) (.seq (.reg [od 108 (lG 2 9),
 on (.store 2 (tm 2) (tm 108)),od 3 (.mv (ki 0))] [.keepE [2,3]]) .ret))))))))))
theorem Vb (h:∀ K:St->Prop,K=run P Γ Py Q->run P Γ q1D (B1 K Q) s):run P Γ Py Q s:=Au h
def Ci:List RV:=[.cell 2 2 true,.tmp 3]
/- probecard/probecardlaw28.equal (function 9) -/
abbrev q0G:IC:=.gh (.seq (.seq (.reg [om 41 6,od 42 (fa 1 2),od 43 (ld 1 42),om 44 5,od 45 (ia 1 43 44),od 46 (ld 1 45),od 47 (le 0 46),od 48 (.bin .lss (tm 41) (tm 47))] [kp [2,3,5,6,48] []]) (.cond (tm 48) .skip (.exit 2))) (.seq
 (.block 3 (.seq (.reg [od 51 (fa 1 2),od 52 (ld 1 51),om 53 5,od 54 (ia 1 52 53),od 55 (ld 1 54),om 56 6,od 57 (ia 1 55 56),od 58 (ld 1 57),od 59 (fa 1 3),od 60 (ld 1 59),om 61 5,od 62 (ia 1 60 61),od 63 (ld 1 62),om
 64 6,od 65 (ia 1 63 64),od 66 (ld 1 65),od 67 (.bin .neq (tm 58) (tm 66))] [kp [2,3,5,6,67] []]) (.cond (tm 67) (.seq (.reg [od 4 (.mv kF)] [kp [4] []]) .ret) .skip))) (.reg [om 49 6,od 50 (.bin .add (tm 49) (ki 1)),om 6
 50] [kp [2,3,5,6] []]))) [kp [2,3,5,6] []]
def O3:IC:=.loop q0G
abbrev q0H:IC:=.gh (.seq (.seq (.reg [om 21 5,od 22 (fa 1 2),od 23 (ld 1 22),od 24 (le 0 23),od 25 (.bin .lss (tm 21) (tm 24))] [kp [2,3,5,25] []]) (.cond (tm 25) .skip (.exit 0))) (.seq (.block 1 (.seq (.seq (.reg [od 28 (fa 1 2),od 29
 (ld 1 28),om 30 5,od 31 (ia 1 29 30),od 32 (ld 1 31),od 33 (le 0 32),od 34 (fa 1 3),od 35 (ld 1 34),om 36 5,od 37 (ia 1 35 36),od 38 (ld 1 37),od 39 (le 0 38),od 40 (.bin .neq (tm 33) (tm 39))] [kp [2,3,5,40] []])
 (.cond (tm 40) (.seq (.reg [od 4 (.mv kF)] [kp [4] []]) .ret) .skip)) (.seq (.reg [od 6 (.mv (ki 0))] [kp [2,3,5,6] []]) (.block 2 O3)))) (.reg [om 26 5,od 27 (.bin .add (tm 26) (ki 1)),om 5 27] [kp [2,3,5]
 []]))) [kp [2,3,5] []]
def O4:IC:=.loop q0H
abbrev q0I:IC:=(.seq (.reg [od 2 (.box true (tm 0)),od 3 (.box true (tm 1)),od 4 (.mv kF)] [kp [2,3] []]) (.seq (.seq (.reg [od 7 (fa 0 2),od 8 (ld 1 7),od 9 (fa 0 3),od 10 (ld 1 9),od 11 (.bin .neq (tm 8) (tm 10)),om 12 11,oF 13 (fa 1
 2) 12,oF 14 (ld 1 13) 12,oF 15 (le 0 14) 12,oF 16 (fa 1 3) 12,oF 17 (ld 1 16) 12,oF 18 (le 0 17) 12,oF 19 (.bin .neq (tm 15) (tm 18)) 12,od 20 (.pick (tm 12) kT (tm 19))] [kp [2,3,20] []]) (.cond (tm 20) (.seq (.reg [od 4
 (.mv kF)] [kp [4] []]) .ret) .skip)) (.seq (.seq (.reg [od 5 (.mv (ki 0))] [kp [2,3,5] []]) (.block 0 O4)) (.seq (.reg [od 4 (.mv kT)] [kp [4] []]) .ret))))
theorem Tn (h:∀ K:St->Prop,K=run P Γ O3 Q->run P Γ q0G (B1 K Q) s):run P Γ O3 Q s:=Au h
theorem To (h:∀ K:St->Prop,K=run P Γ O4 Q->run P Γ q0H (B1 K Q) s):run P Γ O4 Q s:=Au h
def q0J:List RV:=[.tmp 4]
/- probecard/probecardlaw28.CnfsTexts (function 3) -/
abbrev I0:IC:=(.seq (.reg [od 6 (.mv kF)] [kp [0,1,2] []]) (.seq (.seq (.reg [om 13 1,od 14 (le 0 13),od 15 (.bin .gtr (tm 14) (ki 60)),om 16 15,oF 17 (.mv (tm 2)) 16,oF 18 (le 1 17) 16,oF 19 (.bin .gtr (tm 18) (ki 200)) 16,od 20 (.pick
 (tm 16) kT (tm 19))] [kp [0,1,2,20] []]) (.cond (tm 20) (.seq (.reg [od 21 (.call 5 []),om 6 21] [kp [6] []]) .ret) .skip)) (.seq (.reg [om 22 0,om 23 1,od 24 (.call 6 [(tm 22),(tm 23)]),od 7 (.alloc false [(.int .i64 0),
 (.slice none 0 0)]),on (.store 2 (tm 7) (tm 24))] [kp [2,7] [7]]) (.seq (.reg [od 25 (lG 2 7),od 26 (.call 7 [(tm 25)]),om 8 26] [kp [2,7,8] [7]]) (.seq (.reg [om 28 8,od 29 (.call 8 [(tm 28)]),om 27 29,od 30 (ex 27 0),od
 31 (ex 27 1),od 9 (.alloc false [(.int .i64 0),(.slice none 0 0)]),on (.store 2 (tm 9) (tm 30)),om 10 31] [kp [2,7,8,9,10] [7,9]]) (.seq (.seq (.reg [om 32 10,od 33 (.bin .neq (tm 32) (ki 0)),om 34 33,oF 35 (lG 2 7) 34,
 oF 36 (lG 2 9) 34,oF 37 (.call 9 [(tm 35),(tm 36)]) 34,oF 38 (.un .not (tm 37)) 34,od 39 (.pick (tm 34) kT (tm 38)),om 40 39,oF 41 (.mv (tm 8)) 40,oF 42 (le 1 41) 40,oF 43 (.bin .lss (tm 42) (ki 10)) 40,od 44 (.pick (tm
 40) kT (tm 43)),om 45 44,oF 46 (.mv (tm 8)) 45,oF 47 (.slice 0 (tm 46) none (some (ki 8)) none) 45,oF 48 (fa 0 7) 45,oF 49 (ld 1 48) 45,oF 50 (.bin .add (ki 48) (tm 49)) 45,oF 51 (.conv .u8 (tm 50)) 45,oF 52 (.bsl true 5 1
 [(tm 51),(ku 32)]) 45,oF 53 (.bytesStr (tm 52)) 45,oF 54 (.bin .add (.const (sV [112,32,99,110,102,32])) (tm 53)) 45,oF 55 (.bin .neq (tm 47) (tm 54)) 45,od 56 (.pick (tm 45) kT (tm 55)),om 57 56,oF 58 (.mv (tm 8)) 57,
 oF 59 (.mv (tm 8)) 57,oF 60 (le 1 59) 57,oF 61 (.bin .sub (tm 60) (ki 1)) 57,oF 62 (.idxS (tm 58) (tm 61)) 57,oF 63 (.bin .neq (tm 62) (ku 10)) 57,od 64 (.pick (tm 57) kT (tm 63))] [kp [2,64] []]) (.cond (tm 64) (.seq (.reg
 [od 6 (.mv kF)] [kp [6] []]) .ret) .skip)) (.seq (.reg [om 66 2,od 67 (.call 8 [(tm 66)]),om 65 67,od 68 (ex 65 0),od 69 (ex 65 1),od 11 (.alloc false [(.int .i64 0),(.slice none 0 0)]),on (.store 2 (tm 11) (tm 68)),om 12
 69] [kp [2,11,12] [11]]) (.seq (.seq (.reg [om 70 12,od 71 (.bin .neq (tm 70) (ki 0))] [kp [2,11,12,71] [11]]) (.cond (tm 71) (.seq (.reg [om 72 12,od 73 (.bin .eql (tm 72) (ki 4)),om 74 73,oT 75 (fa 0 11) 74,oT 76 (ld 1
 75) 74,oT 77 (.bin .eql (tm 76) (ki 0)) 74,od 78 (.pick (tm 74) (tm 77) kF),om 79 78,oT 80 (fa 1 11) 79,oT 81 (ld 1 80) 79,oT 82 (le 0 81) 79,oT 83 (.bin .eql (tm 82) (ki 0)) 79,od 84 (.pick (tm 79) (tm 83) kF),om 85 84,
 oT 86 (.call 5 []) 85,od 87 (.pick (tm 85) (tm 86) kF),om 6 87] [kp [6] []]) .ret) .skip)) (.seq (.reg [od 88 (lG 2 11),od 89 (.call 10 [(tm 88)]),od 90 (.bin .eql (tm 89) (ki 0)),om 91 90,oT 92 (lG 2 11) 91,oT 93 (.call 7
 [(tm 92)]) 91,oT 94 (.mv (tm 2)) 91,oT 95 (.bin .eql (tm 93) (tm 94)) 91,od 96 (.pick (tm 91) (tm 95) kF),om 97 96,oT 98 (.call 5 []) 97,od 99 (.pick (tm 97) (tm 98) kF),om 6 99] [kp [6] []]) .ret)))))))))
def Fj:List RV:=[.tmp 6]
end
end Go.Lg
namespace Go.Lg
open Go Go.Proofs
theorem q2p:Ax Tryz.prog 57 Wx 8 2 Wy=true:=by kernel_rfl
theorem X9:Ax Tryz.prog 78 Hy 143 2 Hz=true:=by kernel_rfl
theorem q0K:Ax Tryz.prog 35 Qw 8 2 Qx=true:=by kernel_rfl
theorem q0L:Ax Tryz.prog 59 Qy 8 3 Qz=true:=by kernel_rfl
theorem q2q:Ax Tryz.prog 17 Wz 8 2 X4=true:=by kernel_rfl
theorem q0M:Ax Tryz.prog 33 R2 66 4 Gs=true:=by kernel_rfl
theorem q2r:Ax Tryz.prog 56 X5 34 2 X6=true:=by kernel_rfl
theorem Z4:Ax Tryz.prog 18 Q9 11 2 Qa=true:=by kernel_rfl
theorem Rn:Ax Tryz.prog 34 K0 15 2 Ff=true:=by kernel_rfl
theorem Ro:Ax Tryz.prog 58 Fg 18 2 Fh=true:=by kernel_rfl
theorem q2s:Ax Tryz.prog 20 X7 13 2 X8=true:=by kernel_rfl
theorem Tq:Ax Tryz.prog 8 Pz 109 1 Ci=true:=by kernel_rfl
theorem q4d:Ax Tryz.prog 9 q0I 68 2 q0J=true:=by kernel_rfl
theorem q0s:Ax Tryz.prog 3 I0 100 3 Fj=true:=by kernel_rfl
end Go.Lg
namespace Go.Lg
open Go Go.Proofs
variable {Γ:Tables}
theorem qC4 (s:ByteArray):∀ (k i:Nat) (r:List UInt8),k+i=s.size->ByteArray.toList.loop s i r=r.reverse++s.data.toList.drop i
 | 0,i,r,h=>by
  unfold ByteArray.toList.loop
  have hl:s.data.toList.length=s.size:=rfl
  rw[if_neg (by omega),List.drop_of_length_le (by omega)]
  simp
 | k+1,i,r,h=>by
  unfold ByteArray.toList.loop
  have hl:s.data.toList.length=s.size:=rfl
  have hi:i<s.data.toList.length:=by omega
  rw[if_pos (by omega),qC4 s k (i+1) _ (by omega),List.drop_eq_getElem_cons hi]
  have:s.get! i=s.data.toList[i]:=by
   simp[ByteArray.get!,getElem!_def,Array.getElem?_eq_getElem (show i<s.data.size from by simpa using hi)]
  simp[this]
theorem Ec (s:ByteArray):s.toList=s.data.toList:=by
 have:=qC4 s s.size 0 [] (by omega)
 simpa[ByteArray.toList]using this
theorem q4J (s:ByteArray) (c:UInt8):A6 Tryz.prog Γ 57 [.v (.string s),.v (.string ⟨#[c]⟩)] (tI (Lib.indexByte s.data.toList c)):=by
 have h1:A6 Tryz.prog Γ 78 [.v (.string s),.v (.string ⟨#[c]⟩)] (tI (Lib.indexByte s.data.toList c)):=by
  refine Af X9 rfl ?_
  have hz:(⟨#[c]⟩:ByteArray).size=1:=rfl
  have hb:(⟨#[c]⟩:ByteArray).data.toList=[c]:=rfl
  have hl:=q7O (Γ:=Γ) s (c.toNat:Int)
  have hc:(c.toNat:Int).toNat.toUInt8=c:=by simp
  rw[hc]at hl
  by_cases h:[c]=s.toList
  ·have h0:Lib.indexByte s.data.toList c=0:=by
    rw[<- Ec,<- h];simp[Lib.indexByte]
   rw[h0]
   have hs:s=⟨#[c]⟩:=by
    have e:s.data.toList=[c]:=by rw[<- Ec,<- h]
    obtain⟨⟨l⟩⟩:=s
    simp only at e;rw[e]
   clear h hl h0
   subst hs
   simp[Hy,hz,Dy,Hz]
  ·simp[Hy,hz,hb,h,Dy]
   refine A4 hl rfl ?_
   simp[Hz]
 refine Af q2p rfl ?_
 simp[Wx]
 refine A4 h1 rfl ?_
 simp[Wy]
theorem qMY:(Tryz.prog.funcs[77]?).map (fun f=>(f.name,f.body.isNone,f.origin))=some ("internal/bytealg.CountString",true, ""):=by kernel_rfl
theorem q3u (s:ByteArray) (c:Int):A6 Tryz.prog Γ 77 [.v (.string s),tK c] (tI (Lib.countByte s.data.toList c.toNat.toUInt8)):=by
 intro w X vs hg hx hts
 obtain⟨x,xs,rfl,h1,h2⟩:=hts.cons_inv
 obtain⟨y,ys,rfl,h3,h4⟩:=h2.cons_inv
 have:=h4.nil_inv;subst this
 cases h1;cases h3
 refine .inr ⟨.int .i64 (Lib.countByte s.data.toList c.toNat.toUInt8),?_,RowKit.Below.refl _ _,.v _⟩
 have h:=qMY
 simp only[Option.map_eq_some_iff,Prod.mk.injEq]at h
 obtain⟨fn,hf,hn,hb,ho⟩:=h
 have e1:Extern.findNext fn=none:=by
  simp only[Extern.findNext,hn,ho]
  have a:Extern.allNextRows.lookup "internal/bytealg.CountString" = none:=by kernel_rfl
  have b:Extern.allNextRows.lookup "" = none:=by kernel_rfl
  rw[a,b];rfl
 have e2:Extern.find fn=some Extern.BytealgCount.count:=by
  simp only[Extern.find,hn,ho]
  have a:Extern.allGenericRows.lookup "internal/bytealg.CountString" = none:=by kernel_rfl
  have b:Extern.allTypedRows.lookup "internal/bytealg.CountString" = none:=by kernel_rfl
  have c:Extern.allRows.lookup "internal/bytealg.CountString" = some Extern.BytealgCount.count:=by kernel_rfl
  rw[a,b,c];rfl
 have hnn:¬ fn.name = "runtime.NumGoroutine" := by rw[hn];decide
 have hr:=Lib.run_countString (P:=Tryz.prog) s c w
 have hb':fn.body=none:=by simpa using hb
 simp[callFunc,hf,hnn,hb',e1,e2,hr]
theorem q9c (s:ByteArray) (c:UInt8):A6 Tryz.prog Γ 56 [.v (.string s),.v (.string ⟨#[c]⟩)] (tI (Lib.countByte s.data.toList c)):=by
 refine Af q2r rfl ?_
 have hz:(⟨#[c]⟩:ByteArray).size=1:=rfl
 have hb:(⟨#[c]⟩:ByteArray).data.toList=[c]:=rfl
 have hl:=q3u (Γ:=Γ) s (c.toNat:Int)
 have hc:(c.toNat:Int).toNat.toUInt8=c:=by simp
 rw[hc]at hl
 simp[X5,hz,hb]
 refine A4 hl rfl ?_
 simp[X6]
end Go.Lg
namespace Go.Lg
open Go Go.Proofs Go.RowKit Go.Shelf
attribute [local go_sem] Oper.semAt_some
inductive SpR (idx:ByteArray->Int):ByteArray->List ByteArray->Prop
 | last (s:ByteArray) (h:idx s<0):SpR idx s [s]
 | more (s:ByteArray) (xs:List ByteArray) (i:Nat) (h:idx s=i) (hi:i<s.size) (hr:SpR idx (s.extract (i+1) s.size) xs):SpR idx s (s.extract 0 i::xs)
def qHD (W:World) (b:Nat):Nat:=match W.cell? ⟨b,0,none⟩ with
 | some (.string s)=>s.size
 | _=>0
theorem K8.below {S:Nat->Prop} {W W':World} (h:Below W.heap.size W W'):K8 S W W':=⟨h.os,h.tape,h.output,h.size,fun k hk _=>h.block k hk⟩
theorem K8.setCell {S:Nat->Prop} {W:World} {b o:Nat} (v:Value) (h:S b):K8 S W (W.setCell ⟨b,o,none⟩ v) :=
 ⟨rfl,rfl,rfl,by simp[World.setCell],fun k hk hs=>Below.heap_setCell W _ v k (fun e=>hs (e ▸ h))⟩
theorem q4R.cell {S:Nat->Prop} {W W':World} {b o:Nat} {v:Value} (h:q4R S W W') (hs:S b) (hc:W.cell? ⟨b,o,none⟩=some v):W'.cell? ⟨b,o,none⟩=some v:=by
 have hlt:b<W.heap.size:=by
  unfold World.cell? at hc
  cases hb:W.heap[b]? with
  | none=>simp[hb]at hc
  | some o=>exact(Array.getElem?_eq_some_iff.1 hb).1
 exact(World.cell?_of_block (h.2 b hs hlt)).trans hc
theorem q4R.frozen {S:Nat->Prop} {W W':World} {b o:Nat} {v:Value} {q:Bool} (h:q4R S W W') (hs:S b) (hc:W.cell? ⟨b,o,none⟩=some v) (hf:W.frozen? ⟨b,o,none⟩=q):W'.frozen? ⟨b,o,none⟩=q:=by
 have hlt:b<W.heap.size:=by
  unfold World.cell? at hc
  cases hb:W.heap[b]? with
  | none=>simp[hb]at hc
  | some o=>exact(Array.getElem?_eq_some_iff.1 hb).1
 exact(World.frozen?_of_block (h.2 b hs hlt)).trans hf
theorem q65 {W W':World} {b o:Nat} {v:Value} (h:Below W.heap.size W W') (hc:W.cell? ⟨b,o,none⟩=some v):b<W.heap.size/\W'.cell? ⟨b,o,none⟩=some v:=by
 have hlt:b<W.heap.size:=by
  unfold World.cell? at hc
  cases hb:W.heap[b]? with
  | none=>simp[hb]at hc
  | some o=>exact(Array.getElem?_eq_some_iff.1 hb).1
 exact⟨hlt,(World.cell?_of_block (h.block b hlt)).trans hc⟩
theorem _root_.Go.RowKit.Below.cell' {W W':World} {b o:Nat} {v:Value} (h:Below W.heap.size W W') (hc:W.cell? ⟨b,o,none⟩=some v):W'.cell? ⟨b,o,none⟩=some v:=(q65 h hc).2
theorem _root_.Go.RowKit.Below.frozen' {W W':World} {b o:Nat} {v:Value} {q:Bool} (h:Below W.heap.size W W') (hc:W.cell? ⟨b,o,none⟩=some v) (hf:W.frozen? ⟨b,o,none⟩=q):W'.frozen? ⟨b,o,none⟩=q:=(World.frozen?_of_block (h.block b (q65 h hc).1)).trans hf
set_option maxRecDepth 100000 in
set_option maxHeartbeats 2000000 in
theorem qEq (idx:ByteArray->Int) (sep:ByteArray) (hsep:sep.size=1) (hidx:∀ s W,CallsIn Fence.wide 0 Tryz.prog 57 #[.string s,.string sep] W fun e W'=>e=.returned (.int .i64 (idx s))/\Below W.heap.size W W')
  (l bs bp bv:Nat) (s0:ByteArray) (hs0:s0.size<=1000000000) (xs:List ByteArray) (hx:SpR idx s0 xs) (hne:bs≠bp/\bs≠bv) (J Jx:List ByteArray->World->Prop)
  (hJ:∀ s,Ab (fun k=>k=bs\/k=bp\/k=bv) (J s))
  (hY:∀ pre x W,pre++[x] <+: xs->J pre W->YieldAt Fence.wide 0 Tryz.prog l #[.string x] W fun e W' =>
   (e=.returned (.bool true)/\J (pre++[x]) W'/\q4R (fun k=>k=bs\/k=bp\/k=bv) W W')\/(e=.returned (.bool false)/\Jx (pre++[x]) W'))
  (W:World) (hcs:W.cell? ⟨bs,0,none⟩=some (.string s0)) (hcp:W.cell? ⟨bp,0,none⟩=some (.string sep)) (hcv:W.cell? ⟨bv,0,none⟩=some (.int .i64 0)) (hfs:W.frozen? ⟨bs,0,none⟩=false) (h0:J [] W) :
  CallsIn Fence.wide 0 Tryz.prog 79 #[.func (.yield l) #[] #[],.pointer (some ⟨bp,0,none⟩),.pointer (some ⟨bs,0,none⟩),.pointer (some ⟨bv,0,none⟩)] W fun e W'=>(∃ v,e=.returned v)/\(J xs W'\/∃ pre,Jx pre W'):=by
 refine callsIn_of_wp Tryz.func79 rfl trivial ?_ rfl
 simp only[Tryz.ntmps79,List.size_toArray,List.length_cons,List.length_nil,Nat.reduceAdd,Nat.reduceSub,Array.replicate_succ,Array.replicate_zero,List.push_toArray,List.append_toArray,List.nil_append,List.cons_append]
 gi_wp2
 gi_loopw [7] (fun _ wr=>∃ pre s ys,xs=pre++ys/\SpR idx s ys/\s.size<=1000000000/\wr.cell? ⟨bs,0,none⟩=some (.string s)/\wr.cell? ⟨bp,0,none⟩=some (.string sep)/\wr.cell? ⟨bv,0,none⟩=some (.int .i64 0)/\wr.frozen? ⟨bs,0,none⟩=false/\J pre wr)
  (fun _ wr=>qHD wr bs)
 case atStart=>exact⟨[],s0,xs,rfl,hx,hs0,hcs,hcp,hcv,hfs,h0⟩
 case round =>
  obtain⟨pre,s,ys,rfl,hsp,hsz,hc1,hc2,hc3,hf1,hJs⟩:=hrel
  have hidx2:=hidx s wr
  gi_wp2
  refine⟨trivial,rfl,?_⟩
  refine hidx2.mono ?_
  rintro e W2 ⟨rfl,hB⟩
  have c1:W2.cell? ⟨bs,0,none⟩=some (.string s):=hB.cell' hc1
  have c2:W2.cell? ⟨bp,0,none⟩=some (.string sep):=hB.cell' hc2
  have c3:W2.cell? ⟨bv,0,none⟩=some (.int .i64 0):=hB.cell' hc3
  have f1:W2.frozen? ⟨bs,0,none⟩=false:=hB.frozen' hc1 hf1
  have hJ2:J pre W2:=hJ _ _ _ hJs (K8.below hB)
  cases hsp with
  | last _ hneg =>
   obtain⟨fn,tmps,assign,body,hy,hR⟩:=hY pre s W2 (List.prefix_refl _) hJ2
   gi_wp2
   refine⟨rfl,hR.mono ?_⟩
   rintro e W3 (⟨rfl,hJ3,hk3⟩|⟨rfl,hJx3⟩)
   ·gi_wp2
    go_end0
    exact⟨⟨_,rfl⟩,.inl hJ3⟩
   ·gi_wp2
    go_end0
    exact⟨⟨_,rfl⟩,.inr ⟨_,hJx3⟩⟩
  | more _ ys i hi hlt hr =>
   rw[hi]
   obtain⟨fn,tmps,assign,body,hy,hR⟩:=hY pre (s.extract 0 i) W2 ⟨ys,by simp⟩ hJ2
   gi_wp2
   refine⟨rfl,hR.mono ?_⟩
   rintro e W3 (⟨rfl,hJ3,hk3⟩|⟨rfl,hJx3⟩)
   ·have d1:W3.cell? ⟨bs,0,none⟩=some (.string s):=hk3.cell (.inl rfl) c1
    have d2:W3.cell? ⟨bp,0,none⟩=some (.string sep):=hk3.cell (.inr (.inl rfl)) c2
    have d3:W3.cell? ⟨bv,0,none⟩=some (.int .i64 0):=hk3.cell (.inr (.inr rfl)) c3
    have e1:W3.frozen? ⟨bs,0,none⟩=false:=hk3.frozen (.inl rfl) c1 f1
    have w1:IntKind.i64.wrap ((i:Int)+1)=((i+1:Nat):Int):=by simp[IntKind.wrap,IntKind.signed,IntKind.bits];omega
    gi_wp2
    have oth:∀ {b:Nat} {v:Value},b≠bs->W3.cell? ⟨b,0,none⟩=some v->(W3.setCell ⟨bs,0,none⟩ (.string (s.extract (i+1) s.size))).cell? ⟨b,0,none⟩=some v:=fun hb hc=>(World.cell?_of_block (Below.heap_setCell W3 _ _ _ hb)).trans hc
    have hsz2:(s.extract (i+1) s.size).size=s.size-(i+1):=by rw[ByteArray.size_extract];omega
    have same:(W3.setCell ⟨bs,0,none⟩ (.string (s.extract (i+1) s.size))).cell? ⟨bs,0,none⟩=some (.string (s.extract (i+1) s.size)):=World.cell?_setCell_same' _ _ _ (by rw[d1];rfl)
    refine⟨⟨pre++[s.extract 0 i],s.extract (i+1) s.size,ys,by simp,hr,by omega,same,oth (fun e=>hne.1 e.symm) d2,oth (fun e=>hne.2 e.symm) d3,by rw[World.frozen?_setCell];exact e1,hJ _ _ _ hJ3 (K8.setCell _ (.inl rfl))⟩,?_⟩
    unfold qHD
    rw[same,hc1]
    simp only[]
    omega
   ·gi_wp2
    refine bodyPost_ret (results_none rfl _ _ _) rfl ?_
    exact⟨⟨_,rfl⟩,.inr ⟨_,hJx3⟩⟩
theorem qD0 (idx:ByteArray->Int) (sep:ByteArray) (hsep:sep.size=1) (hidx:∀ s W,CallsIn Fence.wide 0 Tryz.prog 57 #[.string s,.string sep] W fun e W'=>e=.returned (.int .i64 (idx s))/\Below W.heap.size W W')
  (bs bp bv:Nat) (s0:ByteArray) (hs0:s0.size<=1000000000) (xs:List ByteArray) (hx:SpR idx s0 xs) (hne:bs≠bp/\bs≠bv) :
  qDj Tryz.prog 79 #[.pointer (some ⟨bp,0,none⟩),.pointer (some ⟨bs,0,none⟩),.pointer (some ⟨bv,0,none⟩)] (fun s:ByteArray=>.string s) (fun k=>k=bs\/k=bp\/k=bv) xs
   (fun W=>W.cell? ⟨bs,0,none⟩=some (.string s0)/\W.cell? ⟨bp,0,none⟩=some (.string sep)/\W.cell? ⟨bv,0,none⟩=some (.int .i64 0)/\W.frozen? ⟨bs,0,none⟩=false) :=
 fun l J Jx W ⟨h1,h2,h3,h4⟩ hJ _ hY h0=>qEq idx sep hsep hidx l bs bp bv s0 hs0 xs hx hne J Jx hJ hY W h1 h2 h3 h4 h0
end Go.Lg
namespace Go.Lg
open Go Go.Proofs Go.RowKit
theorem q9d (s:ByteArray) (c:UInt8) (W:World):CallsIn Fence.wide 0 Tryz.prog 57 #[.string s,.string ⟨#[c]⟩] W fun e W'=>e=.returned (.int .i64 (Lib.indexByte s.data.toList c))/\Below W.heap.size W W':=by
 refine callsIn_wide.2 ?_
 have h:=q4J (Γ:=fun _=>none) s c W (fun _=>False) [.string s,.string ⟨#[c]⟩] (fun g cs hg=>by cases hg) (fun b hb=>hb.elim) (Ds.cons (.v _) (Ds.cons (.v _) (Ds.nil _ _)))
 have he:∀ vs,(callFunc 57 vs).run Tryz.prog W=.ok (.enter 57 vs) W:=fun vs=>enters_of Tryz.func57 (by kernel_rfl) rfl vs W
 rcases h with⟨_,h⟩|⟨v,h,_⟩
 ·refine h.mono fun e W' ⟨v,h1,h2,h3⟩=>?_
  cases h3
  exact⟨h1,h2⟩
 ·have:=he #[.string s,.string ⟨#[c]⟩]
  rw[show([Value.string s,Value.string ⟨#[c]⟩].toArray)=#[.string s,.string ⟨#[c]⟩] from rfl]at h
  rw[h]at this
  cases this
theorem qB0 (c:UInt8) (bs bp bv:Nat) (s0:ByteArray) (hs0:s0.size<=1000000000) (xs:List ByteArray) (hx:SpR (fun s=>Lib.indexByte s.data.toList c) s0 xs) (hne:bs≠bp/\bs≠bv) :
  qDj Tryz.prog 79 #[.pointer (some ⟨bp,0,none⟩),.pointer (some ⟨bs,0,none⟩),.pointer (some ⟨bv,0,none⟩)] (fun s:ByteArray=>.string s) (fun k=>k=bs\/k=bp\/k=bv) xs
   (fun W=>W.cell? ⟨bs,0,none⟩=some (.string s0)/\W.cell? ⟨bp,0,none⟩=some (.string ⟨#[c]⟩)/\W.cell? ⟨bv,0,none⟩=some (.int .i64 0)/\W.frozen? ⟨bs,0,none⟩=false) :=
 qD0 _ _ rfl (fun s W=>q9d s c W) bs bp bv s0 hs0 xs hx hne
end Go.Lg
namespace Go.Lg
open Go Go.Proofs
def Ap (c:UInt8):List UInt8->List (List UInt8)
 | []=>[[]]
 | b::l=>if b=c then[]::Ap c l else match Ap c l with
  | []=>[[b]]
  | x::xs=>(b::x)::xs
theorem q1t (c:UInt8):∀ l:List UInt8,(Lib.indexByte l c = -1/\Ap c l=[l])\/∃ i:Nat,Lib.indexByte l c=i/\i<l.length/\Ap c l=l.take i::Ap c (l.drop (i+1))
 | []=>.inl ⟨rfl,rfl⟩
 | b::l=>by
  by_cases hb:b=c
  ·refine .inr ⟨0,?_,by simp,?_⟩
   ·simp[Lib.indexByte,hb]
   ·simp[Ap,hb]
  ·rcases q1t c l with⟨h1,h2⟩|⟨i,h1,h2,h3⟩
   ·refine .inl ⟨?_,?_⟩
    ·simp[Lib.indexByte,hb,h1]
    ·simp[Ap,hb,h2]
   ·refine .inr ⟨i+1,?_,by simp;omega,?_⟩
    ·have:¬ (i:Int) = -1:=by omega
     simp[Lib.indexByte,hb,h1,this]
    ·rw[Ap,if_neg hb,h3]
     simp
theorem q7d (c:UInt8):∀ (n:Nat) (s:ByteArray),s.size<=n->SpR (fun s=>Lib.indexByte s.data.toList c) s ((Ap c s.data.toList).map fun l=>⟨l.toArray⟩)
 | n,s,hn=>by
  rcases q1t c s.data.toList with⟨h1,h2⟩|⟨i,h1,h2,h3⟩
  ·rw[h2]
   have:([s.data.toList].map fun l=>(⟨l.toArray⟩:ByteArray))=[s]:=by simp
   rw[this]
   exact .last s (by simp only[h1];omega)
  ·rw[h3,List.map_cons]
   have hl:s.data.toList.length=s.size:=rfl
   have e1:(⟨(s.data.toList.take i).toArray⟩:ByteArray)=s.extract 0 i:=by
    obtain⟨⟨l⟩⟩:=s
    simp[ByteArray.ext_iff]
   have e2:(s.extract (i+1) s.size).data.toList=s.data.toList.drop (i+1):=by
    obtain⟨⟨l⟩⟩:=s
    simp[ByteArray.size]
    exact List.take_of_length_le (by rw[List.length_drop];omega)
   rw[e1,<- e2]
   have hz:(s.extract (i+1) s.size).size=s.size-(i+1):=by rw[ByteArray.size_extract];omega
   match n with
   | 0=>omega
   | n+1=>exact .more s _ i h1 (by omega) (q7d c n _ (by omega))
end Go.Lg
namespace Go.Lg
open Go Go.Proofs
variable {Γ:Tables}
theorem Yb (c:UInt8):∀ l:List UInt8,(Ap c l).length=Lib.countByte l c+1
 | []=>rfl
 | b::l=>by
  have ih:=Yb c l
  unfold Lib.countByte at ih ⊢
  by_cases hb:b=c
  ·simp[Ap,hb,ih]
  ·rw[Ap,if_neg hb,List.count_cons]
   have:¬ (b==c)=true:=by simpa using hb
   rw[if_neg this]
   cases h:Ap c l with
   | nil=>rw[h]at ih;simp at ih
   | cons x xs=>rw[h]at ih;simpa using ih
end Go.Lg
namespace Go.Lg
def Xa (c:UInt8):List (List UInt8)->List UInt8
 | []=>[]
 | [x]=>x
 | x::y::l=>x++c::Xa c (y::l)
theorem Rx (c:UInt8) (l:List UInt8):Ap c l≠[]:=by
 intro h;have:=Yb c l;rw[h]at this;simp at this
theorem qB1 (c b:UInt8) (x:List UInt8):∀ (l:List (List UInt8)),Xa c ((b::x)::l)=b::Xa c (x::l)
 | []=>rfl
 | y::l=>rfl
theorem Qd (c:UInt8):∀ (l:List UInt8),Xa c (Ap c l)=l
 | []=>rfl
 | b::l=>by
  have ih:=Qd c l
  have hne:=Rx c l
  unfold Ap
  split
  ·rename_i h;subst h
   cases hs:Ap b l with
   | nil=>exact absurd hs hne
   | cons x xs=>rw[hs]at ih;show[]++b::Xa b (x::xs)=b::l;rw[ih];rfl
  ·split
   ·rename_i hs;exact absurd hs hne
   ·rename_i x xs hs
    rw[hs]at ih
    rw[qB1,ih]
theorem q3v (c:UInt8):∀ (a:List UInt8),c∉a->Ap c a=[a]
 | [],_=>rfl
 | b::a,h=>by
  have h1:¬ b=c:=fun e=>h (by rw[e];exact List.mem_cons_self ..)
  have h2:=q3v c a fun hm=>h (List.mem_cons_of_mem _ hm)
  rw[Ap,if_neg h1,h2]
theorem Xb (c:UInt8):∀ (a b:List UInt8),c∉a->Ap c (a++c::b)=a::Ap c b
 | [],b,_=>by simp[Ap]
 | x::a,b,h=>by
  have h1:¬ x=c:=fun e=>h (by rw[e];exact List.mem_cons_self ..)
  have h2:=Xb c a b fun hm=>h (List.mem_cons_of_mem _ hm)
  rw[List.cons_append,Ap,if_neg h1,h2]
theorem q66 (c:UInt8):∀ (l:List (List UInt8)),l≠[]->(∀ w∈l,c∉w)->Ap c (Xa c l)=l
 | [],h,_=>absurd rfl h
 | [x],_,h=>q3v c x (h x (List.mem_cons_self ..))
 | x::y::l,_,h=>by
  show Ap c (x++c::Xa c (y::l))=_
  rw[Xb c x _ (h x (List.mem_cons_self ..)),q66 c (y::l) (by simp) fun w hw=>h w (List.mem_cons_of_mem _ hw)]
end Go.Lg
namespace Go.Lg
open Go
section
variable {P:Program} {Γ:Tables} {Q:AX->St->Prop} {s:St}
/- probecard/cnfs.numbers.body (function 19) -/
abbrev G9:IC:=(.block 1 (.seq (.reg [om 11 4,od 12 (.call 36 [(tm 11)]),om 10 12,od 13 (ex 10 0),od 14 (ex 10 1),om 5 13,om 6 14] [.keepE [2,3,4,5,6]]) (.seq (.seq (.reg [om 15 6,od 16 (.isNilI false (tm 15)),om 17 16,oF 18 (.mv (tm
 5)) 17,oF 19 (.call 15 [(tm 18)]) 17,oF 20 (.mv (tm 4)) 17,oF 21 (.bin .neq (tm 19) (tm 20)) 17,od 22 (.pick (tm 17) kT (tm 21))] [.keepE [2,3,5,22]]) (.cond (tm 22) (.seq (.reg [on (.store 1 (tm 2) kN),on (.store 1 (tm 3)
 kF)] [.keepE []]) .ret) .skip)) (.reg [od 23 (ld 1 2),om 24 5,od 25 (.bsl true 3 1 [(tm 24)]),od 26 (.app false 3 1 (tm 23) (tm 25)),on (.store 1 (tm 2) (tm 26))] [.keepE []]))))
abbrev Qj:SK:=.seqR (.reg [od 2 (.alloc false [(.slice none 0 0)]),od 3 (.alloc false [(.bool false)])] [.keepE [0,2,3,4,5,6,10,11,12,13,14,15,16,17,18,19,20,21,22,23,24,25,26]]) (.seqL (.seqR (.reg [om 7 0,od 8 (.ncall
 35 [(tm 7),(.const (sV [32]))] 8000)] [.nlb 2 0 900 3 1,.keepE [2,3,4,5,6,8,10,11,12,13,14,15,16,17,18,19,20,21,22,23,24,25,26]]) (.block 0 (.rf))) (.seq (.reg [od 27 (ld 1 2),on (.store 1 (tm 2) (tm 27)),
 on (.store 1 (tm 3) kT)] [.frz 900,.keepE [2,3]]) .ret))
def Qk:List RV:=[.cell 2 1 false,.cell 3 1 false]
end
end Go.Lg
namespace Go.Lg
open Go Go.Proofs
theorem Xc:qBd Tryz.prog 19 Qj G9 (.tmp 8) 9 4 28 1 Qk=true:=by kernel_rfl
end Go.Lg
namespace Go.Lg
open Go Go.Proofs
variable {Γ:Tables}
theorem qB2 (s sep:ByteArray):Bl Tryz.prog Γ 59 [] [.t (.v (.string s)),.t (.v (.string sep)),.t (tI 0)] (.fn 79 [.lp 4 0 0,.lp 3 0 0,.lp 5 0 0]) [(3,.bx [.t (.v (.string s))]),(4,.bx [.t (.v (.string sep))]),(5,.bx [.t (tI 0)])]:=by
 refine N4 q0L rfl ?_
 simp[Qy,Qz]
theorem q67 (s sep:ByteArray):Bl Tryz.prog Γ 35 [] [.t (.v (.string s)),.t (.v (.string sep))] (.fn 79 [.lp 7004 0 0,.lp 7003 0 0,.lp 7005 0 0]) [(7003,.bx [.t (.v (.string s))]),(7004,.bx [.t (.v (.string sep))]),(7005,.bx [.t (tI 0)])]:=by
 refine N4 q0K rfl ?_
 have h:=qB2 (Γ:=Γ) s sep
 simp[Qw]
 refine⟨_,_,h,?_⟩
 simp[Qx]
theorem O5 {W:World} {b ty:Nat} {v:Value} (h:W.heap[b]? = some (.cells #[v] ty (0,0))):W.cell? ⟨b,0,none⟩=some v/\W.frozen? ⟨b,0,none⟩=false:=by
 constructor
 ·simp[World.cell?,h]
 ·simp[World.frozen?,h]
theorem qB3 (c:UInt8) (s:ByteArray) (hs:s.size<=1000000000):qGd Tryz.prog 79 [.string ⟨#[c]⟩,.string s,.int .i64 0] (fun s:ByteArray=>.string s) ((Ap c s.data.toList).map fun l=>⟨l.toArray⟩):=by
 intro bl hl hnd
 match bl,hl with
 | [bp,bs,bv],_ =>
  simp only[List.nodup_cons,List.mem_cons,List.not_mem_nil,or_false,not_or]at hnd
  have h:=qB0 c bs bp bv s hs _ (q7d c s.size s (Nat.le_refl _)) ⟨fun e=>hnd.1.1 e.symm,hnd.2.1⟩
  have hS:(fun k=>k∈[bp,bs,bv])=(fun k=>k=bs\/k=bp\/k=bv):=by
   funext k
   simp only[List.mem_cons,List.not_mem_nil,or_false,eq_iff_iff]
   constructor<;>rintro(h|h|h)<;>simp[h]
  refine⟨_,by rw[hS];exact h,fun W hW=>?_⟩
  obtain⟨t1,h1⟩:=hW 0 bp _ rfl rfl
  obtain⟨t2,h2⟩:=hW 1 bs _ rfl rfl
  obtain⟨t3,h3⟩:=hW 2 bv _ rfl rfl
  exact⟨(O5 h2).1,(O5 h1).1,(O5 h3).1,(O5 h2).2⟩
def Ox (l:List ByteArray):Option (List Int):=En (l.map fun s=>s.data.toList)
def Xd (pre:List ByteArray):St:=⟨[(2,.lp 2 0 0),(3,.lp 3 0 0)],[(2,.bx [.ls 900 0 pre.length none]),(3,.bx [.t (tB false)]),(900,.sl 3 1 (Bc ((Ox pre).getD [])))]⟩
def q6m:St:=⟨[(2,.lp 2 0 0),(3,.lp 3 0 0)],[(2,.bx [.t (.sl [] (some 0) (some true))]),(3,.bx [.t (tB false)])]⟩
theorem qB4 (pre:List ByteArray) (x:ByteArray):Ox (pre++[x])=(Ox pre).bind fun l=>(Vu x.data.toList).map fun v=>l++[v]:=by
 unfold Ox
 rw[List.map_append,List.map_cons,List.map_nil,qAz]
theorem Xe:∀ {ws:List (List UInt8)} {l:List Int},En ws=some l->l.length=ws.length
 | [],l,h=>by simp only[En,Option.some.injEq]at h;subst h;rfl
 | w::ws,l,h=>by
  simp only[En]at h
  split at h
  ·simp only[Option.map_eq_some_iff]at h
   obtain⟨l',hl,rfl⟩:=h
   simp[Xe hl]
  ·cases h
theorem q0i (c:UInt8):∀ (l:List UInt8),∀ w∈Ap c l,w.length<=l.length
 | [],w,h=>by simp[Ap]at h;subst h;simp
 | b::l,w,h=>by
  have ih:=q0i c l
  unfold Ap at h
  split at h
  ·rcases List.mem_cons.1 h with rfl|h
   ·simp
   ·have:=ih w h;simp;omega
  ·split at h
   ·simp at h;subst h;simp
   ·rename_i x xs hx
    rw[hx]at ih
    rcases List.mem_cons.1 h with rfl|h
    ·have:=ih x (List.mem_cons_self ..);simp;omega
    ·have:=ih w (List.mem_cons_of_mem _ h);simp;omega
theorem N8 (c:UInt8):∀ (l:List UInt8),(Ap c l).length<=l.length+1
 | []=>by simp[Ap]
 | b::l=>by
  have ih:=N8 c l
  unfold Ap
  split
  ·simp;omega
  ·split
   ·simp
   ·rename_i x xs hx;rw[hx]at ih;simp at ih ⊢;omega
theorem q1Y.gh (gs:List Gh) (s s':St) (h:ghs gs s=s') (hb:∀ id,1000000<=id->A2 s'.hp id≠none->A2 s.hp id≠none):q1Y Γ s s':=by subst h;exact⟨Imp.ghs gs s,hb⟩
theorem qEr (hP:Ij Γ) (hE:Qv Γ) (pre:List ByteArray) (x:ByteArray) (hx:x.size<=1000000000) (hn:pre.length<=1000000000) (l:List Int) (hl:Ox pre=some l) (hll:l.length=pre.length) (L:AX->Prop) (hL:Ox (pre++[x])=none->L .ret) :
  W6 Tryz.prog Γ G9 (q3G Γ [2,3,900] 0 (Xd pre) (Xd (pre++[x])) (Ox (pre++[x])≠none) (fun _=>q6m) L) ⟨[(2,.lp 1000000 0 0),(3,.lp 1000001 0 0),(4,.t (.v (.string x)))],Ba [2,3,900] (Xd pre).hp⟩:=by
 have hs:=qB4 pre x
 rw[hl]at hs
 simp only[Option.bind_some]at hs
 have i0:List.idxOf 2 [2,3,900]=0:=rfl
 have i1:List.idxOf 3 [2,3,900]=1:=rfl
 have i2:List.idxOf 900 [2,3,900]=2:=rfl
 have hlen:(Bc l).length=pre.length:=by rw[A3,hll]
 have bad:Vu x.data.toList=none->∀ env,q3G Γ [2,3,900] 0 (Xd pre) (Xd (pre++[x])) (Ox (pre++[x])≠none) (fun _=>q6m) L .ret ⟨env,[(1000000,.bx [.t (.sl [] (some 0) (some true))]),(1000001,.bx [.t (tB false)]),(1000002,.sl 3 1 (Bc l))]⟩:=by
  intro hw env
  rw[hw]at hs
  refine⟨hL hs,?_,?_⟩
  ·simp[Qf,Xd,hl,A2,Aj.sh,hlen]
  ·simp[Xd,q6m,i0,i1,i2]
   refine q1Y.gh [.drop [900]] _ _ (by simp) fun id h1 h2=>absurd ?_ h2
   simp only[A2];rw[if_neg (by omega),if_neg (by omega)]
 have good:∀ v,Vu x.data.toList=some v->∀ env,q3G Γ [2,3,900] 0 (Xd pre) (Xd (pre++[x])) (Ox (pre++[x])≠none) (fun _=>q6m) L .normal ⟨env,[(26,.sl 3 1 (Bc (l++[v]))),(1000000,.bx [.ls 26 0 (pre.length+1) none]),(1000001,.bx [.t (tB false)])]⟩:=by
  intro v hw env
  rw[hw]at hs
  refine⟨by rw[hs];simp,?_,?_⟩
  ·simp[Qf,Xd,hl,A2,Aj.sh]
  ·simp[Xd,hl,hs,i0,i1,i2]
   refine q1Y.gh [.ren 26 900,.keep [2,3] [2,3,900]] _ _ (by simp[Fp,Nl,Ed]) fun id h1 h2=>absurd ?_ h2
   simp only[A2];rw[if_neg (by omega),if_neg (by omega),if_neg (by omega)]
 refine Em ?_
 generalize q3G Γ [2,3,900] 0 (Xd pre) (Xd (pre++[x])) (Ox (pre++[x])≠none) (fun _=>q6m) L=QQ at *
 simp[G9,Xd,hl,i0,i1,i2]
 cases hA:Lib.atoiAll x.data.toList with
 | ok v =>
  have hv:Vv v:=by obtain⟨h1,h2⟩:=Lib.atoiAll_bounds hA;unfold Vv;omega
  refine A4 (qGM x hx v hA) rfl ?_
  simp
  refine A4 (q2d hP v hv) rfl ?_
  simp
  have hq:((Bf v).toList=x.toList)↔Bf v=⟨x.data.toList.toArray⟩:=by
   rw[Ec,Ec]
   constructor
   ·intro h;rw[<- h]
   ·intro h;rw[h]
  constructor
  ·intro hne
   have hw:Vu x.data.toList=none:=by
    unfold Vu;rw[hA]
    simp only
    rw[if_neg (fun e=>hne (hq.2 e))]
   simp[Dy]
   exact bad hw _
  ·intro he
   have hw:Vu x.data.toList=some v:=by
    unfold Vu;rw[hA]
    simp only
    rw[if_pos (hq.1 he)]
   simp(disch:=omega) [Dy,hlen,Aa,Eu]
   refine⟨by first|omega|exact⟨fun e he=>by simp at he;subst he;rfl,by omega⟩,?_⟩
   rw[<- hlen,List.take_length,Eu,hlen]
   exact good v hw _
 | _ =>
  obtain⟨n,hA2⟩:=qEn hE x hx (fun v=>by rw[hA];simp)
  have hw:Vu x.data.toList=none:=by unfold Vu;rw[hA]
  refine A4 hA2 rfl ?_
  simp
  exact bad hw _
theorem q9e (hP:Ij Γ) (hE:Qv Γ) (s:ByteArray) (hs:s.size<=999999999) (F:AX->St->Prop)
  (hF:∀ ns,En (Ap 32 s.data.toList)=some ns->F .normal (Xd ((Ap 32 s.data.toList).map fun l=>⟨l.toArray⟩))) (hX:En (Ap 32 s.data.toList)=none->F .ret q6m) :
  RFc Tryz.prog Γ (tm 8) 9 4 G9 [] F ⟨[(2,.lp 2 0 0),(3,.lp 3 0 0),(8,.fn 79 [.lp 15004 0 0,.lp 15003 0 0,.lp 15005 0 0])],[(900,.sl 3 1 []),(15003,.bx [.t (.v (.string s))]),(15004,.bx [.t (.v (.string ⟨#[32]⟩))]),(15005,.bx [.t (tI 0)]),(3,.bx [.t (tB false)]),(2,.bx [.ls 900 0 0 none])]⟩:=by
 have hmap:∀ xs:List (List UInt8),(xs.map fun l=>(⟨l.toArray⟩:ByteArray)).map (fun s=>s.data.toList)=xs:=by
  intro xs;rw[List.map_map];conv=>rhs;rw[<- List.map_id xs]
  rfl
 refine⟨ByteArray,79,[15004,15003,15005],_,_,_,Xd,fun pre=>Ox pre≠none,fun _ _=>q6m,fun pre e=>e=.ret/\Ox pre=none/\pre <+: (Ap 32 s.data.toList).map fun l=>⟨l.toArray⟩,rfl,by decide,by decide,by decide,rfl,?_,qB3 32 s (by omega),enters_of Tryz.func79 (by kernel_rfl) rfl,fun id h=>by simp at h,?_,by simp[Ox,En],?_,?_,?_⟩
 ·intro j i v hi hv
  match j,hi,hv with
  | 0,hi,hv=>simp at hi hv;subst hi;subst hv;exact⟨_,rfl,rfl⟩
  | 1,hi,hv=>simp at hi hv;subst hi;subst hv;exact⟨_,rfl,rfl⟩
  | 2,hi,hv=>simp at hi hv;subst hi;subst hv;exact⟨_,rfl,rfl⟩
  | j+3,hi,hv=>simp at hi
 ·refine(q1Y.gh [.keep [2,3] [2,3,900]] _ _ ?_ fun id h1 h2=>absurd ?_ h2)
  ·simp[Ej,Xd,Ox,En,Ak]
  ·simp only[Xd,A2];rw[if_neg (by omega),if_neg (by omega),if_neg (by omega)]
 ·intro pre x hpx hG
  obtain⟨l,hl⟩:∃ l,Ox pre=some l:=Option.ne_none_iff_exists'.1 hG
  have hll:l.length=pre.length:=by have:=Xe hl;simpa using this
  have hx:x∈(Ap 32 s.data.toList).map fun l=>(⟨l.toArray⟩:ByteArray):=hpx.subset (by simp)
  obtain⟨w,hw,rfl⟩:=List.mem_map.1 hx
  have hwl:=q0i 32 s.data.toList w hw
  have hsl:s.data.toList.length=s.size:=rfl
  have hpl:=hpx.length_le
  have hm:=N8 32 s.data.toList
  simp only[List.length_append,List.length_cons,List.length_nil,List.length_map]at hpl
  refine⟨[2,3,900],0,_,by decide,?_,qEr hP hE pre ⟨w.toArray⟩ (by simp[ByteArray.size];omega) (by omega) l hl hll _ fun hn=>⟨rfl,hn,hpx⟩⟩
  intro u a ha
  simp only[A2]at ha
  split at ha
  ·rename_i e;subst e;cases ha;exact .inr ⟨by decide,by decide,.lp 2 0 0,rfl,rfl⟩
  ·split at ha
   ·rename_i e;subst e;cases ha;exact .inr ⟨by decide,by decide,.lp 3 0 0,rfl,rfl⟩
   ·split at ha
    ·rename_i e;subst e;cases ha;exact .inl ⟨.inl rfl,rfl⟩
    ·cases ha
 ·intro hG
  obtain⟨ns,hns⟩:=Option.ne_none_iff_exists'.1 hG
  unfold Ox at hns
  rw[hmap]at hns
  exact⟨fun id h=>by simp at h,hF ns hns⟩
 ·rintro pre e ⟨rfl,hn,t,ht⟩
  refine⟨fun id h=>by simp at h,hX ?_⟩
  unfold Ox at hn
  have:=q64 (xs:=t.map fun s=>s.data.toList) hn
  rw[<- List.map_append,ht,hmap]at this
  exact this
theorem q1u (hP:Ij Γ) (hE:Qv Γ) (s:ByteArray) (hs:s.size<=999999999) (ns:List Int) (h:En (Ap 32 s.data.toList)=some ns):An Tryz.prog Γ 19 [.v (.string s)] (.tup [.sl (Bc ns) none none,tB true]):=by
 refine Bl.pure (hp':=[(2,.bx [.t (.sl (Bc ns) none none)]),(3,.bx [.t (tB true)])]) (q9D (ids:=[]) Xc rfl (fun id h=>by simp[A2]at h) (fun id h1 h2=>absurd (by simp only[A2];rw[if_neg (by omega),if_neg (by omega)]) h2) ?_)
 have hsq:=q67 (Γ:=Γ) s ⟨#[32]⟩
 simp[Qj,q6U,qDs]
 refine⟨_,_,hsq,?_⟩
 simp[q6U,qDs]
 refine q9e hP hE s hs _ (fun ns' hns=>?_) (fun hn=>by rw[h]at hn;cases hn)
 rw[h]at hns;cases hns
 have hl:=Xe h
 have hn:Xd ((Ap 32 s.data.toList).map fun l=>⟨l.toArray⟩)=⟨[(2,.lp 2 0 0),(3,.lp 3 0 0)],[(2,.bx [.ls 900 0 ns.length none]),(3,.bx [.t (tB false)]),(900,.sl 3 1 (Bc ns))]⟩:=by
  have hm:((Ap 32 s.data.toList).map fun l=>(⟨l.toArray⟩:ByteArray)).map (fun s=>s.data.toList)=Ap 32 s.data.toList:=by
   rw[List.map_map];conv=>rhs;rw[<- List.map_id (Ap 32 s.data.toList)]
   rfl
  unfold Xd Ox
  rw[hm,h,List.length_map,hl]
  try rfl
 rw[hn]
 have h0:0<ns.length:=by
  rw[hl]
  cases hsp:Ap 32 s.data.toList with
  | nil=>have:=Yb 32 s.data.toList;rw[hsp]at this;simp at this
  | cons x xs=>simp
 have hen:(Bc ns).length=ns.length:=A3
 have hne:ns.length≠0:=by omega
 simp[q47,Qk,St.freeze,Aj.closed,Ce,frz1,frz0,Hl,del,Aq,hen,hne]
 done
theorem q4K (hP:Ij Γ) (hE:Qv Γ) (s:ByteArray) (hs:s.size<=999999999) (h:En (Ap 32 s.data.toList)=none):An Tryz.prog Γ 19 [.v (.string s)] (.tup [.sl [] (some 0) (some true),tB false]):=by
 refine Bl.pure (hp':=q6m.hp) (q9D (ids:=[]) Xc rfl (fun id h=>by simp[A2]at h) (fun id h1 h2=>absurd (by simp only[q6m,A2];rw[if_neg (by omega),if_neg (by omega)]) h2) ?_)
 have hsq:=q67 (Γ:=Γ) s ⟨#[32]⟩
 simp[Qj,q6U,qDs]
 refine⟨_,_,hsq,?_⟩
 simp[q6U,qDs]
 refine q9e hP hE s hs _ (fun ns' hns=>by rw[h]at hns;cases hns) (fun _=>?_)
 simp[q47,q6m,Qk]
def Kx (w:List UInt8):T:=.v (.string ⟨w.toArray⟩)
def gsL (ps:List (List UInt8)) (i:Nat):List (List UInt8):=ps.take i++List.replicate (ps.length-i) []
theorem qC5 (ps:List (List UInt8)) (i:Nat) (h:i<=ps.length):(gsL ps i).length=ps.length:=by
 unfold gsL;rw[List.length_append,List.length_take,List.length_replicate];omega
theorem qC6 (ps:List (List UInt8)) (i:Nat) (h:i<ps.length):(Ak Kx (gsL ps i)).set i [Kx ps[i]]=Ak Kx (gsL ps (i+1)):=by
 rw[S5]
 congr 1
 unfold gsL
 have e:ps.length-i=(ps.length-(i+1))+1:=by omega
 rw[List.set_append_right _ _ (by simp;omega),e,List.replicate_succ,List.length_take,Nat.min_eq_left (by omega),Nat.sub_self,List.set_cons_zero,List.take_succ_eq_append_getElem h,List.append_assoc]
 rfl
theorem qGN (ps:List (List UInt8)):gsL ps ps.length=ps:=by unfold gsL;simp
theorem qGO (c:UInt8) {l:List UInt8} {p:List UInt8} {q:List (List UInt8)} (h:Ap c l=p::q) (hq:q≠[]):∃ i:Nat,Lib.indexByte l c=i/\i<l.length/\p=l.take i/\Ap c (l.drop (i+1))=q:=by
 rcases q1t c l with⟨h1,h2⟩|⟨i,h1,h2,h3⟩
 ·rw[h2]at h;cases h;exact absurd rfl hq
 ·rw[h3]at h;cases h;exact⟨i,h1,h2,rfl,rfl⟩
theorem qHE {Q:AX->St->Prop} (c:UInt8) (ps:List (List UInt8)) (hps:ps.length<=1000000000) (h0:∀ s:ByteArray,s.data.toList=ps.getLastD []->Q (.exit 0) ⟨[(0,.t (.v (.string s))),(1,.t (.v (.string ⟨#[c]⟩))),(2,.t (tI 0)),(3,.t (tI ((ps.length:Int)-1))),(9,.ls 31 0 ps.length none),(10,.t (tI ((ps.length:Int)-1))),(36,.t (tB false))],[(31,.sl 9 1 (Ak Kx (gsL ps (ps.length-1))))]⟩) :
  ∀ (k i:Nat) (s:ByteArray),k+i+1=ps.length->s.size<=1000000000->Ap c s.data.toList=ps.drop i ->
  run Tryz.prog Γ Gq Q ⟨[(0,.t (.v (.string s))),(1,.t (.v (.string ⟨#[c]⟩))),(2,.t (tI 0)),(3,.t (tI ((ps.length:Int)-1))),(9,.ls 31 0 ps.length none),(10,.t (tI i))],[(31,.sl 9 1 (Ak Kx (gsL ps i)))]⟩
 | 0,i,s,hk,hs,hsp=>by
  refine N7 fun K hK=>?_
  have hi:i=ps.length-1:=by omega
  have hc:¬ (i:Int)<(ps.length:Int)-1:=by omega
  have he:(i:Int)=(ps.length:Int)-1:=by omega
  have hlast:s.data.toList=ps.getLastD []:=by
   have h1:ps.drop i=[ps.getLastD []]:=by
    have hil:i<ps.length:=by omega
    rw[List.drop_eq_getElem_cons hil,List.drop_of_length_le (by omega)]
    congr 1
    rw[List.getLastD_eq_getLast?,List.getLast?_eq_getElem?,<- hi,List.getElem?_eq_getElem hil];rfl
   rw[h1]at hsp
   have:=Qd c s.data.toList
   rw[hsp]at this
   exact this.symm
  have hh:=h0 s hlast
  rw[<- hi]at hh
  simp[he]
  exact hh
 | k+1,i,s,hk,hs,hsp=>by
  refine N7 fun K hK=>?_
  have hi:i<ps.length:=by omega
  rw[List.drop_eq_getElem_cons hi]at hsp
  obtain⟨m,hm,hml,hp,hr⟩:=qGO c hsp (by intro e;have:=congrArg List.length e;simp at this;omega)
  have hidx:=q4J (Γ:=Γ) s c
  rw[hm]at hidx
  have ih:=fun s h1 h2=>qHE c ps hps h0 k (i+1) s (by omega) h1 h2
  have hset:=qC6 ps i hi
  have hlen:(Ak Kx (gsL ps i)).length=ps.length:=by rw[A3,qC5 ps i (by omega)]
  have hsl:s.data.toList.length=s.size:=rfl
  have hc:(i:Int)<(ps.length:Int)-1:=by omega
  have w1:IntKind.i64.wrap ((m:Int)+1)=((m+1:Nat):Int):=by rw[A5]<;>omega
  have w2:IntKind.i64.wrap ((i:Int)+1)=((i+1:Nat):Int):=by rw[A5]<;>omega
  simp[hc]
  refine A4 hidx rfl ?_
  have hm0:¬ (m:Int)<0:=by omega
  have w0:IntKind.i64.wrap (m:Int)=m:=by rw[A5]<;>omega
  have hb:(⟨#[c]⟩:ByteArray).size=1:=rfl
  have hmn:(m:Int).toNat=m:=rfl
  simp(disch:=omega) [hm0,hlen,hml,w0,w1,w2,hb]
  refine⟨by omega,hi,⟨by omega,by omega⟩,?_⟩
  have e1:(s.extract 0 m)=⟨(ps[i]).toArray⟩:=by
   rw[hp]
   obtain⟨⟨l⟩⟩:=s
   simp[ByteArray.ext_iff]
  have e2:(s.extract (m+1) s.size).data.toList=s.data.toList.drop (m+1):=by
   obtain⟨⟨l⟩⟩:=s
   simp[ByteArray.size]
   exact List.take_of_length_le (by rw[List.length_drop];omega)
  have e3:T.v (Value.string (s.extract 0 m))=Kx ps[i]:=by rw[e1];rfl
  rw[e3,hset,hK]
  have:=ih (s.extract (m+1) s.size) (by rw[ByteArray.size_extract];omega) (by rw[e2];exact hr)
  simpa using this
theorem q6n (s:ByteArray) (hs:s.size<=1000000) (c:UInt8):A6 Tryz.prog Γ 33 [.v (.string s),.v (.string ⟨#[c]⟩),tI 0,tI (-1)] (.sl (Ak Kx (Ap c s.data.toList)) none none):=by
 refine Af q0M rfl ?_
 have hcnt:=q9c (Γ:=Γ) s c
 have hl:=Yb c s.data.toList
 have hm:=N8 c s.data.toList
 have hsl:s.data.toList.length=s.size:=rfl
 have hb:(⟨#[c]⟩:ByteArray).size=1:=rfl
 have hbl:(⟨#[c]⟩:ByteArray).toList=[c]:=by rw[Ec]
 generalize hps:Ap c s.data.toList=ps at *
 have hcn:((Lib.countByte s.data.toList c:Nat):Int)=(ps.length:Int)-1:=by omega
 rw[hcn]at hcnt
 have hp0:0<ps.length:=by omega
 have hbn:(⟨#[]⟩:ByteArray).toList=[]:=by rw[Ec]
 simp[R2,hb,hbl,hbn,sV]
 refine A4 hcnt rfl ?_
 have w1:IntKind.i64.wrap ((ps.length:Int)-1+1)=(ps.length:Int):=by rw[A5]<;>omega
 have w1':IntKind.i64.wrap (ps.length:Int)=(ps.length:Int):=by rw[A5]<;>omega
 have w2:IntKind.i64.wrap ((s.size:Int)+1)=(s.size:Int)+1:=by rw[A5]<;>omega
 have w3:IntKind.i64.wrap ((ps.length:Int)-1)=(ps.length:Int)-1:=by rw[A5]<;>omega
 have hmin:min (ps.length:Int) ((s.size:Int)+1)=ps.length:=by omega
 have hlt:¬ (s.size:Int)+1<(ps.length:Int):=by omega
 simp[w1,w1',w2,w3,hlt]
 refine⟨by omega,?_⟩
 have hL:=qHE (Γ:=Γ) (Q:=F2 0 (B1 (run Tryz.prog Γ ((IC.reg [om 58 9,om 59 10,om 60 0,od 61 (ia 1 58 59),on (B6.store 1 (tm 61) (tm 60))] [kp [9,10] [31]]).seq ((IC.reg [om 62 9,om 63 10,od 64 (B6.bin BinOp.add (tm 63) (ki 1)),od 65 (B6.slice 1 (tm 62) none (some (tm 64)) none),om 8 65] [kp [8] [31]]).seq IC.ret)) (ret true Gs fun r=>r=T.sl (Ak Kx ps) none none)) (ret true Gs fun r=>r=T.sl (Ak Kx ps) none none))) c ps (by omega) ?_ (ps.length-1) 0 s (by omega) (by omega) (by rw[hps];rfl)
 ·have hz:Ak Kx (gsL ps 0)=List.replicate ps.length [T.v (Value.string ⟨#[]⟩)]:=by
   simp[gsL,Ak,Kx]
  rw[hz]at hL
  exact hL
 ·intro s' hs'
  have hlast:ps.getLastD []=ps[ps.length-1]:=by
   rw[List.getLastD_eq_getLast?,List.getLast?_eq_getElem?,List.getElem?_eq_getElem (by omega)];rfl
  have hset:=qC6 ps (ps.length-1) (by omega)
  have e1:ps.length-1+1=ps.length:=by omega
  rw[e1,qGN]at hset
  have hv:T.v (Value.string s')=Kx ps[ps.length-1]:=by
   rw[<- hlast,<- hs'];simp[Kx]
  have hlen:(Ak Kx (gsL ps (ps.length-1))).length=ps.length:=by rw[A3,qC5 ps _ (by omega)]
  have hlen2:(Ak Kx ps).length=ps.length:=A3
  have hn:((ps.length:Int)-1).toNat=ps.length-1:=by omega
  rw[<- hv]at hset
  have c1:(1:Int)<=ps.length:=by omega
  have c2:ps.length-1<ps.length:=by omega
  have c3:(ps.length:Int)-1<ps.length:=by omega
  simp(disch:=omega) [hlen,hn,w1,w1',Dy,hset,Aa,hlen2,Gs,c1,c2,c3]
  exact Ri fun _=>rfl
theorem q68 (s:ByteArray) (hs:s.size<=1000000) (c:UInt8):An Tryz.prog Γ 17 [.v (.string s),.v (.string ⟨#[c]⟩)] (.sl (Ak Kx (Ap c s.data.toList)) none none):=by
 refine E7 q2q rfl ?_
 have h:=q6n (Γ:=Γ) s hs c
 simp[Wz]
 refine A4 h rfl ?_
 simp[X4]
def Yc (p l:List UInt8):List UInt8×Bool:=if l.take p.length=p then(l.drop p.length,true) else(l,false)
theorem qC7 (s:ByteArray) (n:Nat):(s.extract 0 n).data.toList=s.data.toList.take n:=by
 obtain⟨⟨l⟩⟩:=s
 simp
theorem qGP (s:ByteArray) (n:Nat):(s.extract n s.size).data.toList=s.data.toList.drop n:=by
 obtain⟨⟨l⟩⟩:=s
 simp[ByteArray.size]
 exact List.take_of_length_le (by rw[List.length_drop];omega)
theorem qJ9 (s:ByteArray) (l:List UInt8) (h:s.data.toList=l):s=⟨l.toArray⟩:=by
 subst h
 obtain⟨⟨l⟩⟩:=s
 rfl
theorem q69 (s p:ByteArray) (hs:s.size<=2000000) (hp:p.size<=1000):A6 Tryz.prog Γ 58 [.v (.string s),.v (.string p)] (tB (decide (s.data.toList.take p.data.toList.length=p.data.toList))):=by
 refine Af Ro rfl ?_
 have hsl:s.data.toList.length=s.size:=rfl
 have hpl:p.data.toList.length=p.size:=rfl
 by_cases h:p.size<=s.size
 ·have hx:(s.extract 0 p.size).toList=s.data.toList.take p.size:=by
   rw[Ec,qC7]
  have hy:p.toList=p.data.toList:=Ec p
  have hd:(s.data.toList.take p.size==p.data.toList)=decide (s.data.toList.take p.size=p.data.toList):=by
   by_cases e:s.data.toList.take p.size=p.data.toList<;>simp[e]
  simp[Fg,h,hx,hy,hd,hpl,Fh]
 ·have hne:¬ s.data.toList.take p.size=p.data.toList:=fun e=>by
   have:=congrArg List.length e
   rw[List.length_take,hsl,hpl]at this;omega
  simp[Fg,h,hne,hpl,Fh]
theorem q0N (s p:ByteArray) (hs:s.size<=2000000) (hp:p.size<=1000):An Tryz.prog Γ 18 [.v (.string s),.v (.string p)] (.tup [Kx (Yc p.data.toList s.data.toList).1,tB (Yc p.data.toList s.data.toList).2]):=by
 have hpl:p.data.toList.length=p.size:=rfl
 have hsl:s.data.toList.length=s.size:=rfl
 have h1:An Tryz.prog Γ 34 [.v (.string s),.v (.string p)] (.tup [Kx (Yc p.data.toList s.data.toList).1,tB (Yc p.data.toList s.data.toList).2]):=by
  refine E7 Rn rfl ?_
  have hh:=q69 (Γ:=Γ) s p hs hp
  rw[hpl]at hh
  simp[K0]
  refine A4 hh rfl ?_
  by_cases h:s.data.toList.take p.size=p.data.toList
  ·have hle:p.size<=s.size:=by have:=congrArg List.length h;rw[List.length_take,hsl,hpl]at this;omega
   have hx:(s.extract p.size s.size)=⟨(s.data.toList.drop p.size).toArray⟩:=qJ9 _ _ (qGP s _)
   simp[h,hle,hx,Yc,Kx,hpl,Ff]
  ·simp[h,Yc,Kx,hpl,Ff]
 refine E7 Z4 rfl ?_
 simp[Q9]
 refine As h1 rfl ?_
 simp[Qa]
end Go.Lg
namespace Go.Lg
open Go
theorem q7e (c:UInt8):∀ (l:List UInt8) (acc:Nat),Lib.parseUint10 acc (l++[c])=match Lib.parseUint10 acc l with
  | .ok a=>Lib.parseUint10 a [c]
  | e=>e
 | [],acc=>by simp[Lib.parseUint10]
 | d::l,acc=>by
  simp only[List.cons_append,Lib.parseUint10]
  split
  ·split
   ·rfl
   ·split
    ·rfl
    ·exact q7e c l _
  ·rfl
theorem qGQ (u:Nat) (h:u<10):(UInt8.ofNat (48+u)).toNat=48+u:=by
 rw[UInt8.toNat_ofNat'];omega
theorem q1v:∀ (u:Nat),∀ b∈Lib.decDigits u,48<=b.toNat/\b.toNat<=57:=by
 intro u
 induction u using Nat.strongRecOn with
 | _ u ih =>
  intro b hb
  rw[Lib.decDigits]at hb
  split at hb
  ·rw[List.mem_singleton]at hb;subst hb;rw[qGQ u (by omega)];omega
  ·rw[List.mem_append]at hb
   rcases hb with hb|hb
   ·exact ih (u / 10) (by omega) b hb
   ·simp only[List.mem_singleton]at hb;subst hb;rw[qGQ (u % 10) (by omega)];omega
theorem q8D (u:Nat):Lib.decDigits u≠[]:=by
 rw[Lib.decDigits];split<;>simp
theorem q9f:∀ (u:Nat),u<18446744073709551616->Lib.parseUint10 0 (Lib.decDigits u)=.ok u:=by
 intro u
 induction u using Nat.strongRecOn with
 | _ u ih =>
  intro hu
  rw[Lib.decDigits]
  split
  ·rename_i h
   simp only[Lib.parseUint10,qGQ u h]
   rw[if_pos (by omega),if_neg (by omega),if_neg (by omega)]
   congr 1;omega
  ·rename_i h
   rw[q7e,ih (u / 10) (by omega) (by omega)]
   simp only[Lib.parseUint10,qGQ (u % 10) (by omega)]
   rw[if_pos (by omega),if_neg (by omega),if_neg (by omega)]
   congr 1;omega
theorem qD1 (n:Int) (hn:Vv n):Lib.atoiAll (Lib.itoa n)=.ok n:=by
 unfold Vv at hn
 unfold Lib.itoa
 split
 ·rename_i h
  have h1:=q9f n.natAbs (by omega)
  have h2:=q8D n.natAbs
  have e:(45:UInt8).toNat=45:=rfl
  have hm:Lib.parseMag (Lib.decDigits n.natAbs)=.ok n.natAbs:=by unfold Lib.parseMag;rw[if_neg h2,h1]
  simp only[Lib.atoiAll,e,or_true,if_true,hm,not_true_eq_false,false_and,if_false,true_and]
  rw[if_neg (by omega)]
  congr 1;omega
 ·rename_i h
  have h1:=q9f n.toNat (by omega)
  have h2:=q8D n.toNat
  have h3:=q1v n.toNat
  generalize Lib.decDigits n.toNat=l at *
  match l,h2 with
  | c::r,_ =>
   have hc:=h3 c (List.mem_cons_self ..)
   have e:¬ c.toNat=45:=by omega
   have e2:¬ c.toNat=43:=by omega
   have hm:Lib.parseMag (c::r)=.ok n.toNat:=by unfold Lib.parseMag;rw[if_neg (by simp),h1]
   simp only[Lib.atoiAll,e,e2,or_false,if_false,hm,not_false_eq_true,true_and,false_and]
   rw[if_neg (by omega)]
   congr 1;omega
theorem qB5 (n:Int):∀ b∈Lib.itoa n,b.toNat=45\/(48<=b.toNat/\b.toNat<=57):=by
 intro b hb
 unfold Lib.itoa at hb
 split at hb
 ·rcases List.mem_cons.1 hb with rfl|hb
  ·exact .inl rfl
  ·exact .inr (q1v _ b hb)
 ·exact .inr (q1v _ b hb)
theorem qGR (n:Int):Lib.itoa n≠[]:=by
 unfold Lib.itoa;split
 ·simp
 ·exact q8D _
theorem Yd (n:Int):(Bf n).data.toList=Lib.itoa n:=by simp[Bf]
theorem qD2 (n:Int) (hn:Vv n):Vu (Lib.itoa n)=some n:=by
 unfold Vu;rw[qD1 n hn];simp[Bf]
theorem qD3 {w:List UInt8} {n:Int} (h:Vu w=some n):w=Lib.itoa n:=by
 unfold Vu at h
 split at h
 ·split at h
  ·rename_i e
   simp only[Option.some.injEq]at h;subst h
   have:=congrArg (fun b=>b.data.toList) e
   simpa[Bf]using this.symm
  ·cases h
 ·cases h
theorem q1w:∀ (l:List Int),(∀ n∈l,Vv n)->En (l.map Lib.itoa)=some l
 | [],_=>rfl
 | n::l,h=>by
  simp only[List.map_cons,En,qD2 n (h n (List.mem_cons_self ..)),q1w l fun m hm=>h m (List.mem_cons_of_mem _ hm)]
  rfl
theorem Tt:∀ {ws:List (List UInt8)} {l:List Int},En ws=some l->ws=l.map Lib.itoa/\∀ n∈l,Vv n
 | [],l,h=>by simp only[En,Option.some.injEq]at h;subst h;exact⟨rfl,fun n h=>by cases h⟩
 | w::ws,l,h=>by
  simp only[En]at h
  split at h
  ·rename_i v hv
   simp only[Option.map_eq_some_iff]at h
   obtain⟨l',hl,rfl⟩:=h
   obtain⟨h1,h2⟩:=Tt hl
   refine⟨by rw[List.map_cons,<- qD3 hv,<- h1],fun n hn=>?_⟩
   rcases List.mem_cons.1 hn with rfl|hn
   ·exact qEo hv
   ·exact h2 n hn
  ·cases h
end Go.Lg
namespace Go.Lg
open Go Go.Proofs
variable {Γ:Tables}
theorem qJA (v:T) (hv:v.one=true) (cl:List (List T)) (hw:Gk 1 cl) (hl:cl.length<=1000000000) (x:T) (hx:x.one=true) (cap:Option Nat) (nl:Option Bool):Bl Tryz.prog Γ 20 [(1000000,.bx [.t v,.ls 1000001 0 cl.length none]),(1000001,.sl 37 1 cl)] [.lp 1000000 0 0,.t (.sl [[x]] cap nl)] (.t (.tup [])) [(10,.sl 37 1 (cl++[[x]])),(1000000,.bx [.t v,.ls 10 0 (cl.length+1) none])]:=by
 refine N4 q2s rfl ?_
 have hx1:Gk 1 [[x]]:=fun e he=>by simp at he;subst he;rfl
 have ho:Bi [x]=true:=by simpa[Bi]using hx
 simp(disch:=omega) [X7,X8,hw,hx1,ho,hx]
 omega
def clW (w:List UInt8):Option (List Int):=match En (Ap 32 w) with
 | some l=>if(l.getLast?.getD 1)=0 then some l.dropLast else none
 | none=>none
def Uf:List (List UInt8)->Option (List (List Int))
 | []=>some []
 | w::ws=>match clW w with
  | some v=>(Uf ws).map (v::·)
  | none=>none
theorem qD4 (pre:List (List UInt8)) (w:List UInt8):Uf (pre++[w])=(Uf pre).bind fun l=>(clW w).map fun v=>l++[v]:=by
 induction pre with
 | nil=>simp only[List.nil_append,Uf];cases clW w<;>rfl
 | cons x pre ih =>
  simp only[List.cons_append,Uf]
  cases clW x with
  | none=>rfl
  | some v =>
   rw[ih]
   cases Uf pre<;>simp
   cases clW w<;>rfl
theorem q1E {pre xs:List (List UInt8)} (h:Uf pre=none):Uf (pre++xs)=none:=by
 induction pre with
 | nil=>simp[Uf]at h
 | cons x pre ih =>
  simp only[List.cons_append,Uf]at h ⊢
  cases hx:clW x with
  | none=>rfl
  | some v=>rw[hx]at h;simp only[Option.map_eq_none_iff]at h ⊢;exact ih h
theorem q6A:∀ {ws:List (List UInt8)} {l:List (List Int)},Uf ws=some l->l.length=ws.length
 | [],l,h=>by simp only[Uf,Option.some.injEq]at h;subst h;rfl
 | w::ws,l,h=>by
  simp only[Uf]at h
  split at h
  ·simp only[Option.map_eq_some_iff]at h
   obtain⟨l',hl,rfl⟩:=h
   simp[q6A hl]
  ·cases h
def slC (c:List Int):Sl Int:=⟨c,some c.length,none⟩
def prE (mid:List (List UInt8)) (cap:Option Nat) (nl:Option Bool) (i:Int):List (Nat×AV):=[(2,.lp 2 0 0),(9,.lp 9 0 0),(70,.t (.sl (Ak Kx mid) cap nl)),(71,.t (tI mid.length)),(72,.t (tI i))]
def prH (v:Int) (cs:List (List Int)):List (Nat×Aj):=[(900,.sl 37 1 (Ak Bh (cs.map slC))),(9,.bx [.t (tI v),.ls 900 0 cs.length none]),(2,.bx [.t (tI 0),.t (.sl [] (some 0) (some true))])]
theorem q6B {Q:AX->St->Prop} (hP:Ij Γ) (hE:Qv Γ) (mid:List (List UInt8)) (cap:Option Nat) (nl:Option Bool) (v:Int) (hm:mid.length<=1000000000) (hw:∀ w∈mid,w.length<=999999)
  (hok:∀ cs,Uf mid=some cs->Q (.exit 0) ⟨prE mid cap nl mid.length++[(73,.t (tB false))],prH v cs⟩) (hbad:Uf mid=none->∀ cs,Q .ret ⟨[(2,.lp 2 0 0),(3,.t (tI 4))],prH v cs⟩) :
  ∀ (k i:Nat) (cs:List (List Int)),k+i=mid.length->Uf (mid.take i)=some cs->run Tryz.prog Γ Py Q ⟨prE mid cap nl i,prH v cs⟩
 | 0,i,cs,hk,hcs=>by
  refine Vb fun K hK=>?_
  have hi:i=mid.length:=by omega
  subst hi
  rw[List.take_length]at hcs
  have:=hok cs hcs
  simp only[prE,prH]at this ⊢
  simp
  exact this
 | k+1,i,cs,hk,hcs=>by
  refine Vb fun K hK=>?_
  have hi:i<mid.length:=by omega
  have ih:=q6B hP hE mid cap nl v hm hw hok hbad k (i+1)
  have hlen:(Ak Kx mid).length=mid.length:=A3
  have hge:(Ak Kx mid)[i]?.getD []=[T.v (.string ⟨(mid[i]).toArray⟩)]:=by simp[Ak,hi,Kx]
  have hge':∀ h:i<(Ak Kx mid).length,(Ak Kx mid)[i]=[T.v (.string ⟨(mid[i]).toArray⟩)]:=fun h=>by simp[Ak,Kx]
  have hsn:=qD4 (mid.take i) mid[i]
  rw[<- List.take_succ_eq_append_getElem hi,hcs]at hsn
  simp only[Option.bind_some]at hsn
  have hcl:=q6A hcs
  rw[List.length_take,Nat.min_eq_left (by omega)]at hcl
  have hwl:=hw mid[i] (List.getElem_mem hi)
  generalize mid[i]=w at *
  have hc:(i:Int)<mid.length:=by omega
  have w1:IntKind.i64.wrap ((i:Int)+1)=((i+1:Nat):Int):=by rw[A5]<;>omega
  simp only[prE,prH]
  simp[hc,hlen,hge,hge',hi,Aa]
  cases hn:En (Ap 32 w) with
  | none =>
   have hb:=q4K hP hE ⟨w.toArray⟩ (by simp[ByteArray.size];omega) (by simpa using hn)
   refine As hb rfl ?_
   simp
   have hc1:clW w=none:=by unfold clW;rw[hn]
   rw[hc1]at hsn
   have:=q1E (xs:=mid.drop (i+1)) hsn
   rw[List.take_append_drop]at this
   exact hbad this cs
  | some l =>
   have hb:=q1u hP hE ⟨w.toArray⟩ (by simp[ByteArray.size];omega) l (by simpa using hn)
   have hln:=Xe hn
   have hm2:=N8 32 w
   have hne:=Rx 32 w
   have hl0:0<l.length:=by
    rw[hln];exact List.length_pos_iff.2 hne
   have hL:(Bc l).length=l.length:=A3
   have w2:IntKind.i64.wrap ((l.length:Int)-1)=((l.length-1:Nat):Int):=by rw[A5]<;>omega
   have hlast:l[l.length-1]'(by omega)=l.getLast?.getD 1:=by
    rw[List.getLast?_eq_getElem?,List.getElem?_eq_getElem (by omega)];rfl
   have g1:(Bc l)[l.length-1]?.getD []=[tI (l.getLast?.getD 1)]:=by
    rw[<- hlast];simp[Ak,show l.length-1<l.length by omega]
   have g1':∀ h:l.length-1<(Bc l).length,(Bc l)[l.length-1]=[tI (l.getLast?.getD 1)]:=fun h=>by
    rw[<- hlast];simp[Ak]
   have hlt:l.length-1<l.length:=by omega
   have hlt2:((l.length-1:Nat):Int)<(l.length:Int):=by omega
   have hlt0:(0:Int)<=((l.length-1:Nat):Int):=by omega
   have htk:(Bc l).take (l.length-1)=Bc l.dropLast:=by
    rw[q3N,List.dropLast_eq_take]
   have hdl:l.dropLast.length=l.length-1:=by simp
   refine As hb rfl ?_
   simp[hL,w2,hlt,hlt2,hlt0,g1,g1',Aa]
   have hcw:clW w=if(l.getLast?.getD 1)=0 then some l.dropLast else none:=by unfold clW;rw[hn]
   by_cases he:(l.getLast?.getD 1)=0
   ·rw[if_pos he]at hcw
    rw[hcw]at hsn
    have hnx:=ih (cs++[l.dropLast]) (by omega) hsn
    have had:=qJA (Γ:=Γ) (tI v) rfl (Ak Bh (cs.map slC)) Aa (by rw[A3,List.length_map];omega) (Bh (slC l.dropLast)) rfl (some 1) (some false)
    have e1:(Ak Bh (cs.map slC)).length=cs.length:=by rw[A3,List.length_map]
    have e2:Ak Bh (cs.map slC)++[[Bh (slC l.dropLast)]]=Ak Bh ((cs++[l.dropLast]).map slC):=by rw[Eu,List.map_append];rfl
    rw[e1,e2]at had
    simp only[prE,prH]at hnx
    have ht:Bh (slC l.dropLast)=.sl (Bc l.dropLast) (some (l.length-1)) none:=by simp[Bh,slC]
    rw[ht]at had
    have j0:List.idxOf 9 [9,900]=0:=rfl
    have j1:List.idxOf 900 [9,900]=1:=rfl
    simp[he,Dy,hL,w2,hlt,hlt2,hlt0,htk,Aa,j1]
    refine⟨_,_,had,?_⟩
    simp[j0,j1,Fp,Nl,Ed]
    rw[w1,hK]
    simpa using hnx
   ·rw[if_neg he]at hcw
    rw[hcw]at hsn
    have:=q1E (xs:=mid.drop (i+1)) hsn
    rw[List.take_append_drop]at this
    simp[he,Dy]
    exact hbad this cs
def pfx:List UInt8:=[112,32,99,110,102,32]
def Tu (s:List UInt8):Option (Int×List (List Int)) :=
 match Yc pfx ((Ap 10 s).head?.getD []) with
 | (h,true)=>match En (Ap 32 h) with
  | some [v,n]=>if(Ap 10 s).getLast?.getD []=[]/\n=((Ap 10 s).length:Int)-2 then
    match Uf (((Ap 10 s).drop 1).take ((Ap 10 s).length-2)) with
    | some cs=>if Jz ⟨v,⟨cs.map slC,none,none⟩⟩=0 then some (v,cs)else none
    | none=>none
   else none
  | _=>none
 | _=>none
theorem q6C (hP:Ij Γ) (hE:Qv Γ) (s:ByteArray) (hs:s.size<=999999) (v:Int) (cs:List (List Int)) (h:Tu s.data.toList=some (v,cs)):An Tryz.prog Γ 8 [.v (.string s)] (.tup [.agg (He ⟨v,⟨cs.map slC,none,none⟩⟩),tI 0]):=by
 refine E7 Tq rfl ?_
 have hsp:=q68 (Γ:=Γ) s (by omega) 10
 have hsl:s.data.toList.length=s.size:=rfl
 have hm:=N8 10 s.data.toList
 have hle:=q0i 10 s.data.toList
 have hne:=Rx 10 s.data.toList
 unfold Tu at h
 generalize Ap 10 s.data.toList=ls at *
 have hl0:0<ls.length:=List.length_pos_iff.2 hne
 have hg0:ls[0]=ls.head?.getD []:=by cases ls with|nil=>exact absurd rfl hne|cons x xs=>rfl
 split at h
 case h_2=>cases h
 rename_i hd hcut
 split at h
 case h_2=>cases h
 rename_i v n hnum
 split at h
 case isFalse=>cases h
 rename_i hln
 obtain⟨hlast,hn⟩:=hln
 split at h
 case h_2=>cases h
 rename_i cs' hcls
 split at h
 case isFalse=>cases h
 rename_i hce
 simp only[Option.some.injEq,Prod.mk.injEq]at h
 obtain⟨e1,e2⟩:=h
 subst e1;subst e2
 have hcp:=q0N (Γ:=Γ) ⟨(ls.head?.getD []).toArray⟩ ⟨pfx.toArray⟩ (by
  have:=hle ls[0] (List.getElem_mem hl0)
  rw[hg0]at this
  simp[ByteArray.size];simp at this;omega) (by decide)
 have hct:Yc (ByteArray.mk pfx.toArray).data.toList (ByteArray.mk (ls.head?.getD []).toArray).data.toList=(hd,true):=hcut
 rw[hct]at hcp
 have hno:=q1u hP hE ⟨hd.toArray⟩ (by
  have h1:hd.length<=(ls.head?.getD []).length:=by
   unfold Yc at hcut
   split at hcut
   ·simp only[Prod.mk.injEq]at hcut;rw[<- hcut.1];simp
   ·simp at hcut
  have:=hle ls[0] (List.getElem_mem hl0)
  rw[hg0]at this
  simp[ByteArray.size];omega) [v,n] hnum
 have hlen:(Ak Kx ls).length=ls.length:=A3
 have g0:(Ak Kx ls)[0]?.getD []=[T.v (.string ⟨(ls.head?.getD []).toArray⟩)]:=by rw[<- hg0];simp[Ak,hl0,Kx]
 have g0':∀ h:0<(Ak Kx ls).length,(Ak Kx ls)[0]=[T.v (.string ⟨(ls.head?.getD []).toArray⟩)]:=fun h=>by rw[<- hg0];simp[Ak,Kx]
 have hpx:sV [112,32,99,110,102,32]=.string ⟨pfx.toArray⟩:=rfl
 have hsz:¬ 1048576<(s.size:Int):=by omega
 have hl2:2<=ls.length:=by
  rcases Nat.lt_or_ge ls.length 2 with h1|h1
  ·exfalso
   match ls,hl0,h1,hlast,hcut with
   | [x],_,_,hlast,hcut =>
    simp at hlast
    subst hlast
    simp[Yc,pfx]at hcut
  ·exact h1
 have w1:IntKind.i64.wrap ((ls.length:Int)-1)=((ls.length-1:Nat):Int):=by rw[A5]<;>omega
 have w2:IntKind.i64.wrap ((ls.length:Int)-2)=n:=by rw[A5]<;>omega
 have hlt:ls.length-1<ls.length:=by omega
 have hlt1:((ls.length-1:Nat):Int)<(ls.length:Int):=by omega
 have hlt2:(0:Int)<=((ls.length-1:Nat):Int):=by omega
 have hlast':ls[ls.length-1]=[]:=by
  rw[List.getLast?_eq_getElem?,List.getElem?_eq_getElem hlt]at hlast;exact hlast
 have gl:(Ak Kx ls)[ls.length-1]?.getD []=[T.v (.string ⟨#[]⟩)]:=by simp[Ak,hlt,Kx,hlast']
 have gl':∀ h:ls.length-1<(Ak Kx ls).length,(Ak Kx ls)[ls.length-1]=[T.v (.string ⟨#[]⟩)]:=fun h=>by simp[Ak,Kx,hlast']
 have hv2:(Bc [v,n]).length=2:=rfl
 have gv0:(Bc [v,n])[0]?.getD []=[tI v]:=rfl
 have gv1:(Bc [v,n])[1]?.getD []=[tI n]:=rfl
 have gv0':∀ h:0<(Bc [v,n]).length,(Bc [v,n])[0]=[tI v]:=fun h=>rfl
 have gv1':∀ h:1<(Bc [v,n]).length,(Bc [v,n])[1]=[tI n]:=fun h=>rfl
 have hba:(⟨#[]⟩:ByteArray).toList=[]:=by rw[Ec]
 simp[Pz,hsz,sV]
 refine As hsp rfl ?_
 simp[hlen,g0,g0',hl0,Aa]
 refine As hcp rfl ?_
 simp[Kx]
 refine As hno rfl ?_
 simp[hlen,gl,gl',w1,w2,hlt,hlt1,hlt2,hv2,gv0,gv1,gv0',gv1',hba,Aa]
 refine⟨by omega,?_⟩
 have hmid:(Ak Kx ls).tail.take (ls.length-1-1)=Ak Kx ((ls.drop 1).take (ls.length-2)):=by
  rw[<- List.drop_one,q7L,q3N];rfl
 have hml:ls.length-1-1=((ls.drop 1).take (ls.length-2)).length:=by simp;omega
 have hmw:∀ w∈(ls.drop 1).take (ls.length-2),w.length<=999999:=fun w hw=>by
  have:=hle w (List.mem_of_mem_drop (List.mem_of_mem_take hw));omega
 rw[hmid,hml]
 generalize (ls.drop 1).take (ls.length-2)=mid at *
 have hL:=fun Q h1 h2=>q6B (Γ:=Γ) (Q:=Q) hP hE mid none none v (by omega) hmw h1 h2 mid.length 0 [] (by omega) rfl
 refine hL _ ?_ ?_
 ·intro cs hcs
  rw[hcls]at hcs
  simp only[Option.some.injEq]at hcs
  subst hcs
  have hvi:Vv v:=by
   obtain⟨_,h⟩:=Tt hnum
   exact h v (by simp)
  have hck:=Dx (Γ:=Γ) ⟨v,⟨cs'.map slC,none,none⟩⟩ hvi
  rw[hce]at hck
  have hln:(Ak Bh (cs'.map slC)).length=cs'.length:=by rw[A3,List.length_map]
  simp only[He,B5]at hck
  simp[prE,prH]
  have htk:(Ak Bh (cs'.map slC)).take cs'.length=Ak Bh (cs'.map slC):=by rw[<- hln,List.take_length]
  refine A4 hck (by simp[Aq,htk]) ?_
  simp[St.freeze,Aj.closed,Ce,frz1,frz0,Hl,del,Aq,htk,Ci,He,B5]
 ·intro hn2
  rw[hcls]at hn2
  cases hn2
def qEs (w:List UInt8):T:=match En (Ap 32 w) with
 | some l=>.tup [.sl (Bc l) none none,tB true]
 | none=>.tup [.sl [] (some 0) (some true),tB false]
theorem q9g (hP:Ij Γ) (hE:Qv Γ) (w:List UInt8) (hs:w.length<=999999999):An Tryz.prog Γ 19 [Kx w] (qEs w):=by
 unfold qEs
 cases h:En (Ap 32 w) with
 | none=>exact q4K hP hE ⟨w.toArray⟩ (by simp[ByteArray.size];omega) (by simpa using h)
 | some l=>exact q1u hP hE ⟨w.toArray⟩ (by simp[ByteArray.size];omega) l (by simpa using h)
def q6D:T:=.tup [.agg [tI 0,.sl [] (some 0) (some true)],tI 4]
theorem q7f (hP:Ij Γ) (hE:Qv Γ) (s:ByteArray) (hs:s.size<=999999) (h:Tu s.data.toList=none):An Tryz.prog Γ 8 [.v (.string s)] q6D:=by
 refine E7 Tq rfl ?_
 have hsp:=q68 (Γ:=Γ) s (by omega) 10
 have hsl:s.data.toList.length=s.size:=rfl
 have hm:=N8 10 s.data.toList
 have hle:=q0i 10 s.data.toList
 have hne:=Rx 10 s.data.toList
 unfold Tu at h
 generalize Ap 10 s.data.toList=ls at *
 have hl0:0<ls.length:=List.length_pos_iff.2 hne
 have hg0:ls[0]=ls.head?.getD []:=by cases ls with|nil=>exact absurd rfl hne|cons x xs=>rfl
 have hh0:(ls.head?.getD []).length<=999999:=by
  have:=hle ls[0] (List.getElem_mem hl0);rw[hg0]at this;omega
 have hcp:=q0N (Γ:=Γ) ⟨(ls.head?.getD []).toArray⟩ ⟨pfx.toArray⟩ (by simp[ByteArray.size];omega) (by decide)
 have hct:Yc (ByteArray.mk pfx.toArray).data.toList (ByteArray.mk (ls.head?.getD []).toArray).data.toList=Yc pfx (ls.head?.getD []):=rfl
 rw[hct]at hcp
 have hlen:(Ak Kx ls).length=ls.length:=A3
 have g0:(Ak Kx ls)[0]?.getD []=[T.v (.string ⟨(ls.head?.getD []).toArray⟩)]:=by rw[<- hg0];simp[Ak,hl0,Kx]
 have g0':∀ h:0<(Ak Kx ls).length,(Ak Kx ls)[0]=[T.v (.string ⟨(ls.head?.getD []).toArray⟩)]:=fun h=>by rw[<- hg0];simp[Ak,Kx]
 have hpx:sV [112,32,99,110,102,32]=.string ⟨pfx.toArray⟩:=rfl
 have hsz:¬ 1048576<(s.size:Int):=by omega
 obtain⟨hd,ok,hcut⟩:∃ hd ok,Yc pfx (ls.head?.getD [])=(hd,ok):=⟨_,_,rfl⟩
 have hhd:hd.length<=999999:=by
  unfold Yc at hcut
  split at hcut
  ·simp only[Prod.mk.injEq]at hcut;rw[<- hcut.1];simp;omega
  ·simp only[Prod.mk.injEq]at hcut;rw[<- hcut.1];exact hh0
 rw[hcut]at hcp h
 have hno:=q9g hP hE hd (by omega)
 simp only[Kx]at hno
 simp[Pz,hsz,sV]
 refine As hsp rfl ?_
 simp[hlen,g0,g0',hl0,Aa]
 refine As hcp rfl ?_
 simp[Kx]
 cases ok with
 | false =>
  unfold qEs at hno
  split at hno
  ·refine As hno rfl ?_
   simp[q6D,Ci]
  ·refine As hno rfl ?_
   simp[q6D,Ci]
 | true =>
  cases hnum:En (Ap 32 hd) with
  | none =>
   unfold qEs at hno
   rw[hnum]at hno
   refine As hno rfl ?_
   simp[q6D,Ci]
  | some l =>
   unfold qEs at hno
   rw[hnum]at hno
   simp only[]at hno
   simp only[hnum]at h
   by_cases hl:l.length=2
   ·match l,hl with
    | [v,n],_ =>
    have w1:IntKind.i64.wrap ((ls.length:Int)-1)=((ls.length-1:Nat):Int):=by rw[A5]<;>omega
    have w2:IntKind.i64.wrap ((ls.length:Int)-2)=(ls.length:Int)-2:=by rw[A5]<;>omega
    have hlt:ls.length-1<ls.length:=by omega
    have hlt1:((ls.length-1:Nat):Int)<(ls.length:Int):=by omega
    have hlt2:(0:Int)<=((ls.length-1:Nat):Int):=by omega
    have hlast0:ls.getLast?.getD []=ls[ls.length-1]:=by
     rw[List.getLast?_eq_getElem?,List.getElem?_eq_getElem hlt];rfl
    rw[hlast0]at h
    have gl:(Ak Kx ls)[ls.length-1]?.getD []=[T.v (.string ⟨(ls[ls.length-1]).toArray⟩)]:=by simp[Ak,hlt,Kx]
    have gl':∀ h:ls.length-1<(Ak Kx ls).length,(Ak Kx ls)[ls.length-1]=[T.v (.string ⟨(ls[ls.length-1]).toArray⟩)]:=fun h=>by simp[Ak,Kx]
    have hv2:(Bc [v,n]).length=2:=rfl
    have gv0:(Bc [v,n])[0]?.getD []=[tI v]:=rfl
    have gv1:(Bc [v,n])[1]?.getD []=[tI n]:=rfl
    have gv0':∀ h:0<(Bc [v,n]).length,(Bc [v,n])[0]=[tI v]:=fun h=>rfl
    have gv1':∀ h:1<(Bc [v,n]).length,(Bc [v,n])[1]=[tI n]:=fun h=>rfl
    generalize ls[ls.length-1]=last at *
    have hba:(⟨#[]⟩:ByteArray).toList=[]:=by rw[Ec]
    have hbl:(⟨last.toArray⟩:ByteArray).toList=last:=by rw[Ec]
    refine As hno rfl ?_
    by_cases hla:last=[]
    ·subst hla
     have hl2:2<=ls.length:=by
      rcases Nat.lt_or_ge ls.length 2 with h1|h1
      ·exfalso
       match ls,hl0,h1,hlast0,hcut with
       | [x],_,_,hlast,hcut =>
        simp at hlast
        subst hlast
        simp[Yc,pfx]at hcut
      ·exact h1
     by_cases hn:n=(ls.length:Int)-2
     ·have w2':IntKind.i64.wrap ((ls.length:Int)-2)=n:=by rw[hn];exact w2
      simp[hlen,gl,gl',w1,w2',hlt,hlt1,hlt2,hv2,gv0,gv1,gv0',gv1',hba,Aa]
      refine⟨by omega,?_⟩
      have hmid:(Ak Kx ls).tail.take (ls.length-1-1)=Ak Kx ((ls.drop 1).take (ls.length-2)):=by
       rw[<- List.drop_one,q7L,q3N];rfl
      have hml:ls.length-1-1=((ls.drop 1).take (ls.length-2)).length:=by simp;omega
      have hmw:∀ w∈(ls.drop 1).take (ls.length-2),w.length<=999999:=fun w hw=>by
       have:=hle w (List.mem_of_mem_drop (List.mem_of_mem_take hw));omega
      simp only[hn,and_self,if_true]at h
      rw[hmid,hml]
      generalize (ls.drop 1).take (ls.length-2)=mid at *
      have hL:=fun Q h1 h2=>q6B (Γ:=Γ) (Q:=Q) hP hE mid none none v (by omega) hmw h1 h2 mid.length 0 [] (by omega) rfl
      refine hL _ ?_ ?_
      ·intro cs hcs
       simp only[hcs]at h
       have hce:¬ Jz ⟨v,⟨cs.map slC,none,none⟩⟩=0:=fun e=>by simp[e]at h
       have hvi:Vv v:=by
        obtain⟨_,h⟩:=Tt hnum
        exact h v (by simp)
       have hck:=Dx (Γ:=Γ) ⟨v,⟨cs.map slC,none,none⟩⟩ hvi
       have hln:(Ak Bh (cs.map slC)).length=cs.length:=by rw[A3,List.length_map]
       generalize Jz ⟨v,⟨cs.map slC,none,none⟩⟩=ce at *
       simp only[He,B5]at hck
       simp[prE,prH]
       have htk:(Ak Bh (cs.map slC)).take cs.length=Ak Bh (cs.map slC):=by rw[<- hln,List.take_length]
       refine A4 hck (by simp[Aq,htk]) ?_
       simp[hce,St.freeze,Aj.closed,Ce,frz1,frz0,Hl,del,Aq,htk,Ci,q6D]
      ·intro hn2 cs
       simp[prH,q6D,Ci]
     ·simp[hlen,gl,gl',w1,w2,hlt,hlt1,hlt2,hv2,gv0,gv1,gv0',gv1',hba,hn,Aa,q6D,Ci]
    ·have hie:last.isEmpty=false:=by cases last with|nil=>exact absurd rfl hla|cons x xs=>rfl
     simp[hie,hlen,gl,gl',w1,w2,hlt,hlt1,hlt2,hv2,gv0,gv1,gv0',gv1',hba,hbl,hla,Aa,q6D,Ci]
   ·have hv2:(Bc l).length=l.length:=A3
    have hl':¬ (l.length:Int)=2:=by omega
    refine As hno rfl ?_
    simp[hv2,hl,hl',q6D,Ci]
end Go.Lg
set_option maxHeartbeats 1000000
namespace Go.Proofs
open Go.Shelf Go.RowKit
theorem qGS (m:Nat) (hm:1<=m):liesAt Tryz.prog Tryz.prog.depth 60 m 0 60 1=true:=by
 have hc:Tryz.prog.cellsOf 60=2:=by kernel_rfl
 have hd:Tryz.prog.depth=(2*(Tryz.prog.types.size+Made.depth)+1)+1:=rfl
 rw[hd]
 simp only[liesAt,Bool.or_eq_true]
 left
 rw[hd]
 simp[rowAt,hc,hm,sameLayout]
theorem qGT (b:Nat) (w:World) (h0:w.cell? ⟨b,0,none⟩=some (.pointer (some ⟨b,0,none⟩))) :
  Calls Tryz.prog 31 #[.pointer (some ⟨b,0,none⟩)] w fun e w'=>e=.returned (.tuple #[])/\w'=w:=by
 have hs:(Tryz.prog.info? 60).map (·.size)=some 2:=by kernel_rfl
 obtain⟨j,hj,_⟩:=Option.map_eq_some_iff.1 hs
 have mixed:Tryz.prog.follows .mixedOrders=true:=by kernel_rfl
 have t72:=Tryz.underlying60;have a72:=Tryz.isAgg60;have z72:=Tryz.sizeOf60;have v72:=Tryz.zeroValue60;have u72:=run_underlying t72
 have t70:=Tryz.underlying58;have a70:=Tryz.isAgg58;have z70:=Tryz.sizeOf58;have v70:=Tryz.zeroValue58;have u70:=run_underlying t70
 have t4:=Tryz.underlying4;have a4:=Tryz.isAgg4;have z4:=Tryz.sizeOf4;have v4:=Tryz.zeroValue4;have u4:=run_underlying t4
 have t164:=Tryz.underlying106;have a164:=Tryz.isAgg106;have z164:=Tryz.sizeOf106;have v164:=Tryz.zeroValue106;have u164:=run_underlying t164
 have hf:Tryz.f31.ntmps=20:=rfl
 go_enter Tryz.func31,hf
 go_wp2
 rw[Lib.run_neq_ptr_same w _ t70 hj]
 go_wp2
 go_end0
 exact⟨rfl,rfl⟩
theorem qEt (b:Nat) (w:World) (h0:w.cell? ⟨b,0,none⟩=some (.pointer none)) (n:Nat) (hn:2<=n) (hsh:w.shape? b=some (60,n)) (hfz:w.frozen? ⟨b,0,none⟩=false) :
  Calls Tryz.prog 31 #[.pointer (some ⟨b,0,none⟩)] w fun e w'=>e=.returned (.tuple #[])/\w'=w.setCell ⟨b,0,none⟩ (.pointer (some ⟨b,0,none⟩)):=by
 have hs:(Tryz.prog.info? 60).map (·.size)=some 2:=by kernel_rfl
 obtain⟨j,hj,hjs⟩:=Option.map_eq_some_iff.1 hs
 have hc2:Tryz.prog.cellsOf 60=2:=by kernel_rfl
 have hl:liesAt Tryz.prog Tryz.prog.depth 60 (n / Tryz.prog.cellsOf 60) 0 60 1=true:=by rw[hc2];exact qGS _ (by omega)
 have mixed:Tryz.prog.follows .mixedOrders=true:=by kernel_rfl
 have t72:=Tryz.underlying60;have a72:=Tryz.isAgg60;have z72:=Tryz.sizeOf60;have v72:=Tryz.zeroValue60;have u72:=run_underlying t72
 have t70:=Tryz.underlying58;have a70:=Tryz.isAgg58;have z70:=Tryz.sizeOf58;have v70:=Tryz.zeroValue58;have u70:=run_underlying t70
 have t4:=Tryz.underlying4;have a4:=Tryz.isAgg4;have z4:=Tryz.sizeOf4;have v4:=Tryz.zeroValue4;have u4:=run_underlying t4
 have t164:=Tryz.underlying106;have a164:=Tryz.isAgg106;have z164:=Tryz.sizeOf106;have v164:=Tryz.zeroValue106;have u164:=run_underlying t164
 have hf:Tryz.f31.ntmps=20:=rfl
 go_enter Tryz.func31,hf
 go_wp2
 rw[Lib.run_to_unsafe w ⟨b,0,none⟩ t70 t164 hj (by rw[hjs];decide) hsh (by show 0<n;omega)]
 simp only[Result.andThen]
 rw[Oper.upon_value]
 go_wp2
 rw[run_callFunc_extern Tryz.func53 (by kernel_rfl) (by kernel_rfl) (by kernel_rfl) (e:=Extern.AbiNoEscape.same) (by kernel_rfl)]
 rw[Lib.run_noEscape]
 simp only[Result.andThen]
 rw[Oper.upon_value]
 go_wp2
 rw[Lib.run_from_unsafe w ⟨b,0,none⟩ t164 t70 hj hsh hl]
 simp only[Result.andThen]
 rw[Oper.upon_value]
 go_wp2
 go_end0
 exact⟨rfl,rfl⟩
theorem qD5 (b g cap:Nat) (cur:Array Value) (l:List UInt8) (w:World) (h0:l≠[]) (hc1:w.cell? ⟨b,1,none⟩=some (.slice (some ⟨g,0,none⟩) l.length cap))
  (hg:w.heap[g]? = some (.cells cur 5 (0,0))) (hnc:l.length<=cap) (hcm:cap<=maxLen) (hcs:l.length<=cur.size) (hc:∀ (j:Nat) (x:UInt8),l[j]? = some x->cur[j]? = some (Value.int .u8 x.toNat)) :
  Calls Tryz.prog 16 #[.pointer (some ⟨b,0,none⟩)] w fun e w'=>e=.returned (.string ⟨l.toArray⟩)/\w'=w.drew.freeze ⟨g,0,none⟩ l.length:=by
 have hl0:l.length≠0:=by simpa using h0
 have c1:w.drew.cell? ⟨b,1,none⟩=some (.slice (some ⟨g,0,none⟩) l.length cap):=hc1
 have hSD:(Builtin.unsafeSliceData_ #[22] 84 #[.slice (some ⟨g,0,none⟩) l.length cap]).run Tryz.prog w.drew=.ok (.pointer (some ⟨g,0,none⟩)) w.drew :=
  Lib.run_unsafeSliceData_row _ _ _ _ _ _ (by omega)
 have hUS:(Builtin.unsafeString_ #[84,3] 9 #[.pointer (some ⟨g,0,none⟩),.int .i64 l.length]).run Tryz.prog w.drew=.ok (.string ⟨l.toArray⟩) (w.drew.freeze ⟨g,0,none⟩ l.length):=by
  refine Lib.run_unsafeString_row w.drew 84 3 9 5 Tryz.underlying84 (by kernel_rfl) g cur.size (by have hg':w.drew.heap[g]? = some (.cells cur 5 (0,0)):=hg;simp[World.shape?,hg']) l h0 (by omega) (by unfold maxLen at hcm;omega) ?_
  intro j x hx
  have hg':w.drew.heap[g]? = some (.cells cur 5 (0,0)):=hg
  have h1:w.drew.cell? ⟨g,j,none⟩=some (Value.int .u8 x.toNat):=by rw[Lib.cell_of_heap hg'];exact hc j x hx
  by_cases e:j=0
  ·subst e;simpa[Addr.add]using h1
  ·simpa[Addr.add,e]using h1
 have mixed:Tryz.prog.follows .mixedOrders=true:=by kernel_rfl
 have t72:=Tryz.underlying60;have a72:=Tryz.isAgg60;have z72:=Tryz.sizeOf60;have v72:=Tryz.zeroValue60;have u72:=run_underlying t72
 have t70:=Tryz.underlying58;have a70:=Tryz.isAgg58;have z70:=Tryz.sizeOf58;have v70:=Tryz.zeroValue58;have u70:=run_underlying t70
 have t37:=Tryz.underlying22;have a37:=Tryz.isAgg22;have z37:=Tryz.sizeOf22;have v37:=Tryz.zeroValue22;have u37:=run_underlying t37
 have t127:=Tryz.underlying84;have a127:=Tryz.isAgg84;have z127:=Tryz.sizeOf84;have v127:=Tryz.zeroValue84;have u127:=run_underlying t127
 have t3:=Tryz.underlying3;have a3:=Tryz.isAgg3;have z3:=Tryz.sizeOf3;have v3:=Tryz.zeroValue3;have u3:=run_underlying t3
 have t9:=Tryz.underlying9;have a9:=Tryz.isAgg9;have z9:=Tryz.sizeOf9;have v9:=Tryz.zeroValue9;have u9:=run_underlying t9
 have t5:=Tryz.underlying5;have a5:=Tryz.isAgg5;have z5:=Tryz.sizeOf5;have v5:=Tryz.zeroValue5;have u5:=run_underlying t5
 have hf:Tryz.f16.ntmps=14:=rfl
 go_enter Tryz.func16,hf
 go_wp2
 go_region_o
 all_goals (go_wp2;go_ret;exact⟨rfl,rfl⟩)
end Go.Proofs
namespace Go.Lg
open Go Go.Proofs
variable {Γ:Tables}
theorem q7g (vs:Array Value) (w:World):(callFunc 31 vs).run Tryz.prog w=.ok (.enter 31 vs) w:=enters_of Tryz.func31 (by kernel_rfl) rfl vs w
theorem qD6 (vs:Array Value) (w:World):(callFunc 16 vs).run Tryz.prog w=.ok (.enter 16 vs) w:=enters_of Tryz.func16 (by kernel_rfl) rfl vs w
theorem q2t {w0 w:World} {B:Nat} {κ μ:Be} {X:Nat->Prop} {st:St} {tm:Array Value} (h:B0 w0 B κ X μ st tm w) {id ty:Nat} {a b:AV} (hl:A2 st.hp id=some (.rs ty 2 [[a,b]])) {v:Value} (hv:AR w X μ st.sh (.lp id 0 0) v) :
  ∃ g arr x y,v=.pointer (some ⟨g,0,none⟩)/\μ id=some (g,arr.size)/\w.heap[g]? = some (.cells arr ty (0,0))/\2<=arr.size/\arr[0]? = some x/\arr[1]? = some y/\AR w X μ st.sh a x/\AR w X μ st.sh b y/\a.one=true/\b.one=true:=by
 obtain⟨g,m,hm,hp⟩:=hv.lp_inv
 rcases hp with⟨s,n,hs,he⟩|⟨hs,_,_⟩
 ·obtain⟨k0,h1|⟨g',arr,k1,k2,k3,k4⟩⟩:=h.reg id _ hl
  ·exact absurd h1.1 (by simp)
  ·rw[hm]at k1
   cases k1
   have h2:2<=arr.size:=by simpa using k3
   have e0:arr[0]? = some arr[0]:=Array.getElem?_eq_getElem (by omega)
   have e1:arr[1]? = some arr[1]:=Array.getElem?_eq_getElem (by omega)
   refine⟨g,arr,arr[0],arr[1],by rw[he];simp,hm,k2,h2,e0,e1,k4 0 0 [a,b] a _ rfl rfl (by first|(simp;done)|simpa using e0),k4 0 1 [a,b] b _ rfl rfl (by first|(simp;done)|simpa using e1),(k0 0 [a,b] rfl).2 0 a rfl,(k0 0 [a,b] rfl).2 1 b rfl⟩
 ·rw[By hl]at hs;cases hs
theorem qGU {hp:List (Nat×Aj)} {ty:Nat} {b:AV} (hl:A2 hp 1000000=some (.rs ty 2 [[.lp 1000000 0 0,b]])):Bl Tryz.prog Γ 31 hp [.lp 1000000 0 0] (.t (.tup [])) hp:=by
 intro w X κ vs hg hk hs ha
 refine .inl ⟨q7g _ _,?_⟩
 obtain⟨v,rfl⟩:∃ v,vs=[v]:=by
  have:=ha.1
  match vs,this with
  | [v],_=>exact⟨v,rfl⟩
 obtain⟨g,arr,x,y,rfl,hm,hh,h2,hx,hy,ax,ay,_,_⟩:=q2t hs hl (ha.2 0 _ v rfl rfl)
 obtain⟨g',arr',x',y',rfl,hm',_⟩:=q2t hs hl ax
 have hgg:=(Prod.mk.inj (Option.some.inj (hm.symm.trans hm'))).1
 subst hgg
 have hc:w.cell? ⟨g,0,none⟩=some (.pointer (some ⟨g,0,none⟩)):=by simp only[World.cell?,hh];exact hx
 refine(qGT g w hc).mono fun e w' ⟨he,hw⟩=>?_
 subst hw
 exact⟨_,he,X,κ,hs,.t _ _ (.tup _ _ rfl fun k t x h=>by cases h),fun b h=>h,fun b h=>.inl h⟩
theorem qEu {hp:List (Nat×Aj)} {b:AV} (hl:A2 hp 1000000=some (.rs 60 2 [[.t (.v (.pointer none)),b]])):Bl Tryz.prog Γ 31 hp [.lp 1000000 0 0] (.t (.tup [])) (Bm 1000000 (.rs 60 2 [[.lp 1000000 0 0,b]]) hp):=by
 intro w X κ vs hg hk hs ha
 refine .inl ⟨q7g _ _,?_⟩
 obtain⟨v,rfl⟩:∃ v,vs=[v]:=by
  have:=ha.1
  match vs,this with
  | [v],_=>exact⟨v,rfl⟩
 obtain⟨g,arr,x,y,rfl,hm,hh,h2,hx,hy,ax,ay,_,ob⟩:=q2t hs hl (ha.2 0 _ v rfl rfl)
 have hx0:x=.pointer none:=by
  cases ax with
  | t _ _ h=>exact h.v_inv
 subst hx0
 have hc:w.cell? ⟨g,0,none⟩=some (.pointer none):=by simp only[World.cell?,hh];exact hx
 have hsh:w.shape? g=some (60,arr.size):=by simp only[World.shape?,hh]
 have hfz:w.frozen? ⟨g,0,none⟩=false:=by simp[World.frozen?,hh]
 refine(qEt g w hc arr.size h2 hsh hfz).mono fun e w' ⟨he,hw⟩=>?_
 have hown:w'.heap[g]? = some (.cells (arr.setIfInBounds 0 (.pointer (some ⟨g,0,none⟩))) 60 (0,0)):=by
  rw[hw]
  simp only[World.setCell]
  rw[Array.getElem?_modify,if_pos rfl,hh]
  rfl
 have hsz:w'.heap.size=w.heap.size:=by rw[hw];simp[World.setCell]
 have hoth:∀ k,k≠g->w'.heap[k]? = w.heap[k]? := fun k hk=>by rw[hw];exact RowKit.Below.heap_setCell _ _ _ _ hk
 have hset:=hs.setReg (r':=.rs 60 2 [[.lp 1000000 0 0,b]]) hl rfl hm w' (by rw[hw];rfl) (by rw[hw];rfl) (by rw[hw];rfl) hsz hoth fun hsame=>?_
 ·exact⟨_,he,X,κ,hset.1,.t _ _ (.tup _ _ rfl fun k t x h=>by cases h),fun b h=>h,fun b h=>.inl h⟩
 ·refine⟨fun i e hi=>?_,.inr ⟨g,_,by rw[Array.size_setIfInBounds];exact hm,hown,by rw[Array.size_setIfInBounds];simpa using h2,fun i k e a x hi ha hx=>?_⟩⟩
  ·have:=List.mem_of_getElem? hi
   simp only[List.mem_singleton]at this
   subst this
   refine⟨rfl,fun k t ht=>?_⟩
   match k,ht with
   | 0,ht=>cases ht;rfl
   | 1,ht=>cases ht;exact ob
  ·have hi0:i=0:=by have:=(List.getElem?_eq_some_iff.1 hi).1;simp at this;omega
   subst hi0
   simp only[List.getElem?_cons_zero,Option.some.injEq]at hi
   subst hi
   match k,ha with
   | 0,ha =>
    cases ha
    have:x=.pointer (some ⟨g,0*2+0,none⟩):=by
     have h3:0<arr.size:=by omega
     simp[h3]at hx
     rw[<- hx]
    rw[this]
    exact .lpsl 1000000 0 0 2 1 g arr.size (by rw[By hl];rfl) hm
   | 1,ha =>
    cases ha
    have:x=y:=by
     simp[Array.getElem?_setIfInBounds]at hx
     have h3:1<arr.size:=by omega
     rw[hy]at hx
     cases hx;rfl
    rw[this]
    exact ay.mono hsame (fun _ h=>h) (fun _ _ hq=>⟨hq,rfl⟩)
theorem qLb {hp:List (Nat×Aj)} {ty:Nat} {a:AV} {cap:Option Nat} {l:List UInt8} (h0:l≠[]) (hl:A2 hp 1000000=some (.rs ty 2 [[a,.ls 1000001 0 l.length cap]])) (hl2:A2 hp 1000001=some (.sl 5 1 (l.map fun b=>[T.v (.int .u8 b.toNat)]))) :
  Bl Tryz.prog Γ 16 hp [.lp 1000000 0 0] (.t (.v (.string ⟨l.toArray⟩))) []:=by
 intro w X κ vs hg hk hs ha
 refine .inl ⟨qD6 _ _,?_⟩
 obtain⟨v,rfl⟩:∃ v,vs=[v]:=by
  have:=ha.1
  match vs,this with
  | [v],_=>exact⟨v,rfl⟩
 obtain⟨g,arr,x,y,rfl,hm,hh,h2,hx,hy,ax,ay,_,ob⟩:=q2t hs hl (ha.2 0 _ v rfl rfl)
 have hn0:l.length≠0:=by simpa using h0
 generalize hn:l.length=n at ay hn0
 cases ay with
 | lsnil=>exact absurd rfl hn0
 | ls _ off len s m g2 q c cp h1 h3 hle hlc hcm hfit hfull hcc ad had =>
  have had:=had (.inr rfl)
  rw[Nat.zero_mul]at had
  subst had
  have hbytes:∃ arr2,κ 1000001=some (g2,arr2.size)/\w.heap[g2]? = some (.cells arr2 5 (0,0))/\n<=arr2.size/\∀ (j:Nat) (b:UInt8),l[j]? = some b->arr2[j]? = some (Value.int .u8 b.toNat):=by
   obtain⟨_,h4|⟨g',arr2,k1,k2,k3,k4⟩⟩:=hs.reg 1000001 _ hl2
   ·rw[h4.2]at h3;cases h3
   ·have e:=(Prod.mk.inj (Option.some.inj (k1.symm.trans h3))).1
    subst e
    have hsz:n<=arr2.size:=by simpa[hn]using k3
    refine⟨arr2,k1,k2,hsz,fun j b hj=>?_⟩
    have hj2:j<l.length:=(List.getElem?_eq_some_iff.1 hj).1
    have e2:arr2[j]? = some arr2[j]:=Array.getElem?_eq_getElem (by omega)
    have:=k4 j 0 [T.v (.int .u8 b.toNat)] (T.v (.int .u8 b.toNat)) arr2[j] (by simp[hj]) rfl (by rw[Nat.mul_one,Nat.add_zero,e2])
    rw[e2,this.v_inv]
  obtain⟨arr2,m1,m2,m3,m4⟩:=hbytes
  have hc1:w.cell? ⟨g,1,none⟩=some (.slice (some ⟨g2,0,none⟩) l.length c):=by simp only[World.cell?,hh,hn];exact hy
  refine(qD5 g g2 c arr2 l w h0 hc1 m2 (by omega) hcm (by omega) m4).mono fun e w' ⟨he,hw⟩=>?_
  have hsz:w'.heap.size=w.heap.size:=by
   rw[hw];unfold World.freeze;split
   ·rfl
   ·show(Array.modify w.heap g2 _).size=_
    rw[Array.size_modify]
  have hos:w'.os=w.os/\w'.tape=w.tape/\w'.output=w.output:=by
   rw[hw];unfold World.freeze;split<;>exact⟨rfl,rfl,rfl⟩
  refine⟨_,he,X,fun _=>none,⟨fun t a ht=>by simp[A2]at ht,fun id r hr=>by simp[A2]at hr,fun id _ _ _ _ hi=>absurd rfl hi,fun id _ _ hi=>absurd rfl hi,fun id _ hi=>absurd rfl hi,hs.kbig,fun b hb=>by rw[hsz];exact hs.xlt b hb,hos.1,hos.2.1,hos.2.2,by rw[hsz];exact Nat.le_refl _,fun k hk hkk=>?_⟩,.t _ _ (.v _),fun b h=>h,fun b h=>.inl h⟩
  have hne:k≠g2:=fun e=>hkk 1000001 _ (e ▸ m1)
  rw[hw]
  unfold World.freeze
  split
  ·rfl
  ·show(Array.modify w.heap g2 _)[k]? = _
   rw[Array.getElem?_modify,if_neg (fun e=>hne e.symm)]
end Go.Lg
namespace Go.Lg
open Go
section
variable {P:Program} {Γ:Tables} {Q:AX->St->Prop} {s:St}
/- (*strings.Builder).WriteString (function 14) -/
abbrev P9:IC:=(.seq (.reg [od 4 (.mv (ki 0)),od 5 (.mv (.const .nilIface))] [.keepE [0,1]]) (.seq (.reg [om 6 0,od 7 (.hcallW 31 [(tm 6)] 0)] [.keepE [0,1]]) (.seq (.reg [om 8 0,om 9 0,od 10 (.nck (tm 9)),od 11 (fa 1 10),od 12 (ld 1 11),
 om 13 1,od 14 (.appS 5 (tm 12) (tm 13)),od 15 (.nck (tm 8)),od 16 (fa 1 15),on (.store 1 (tm 16) (tm 14))] [.keepE [1]]) (.seq (.reg [om 17 1,od 18 (le 1 17),om 4 18,od 5 (.mv (.const .nilIface))] [.keepE [4,5]]) .ret))))
def Dq:List RV:=[.tmp 4,.tmp 5]
end
end Go.Lg
namespace Go.Lg
open Go Go.Proofs
theorem Gj:Ax Tryz.prog 14 P9 19 2 Dq=true:=by kernel_rfl
end Go.Lg
namespace Go.Lg
open Go Go.Proofs
variable {Γ:Tables}
theorem qEv (s:ByteArray) (h0:0<s.size) (h1:s.size<=1000000) (nl:Option Bool) :
  Bl Tryz.prog Γ 14 [(1000000,.rs 60 2 [[.t (.v (.pointer none)),.t (.sl [] (some 0) nl)]])] [.lp 1000000 0 0,.t (.v (.string s))] (.t (.tup [tI s.size,.v .nilIface]))
   [(14,.sl 5 1 (Q2 s)),(1000000,.rs 60 2 [[.lp 1000000 0 0,.ls 14 0 s.size none]])]:=by
 refine N4 Gj rfl ?_
 have hc:=qEu (Γ:=Γ) (hp:=[(1000000,.rs 60 2 [[.t (.v (.pointer none)),.t (.sl [] (some 0) nl)]])]) (b:=.t (.sl [] (some 0) nl)) rfl
 have hb:P2 [1000000] 0 1000000=1000000:=rfl
 have i0:List.idxOf 1000000 [1000000]=0:=rfl
 have q0:([1000000]:List Nat)[0]?.getD 0=1000000:=rfl
 simp
 refine⟨[1000000],by simp,.t (.tup []),_,by simpa[Bm]using hc,by simp[Qf,Aj.sh],?_⟩
 simp[hb,i0,q0,Dq,Zf]
 omega
theorem q7h (s:ByteArray) (h0:0<s.size) (es:List (List T)) (n:Nat) (hn:es.length=n) (h1:n+s.size<=1000000) :
  Bl Tryz.prog Γ 14 [(1000000,.rs 60 2 [[.lp 1000000 0 0,.ls 1000001 0 n none]]),(1000001,.sl 5 1 es)] [.lp 1000000 0 0,.t (.v (.string s))] (.t (.tup [tI s.size,.v .nilIface]))
   [(14,.sl 5 1 (es++Q2 s)),(1000000,.rs 60 2 [[.lp 1000000 0 0,.ls 14 0 (n+s.size) none]])]:=by
 refine N4 Gj rfl ?_
 have hc:=qGU (Γ:=Γ) (hp:=[(1000000,.rs 60 2 [[.lp 1000000 0 0,.ls 1000001 0 n none]]),(1000001,.sl 5 1 es)]) (b:=.ls 1000001 0 n none) rfl
 have ht:es.take n=es:=List.take_of_length_le (by omega)
 have b0:P2 [1000000,1000001] 0 1000000=1000000:=rfl
 have b1:P2 [1000000,1000001] 0 1000001=1000001:=rfl
 have i0:List.idxOf 1000000 [1000000,1000001]=0:=rfl
 have i1:List.idxOf 1000001 [1000000,1000001]=1:=rfl
 have q0:([1000000,1000001]:List Nat)[0]?.getD 0=1000000:=rfl
 have q1:([1000000,1000001]:List Nat)[1]?.getD 0=1000001:=rfl
 simp
 refine⟨[1000000,1000001],by simp,.t (.tup []),_,by simpa[i0,i1]using hc,by simp[Qf,Aj.sh],?_⟩
 simp[b0,b1,i0,i1,q0,q1,Dq,Zf,ht,hn]
 omega
def bE (l:List UInt8):List (List T):=l.map fun b=>[T.v (.int .u8 b.toNat)]
theorem qEw (l:List UInt8):(bE l).length=l.length:=by simp[bE]
theorem qB6 (s:ByteArray):Q2 s=bE s.data.toList:=rfl
theorem qEx (a b:List UInt8):bE a++bE b=bE (a++b):=by simp[bE]
def pce (f:Int->ByteArray) (n:Int):ByteArray:=f n++⟨#[32]⟩
theorem q9h (f:Int->ByteArray) (n:Int):(pce f n).size=(f n).size+1:=by simp[pce,ByteArray.size_append]
def Jc (f:Int->ByteArray) (l:List Int):List UInt8:=l.flatMap fun n=>(pce f n).data.toList
theorem qC8 {f:Int->ByteArray}:∀ {l:List Int},(∀ n∈l,(f n).size<=30)->(Jc f l).length<=31*l.length
 | [],_=>by simp[Jc]
 | n::l,h=>by
  have ih:=qC8 (f:=f) (l:=l) fun k hk=>h k (List.mem_cons_of_mem _ hk)
  have h1:=h n (List.mem_cons_self ..)
  have h2:((pce f n).data.toList).length=(f n).size+1:=by rw[Array.length_toList];exact q9h f n
  unfold Jc at ih ⊢
  rw[List.flatMap_cons,List.length_append,h2,List.length_cons]
  omega
theorem qEy (f:Int->ByteArray) (l:List Int) (i:Nat) (h:i<l.length):Jc f (l.take i)++(pce f l[i]).data.toList=Jc f (l.take (i+1)):=by
 unfold Jc
 rw[List.take_succ_eq_append_getElem h,List.flatMap_append]
 simp
end Go.Lg
namespace Go.Lg
open Go
section
variable {P:Program} {Γ:Tables} {Q:AX->St->Prop} {s:St}
/- probecard/cnfs.Text (function 7) -/
abbrev q2u:IC:=.gh (.seq (.reg [od 33 (.bin .lss (tm 32) (tm 31))] [.keepE [3,24,25,26,30,31,32,33]]) (.seq (.cond (tm 33) .skip (.exit 2)) (.seq (.block 3 (.seq (.reg [od 34 (ia 1 30 32),od 35 (ld 1 34),om 7 35] [.keepE [3,7,24,25,
 26,30,31,32]]) (.reg [om 36 7,od 37 (.call 15 [(tm 36)]),od 38 (.bin .add (tm 37) (.const (sV [32]))),od 39 (.hcallW 14 [(tm 3),(tm 38)] 300000)] [.ren 300014 900,.keepE [3,24,25,26,30,31,32]]))) (.reg [od 40 (.bin
 .add (tm 32) (ki 1)),om 32 40] [.keepE [3,24,25,26,30,31,32]])))) [.keepE [3,24,25,26,30,31,32]]
def Rq:IC:=.loop q2u
abbrev q2v:IC:=.gh (.seq (.reg [od 27 (.bin .lss (tm 26) (tm 25))] [.keepE [3,24,25,26,27]]) (.seq (.cond (tm 27) .skip (.exit 0)) (.seq (.block 1 (.seq (.reg [od 28 (ia 1 24 26),od 29 (ld 1 28),om 5 29] [.keepE [3,5,24,25,26]]) (.seq
 (.seq (.reg [om 30 5,od 31 (le 0 30),od 32 (.mv (ki 0))] [.keepE [3,24,25,26,30,31,32]]) (.block 2 Rq)) (.reg [od 41 (.hcallW 14 [(tm 3),(.const (sV [48,10]))] 300000)] [.ren 300014 900,.keepE [3,24,25,
 26]])))) (.reg [od 42 (.bin .add (tm 26) (ki 1)),om 26 42] [.keepE [3,24,25,26]])))) [.keepE [3,24,25,26]]
def Rr:IC:=.loop q2v
abbrev q2w:IC:=(.seq (.reg [od 1 (.box true (tm 0)),od 2 (.mv (.const (sV [])))] [.keepE [1]]) (.seq (.seq (.reg [od 8 (lG 2 1),od 9 (.call 10 [(tm 8)]),od 10 (.bin .neq (tm 9) (ki 0))] [.keepE [1,10]]) (.cond (tm 10) (.seq (.reg [od 2 (.mv
 (.const (sV [])))] [.keepE [2]]) .ret) .skip)) (.seq (.reg [od 3 (.allocR 60 [(.pointer none),(.slice none 0 0)])] [.keepE [1,3]]) (.seq (.reg [od 11 (fa 0 1),od 12 (ld 1 11),od 13 (.call 15 [(tm 12)]),od 14 (.bin .add (.const
 (sV [112,32,99,110,102,32])) (tm 13)),od 15 (.bin .add (tm 14) (.const (sV [32]))),od 16 (fa 1 1),od 17 (ld 1 16),od 18 (le 0 17),od 19 (.call 15 [(tm 18)]),od 20 (.bin .add (tm 15) (tm 19)),od 21 (.bin .add (tm 20)
 (.const (sV [10]))),od 22 (.hcallW 14 [(tm 3),(tm 21)] 300000)] [.ren 300014 900,.keepE [1,3]]) (.seq (.seq (.reg [od 23 (fa 1 1),od 24 (ld 1 23),od 25 (le 0 24),od 26 (.mv (ki 0))] [.keepE [3,24,25,26]]) (.block 0
 Rr)) (.seq (.reg [od 43 (.hcallW 16 [(tm 3)] 400000),om 2 43] [.keepE [2]]) .ret))))))
theorem Xf (h:∀ K:St->Prop,K=run P Γ Rq Q->run P Γ q2u (B1 K Q) s):run P Γ Rq Q s:=Au h
theorem Xg (h:∀ K:St->Prop,K=run P Γ Rr Q->run P Γ q2v (B1 K Q) s):run P Γ Rr Q s:=Au h
def q2x:List RV:=[.tmp 2]
end
end Go.Lg
namespace Go.Lg
open Go Go.Proofs
theorem q6o:Ax Tryz.prog 7 q2w 44 1 q2x=true:=by kernel_rfl
end Go.Lg
namespace Go.Lg
open Go Go.Proofs
variable {Γ:Tables}
def clT (c:List Int):List UInt8:=Jc Bf c++[48,10]
def txB (l:List (List Int)):List UInt8:=l.flatMap clT
theorem qEz (l:List (Sl Int)) (i:Nat) (h:i<l.length):txB ((l.take i).map (·.l))++clT (l.getD i ⟨[],none,none⟩).l=txB ((l.take (i+1)).map (·.l)):=by
 have:l.getD i ⟨[],none,none⟩=l[i]:=by simp[List.getD_eq_getElem?_getD,h]
 rw[this]
 unfold txB
 rw[List.take_succ_eq_append_getElem h,List.map_append,List.flatMap_append]
 simp
theorem qGV (f:Int->ByteArray) (l:List Int) (i:Nat):(Jc f (l.take i)).length<=(Jc f l).length:=by
 conv=>rhs;rw[<- List.take_append_drop i l]
 unfold Jc
 rw[List.flatMap_append,List.length_append]
 omega
theorem qC9 {Q:AX->St->Prop} (hP:Ij Γ) (B:List UInt8) (A:T) (N m:Int) (c:Sl Int) (hl:c.l.length<=4096) (hc:∀ v∈c.l,Vv v) (hB:(B++Jc Bf c.l).length<=1000000)
  (h0:Q (.exit 2) ⟨[(3,.lp 3 0 0),(24,.t A),(25,.t (tI N)),(26,.t (tI m)),(30,.t (Bh c)),(31,.t (tI c.l.length)),(32,.t (tI c.l.length)),(33,.t (tB false))],[(900,.sl 5 1 (bE (B++Jc Bf c.l))),(3,.rs 60 2 [[.lp 3 0 0,.ls 900 0 (B++Jc Bf c.l).length none]])]⟩):∀ (k i:Nat),k+i=c.l.length ->
  run Tryz.prog Γ Rq Q ⟨[(3,.lp 3 0 0),(24,.t A),(25,.t (tI N)),(26,.t (tI m)),(30,.t (Bh c)),(31,.t (tI c.l.length)),(32,.t (tI i))],[(900,.sl 5 1 (bE (B++Jc Bf (c.l.take i)))),(3,.rs 60 2 [[.lp 3 0 0,.ls 900 0 (B++Jc Bf (c.l.take i)).length none]])]⟩
 | 0,i,h=>by
  refine Xf fun K hK=>?_
  have h2:i=c.l.length:=by omega
  subst h2
  rw[List.take_length]
  generalize B++Jc Bf c.l=L at *
  simp[Bh]
  simpa[Bh]using h0
 | k+1,i,h=>by
  refine Xf fun K hK=>?_
  have ih:=qC9 hP B A N m c hl hc hB h0 k (i+1) (by omega)
  have h2:i<c.l.length:=by omega
  have hit:=q2d hP c.l[i] (hc _ (List.getElem_mem h2))
  have hps:=q9h Bf c.l[i]
  have hcs:=qEy Bf c.l i h2
  have hcp:=qGV Bf c.l (i+1)
  have hlen1:(B++Jc Bf (c.l.take i)).length+(pce Bf c.l[i]).size=(B++Jc Bf (c.l.take (i+1))).length:=by
   rw[<- hcs,List.length_append,List.length_append,List.length_append]
   have:(pce Bf c.l[i]).data.toList.length=(pce Bf c.l[i]).size:=rfl
   omega
  have hlen2:(B++Jc Bf (c.l.take (i+1))).length<=1000000:=by
   rw[List.length_append]at hB ⊢
   omega
  have hw:=q7h (Γ:=Γ) (pce Bf c.l[i]) (by omega) (bE (B++Jc Bf (c.l.take i))) _ (qEw _) (by omega)
  rw[qB6,qEx,List.append_assoc,hcs,hlen1]at hw
  have ge:(Bc c.l)[i]?.getD []=[tI c.l[i]]:=by simp[Bc,Ak,h2]
  have ge':∀ h:i<(Bc c.l).length,(Bc c.l)[i]=[tI c.l[i]]:=fun h=>by simp[Bc,Ak]
  generalize B++Jc Bf (c.l.take (i+1))=c1 at *
  generalize B++Jc Bf (c.l.take i)=c0 at *
  have b0:P2 [3,900] 300000 1000000=3:=rfl
  have b1:P2 [3,900] 300000 14=300014:=rfl
  have i0:List.idxOf 3 [3,900]=0:=rfl
  have i1:List.idxOf 900 [3,900]=1:=rfl
  have q0:([3,900]:List Nat)[0]?.getD 0=3:=rfl
  have hwd:Gk 1 (Bc c.l):=Aa
  have hlen:(Bc c.l).length=c.l.length:=A3
  simp only[Bh]at ih ⊢
  generalize Bc c.l=E at *
  simp(disch:=omega) [h2,hlen,ge,ge',hwd,A5]
  refine A4 hit rfl ?_
  have h32:({ data:=#[32] }:ByteArray).size=1:=rfl
  have hpc:Bf c.l[i]++{ data:=#[32] }=pce Bf c.l[i]:=rfl
  simp[i0,i1,h32,hpc]
  refine⟨by omega,[3,900],by simp,.t (.tup [tI (pce Bf c.l[i]).size,.v .nilIface]),_,by simp[i0,i1];exact hw,by simp[Qf,Aj.sh],?_⟩
  simp[b0,b1,i0,i1,q0,Fp,Nl,Ed]
  simp(disch:=omega) [A5]
  rw[hK]
  exact_mod_cast ih
theorem qGW (l:List (Sl Int)) (i:Nat):(txB ((l.take i).map (·.l))).length<=(txB (l.map (·.l))).length:=by
 conv=>rhs;rw[<- List.take_append_drop i l]
 unfold txB
 rw[List.map_append,List.flatMap_append,List.length_append]
 omega
theorem qCA {Q:AX->St->Prop} (hP:Ij Γ) (B:List UInt8) (l:Sl (Sl Int)) (hn:l.l.length<=262144) (hl:∀ c∈l.l,c.l.length<=4096/\∀ v∈c.l,Vv v) (hB:(B++txB (l.l.map (·.l))).length<=1000000)
  (h0:Q (.exit 0) ⟨[(3,.lp 3 0 0),(24,.t (B5 l)),(25,.t (tI l.l.length)),(26,.t (tI l.l.length)),(27,.t (tB false))],[(900,.sl 5 1 (bE (B++txB (l.l.map (·.l))))),(3,.rs 60 2 [[.lp 3 0 0,.ls 900 0 (B++txB (l.l.map (·.l))).length none]])]⟩):∀ (k i:Nat),k+i=l.l.length ->
  run Tryz.prog Γ Rr Q ⟨[(3,.lp 3 0 0),(24,.t (B5 l)),(25,.t (tI l.l.length)),(26,.t (tI i))],[(900,.sl 5 1 (bE (B++txB ((l.l.take i).map (·.l))))),(3,.rs 60 2 [[.lp 3 0 0,.ls 900 0 (B++txB ((l.l.take i).map (·.l))).length none]])]⟩
 | 0,i,h=>by
  refine Xg fun K hK=>?_
  have h2:i=l.l.length:=by omega
  subst h2
  rw[List.take_length]
  generalize B++txB (l.l.map (·.l))=L at *
  simp[B5]
  simpa[B5]using h0
 | k+1,i,h=>by
  refine Xg fun K hK=>?_
  have ih:=qCA hP B l hn hl hB h0 k (i+1) (by omega)
  have h2:i<l.l.length:=by omega
  have hts:=qEz l.l i h2
  have htp:=qGW l.l (i+1)
  obtain⟨g1,g2⟩:=hl (l.l.getD i ⟨[],none,none⟩) (Dp h2)
  have e1:=elC (f:=Bh) ⟨[],none,none⟩ h2
  have e1':=Qi (f:=Bh) ⟨[],none,none⟩ h2
  have hwd:Gk 1 (Ak Bh l.l):=Aa
  have hlen:(Ak Bh l.l).length=l.l.length:=A3
  generalize l.l.getD i ⟨[],none,none⟩=c at *
  have hlen2:(B++txB ((l.l.take (i+1)).map (·.l))).length<=1000000:=by
   rw[List.length_append]at hB ⊢
   omega
  rw[<- hts]at hlen2
  have hcl:B++(txB ((l.l.take i).map (·.l))++clT c.l)=(B++txB ((l.l.take i).map (·.l))++Jc Bf c.l)++[48,10]:=by simp[clT,List.append_assoc]
  have hcl2:B++txB ((l.l.take (i+1)).map (·.l))=(B++txB ((l.l.take i).map (·.l))++Jc Bf c.l)++[48,10]:=by rw[<- hts,hcl]
  rw[hcl]at hlen2
  rw[hcl2]at ih
  generalize B++txB ((l.l.take (i+1)).map (·.l))=c1 at *
  generalize hC0:B++txB ((l.l.take i).map (·.l))=C0 at *
  have hd:(C0++Jc Bf c.l).length<=1000000:=by rw[List.length_append]at hlen2;simp at hlen2 ⊢;omega
  have hd2:(C0++Jc Bf c.l).length+2<=1000000:=by rw[List.length_append]at hlen2;exact hlen2
  have hll:=fun Q h0=>qC9 (Γ:=Γ) (Q:=Q) hP C0 (B5 l) l.l.length i c g1 g2 hd h0 c.l.length 0 (by omega)
  have hw:=q7h (Γ:=Γ) ⟨#[48,10]⟩ (by decide) (bE (C0++Jc Bf c.l)) _ (qEw _) (by simpa[ByteArray.size]using hd2)
  have hz:(⟨#[48,10]⟩:ByteArray).size=2:=rfl
  have hz2:(C0++Jc Bf c.l).length+2=(C0++Jc Bf c.l++[48,10]).length:=by simp only[List.length_append,List.length_cons,List.length_nil]
  rw[qB6,qEx,hz,hz2]at hw
  have hcn:Jc Bf (c.l.take 0)=[]:=rfl
  rw[hcn,List.append_nil]at hll
  generalize C0++Jc Bf c.l++[48,10]=D1 at *
  generalize hD0:C0++Jc Bf c.l=D0 at *
  have b0:P2 [3,900] 300000 1000000=3:=rfl
  have b1:P2 [3,900] 300000 14=300014:=rfl
  have i0:List.idxOf 3 [3,900]=0:=rfl
  have i1:List.idxOf 900 [3,900]=1:=rfl
  have q0:([3,900]:List Nat)[0]?.getD 0=3:=rfl
  have hlc:(Bc c.l).length=c.l.length:=A3
  simp only[B5,Bh]at ih hll ⊢
  simp(disch:=omega) [h2,hlen,e1,e1',hwd,A5]
  simp only[Bh,hlc]at *
  simp(disch:=omega) [hlc]
  refine hll _ ?_
  simp[i0,i1]
  refine⟨[3,900],by simp,.t (.tup [tI 2,.v .nilIface]),_,by simp[i0,i1];exact hw,by simp[Qf,Aj.sh],?_⟩
  simp[b0,b1,i0,i1,q0,Fp,Nl,Ed]
  simp(disch:=omega) [A5]
  rw[hK]
  exact_mod_cast ih
def txH (f:Cf):ByteArray:=⟨#[112,32,99,110,102,32]⟩++Bf f.vars++⟨#[32]⟩++Bf f.cls.l.length++⟨#[10]⟩
def txL (f:Cf):List UInt8:=(txH f).data.toList++txB f.L
theorem q1x (hP:Ij Γ) (f:Cf) (hi:Vv f.vars) (hl:∀ c∈f.cls.l,∀ v∈c.l,Vv v) (he:Jz f=0) (hB:(txL f).length<=1000000):A6 Tryz.prog Γ 7 [.agg (He f)] (.v (.string ⟨(txL f).toArray⟩)):=by
 refine Af q6o rfl ?_
 have hck:=Dx (Γ:=Γ) f hi
 rw[he]at hck
 have hcls:f.cls.l.length<=262144/\∀ c∈f.cls.l,c.l.length<=4096:=by
  have he':=he
  unfold Jz at he'
  split at he'
  ·cases he'
  ·split at he'
   ·cases he'
   ·rename_i h1 h2
    exact⟨by omega,fun c hc=>(q4q he' c.l (List.mem_map.2 ⟨c,hc,rfl⟩)).1⟩
 have hi1:=q2d hP f.vars hi
 have hi2:=q2d hP (f.cls.l.length:Int) (by unfold Vv;omega)
 have hL:=fun Q h0=>qCA (Γ:=Γ) (Q:=Q) hP (txH f).data.toList f.cls hcls.1 (fun c hc=>⟨hcls.2 c hc,hl c hc⟩) hB h0 f.cls.l.length 0 (by omega)
 have hn0:txB ((f.cls.l.take 0).map (·.l))=[]:=rfl
 rw[hn0,List.append_nil]at hL
 have hsz:(txH f).size<=1000000:=by
  unfold txL at hB;rw[List.length_append]at hB
  have:(txH f).data.toList.length=(txH f).size:=rfl
  omega
 have hs0:0<(txH f).size:=by
  have e:(⟨#[10]⟩:ByteArray).size=1:=rfl
  unfold txH
  rw[ByteArray.size_append,e];omega
 have hsum:(txH f).size=6+(Bf f.vars).size+1+(Bf f.cls.l.length).size+1:=by
  unfold txH
  rw[ByteArray.size_append,ByteArray.size_append,ByteArray.size_append,ByteArray.size_append]
  rfl
 have hw:=qEv (Γ:=Γ) (txH f) hs0 hsz (some true)
 have hdl:(txH f).data.toList.length=(txH f).size:=rfl
 rw[qB6,<- hdl]at hw
 have hne:txL f≠[]:=fun h=>by
  have:=congrArg List.length h
  unfold txL at this;rw[List.length_append,hdl,List.length_nil]at this
  omega
 have hst:=qLb (Γ:=Γ) (hp:=[(1000000,.rs 60 2 [[.lp 1000000 0 0,.ls 1000001 0 (txL f).length none]]),(1000001,.sl 5 1 (bE (txL f)))]) (l:=txL f) hne rfl rfl
 have hLL:(txH f).data.toList++txB (f.cls.l.map (·.l))=txL f:=rfl
 rw[hLL]at hL
 have hlen:(Ak Bh f.cls.l).length=f.cls.l.length:=A3
 have hH:({ data:=#[112,32,99,110,102,32] }:ByteArray)++Bf f.vars++{ data:=#[32] }++Bf f.cls.l.length++{ data:=#[10] }=txH f:=rfl
 generalize txL f=TL at *
 generalize txH f=TH at *
 have b0:P2 [3] 300000 1000000=3:=rfl
 have b1:P2 [3] 300000 14=300014:=rfl
 have i0:List.idxOf 3 [3]=0:=rfl
 have j0:List.idxOf 3 [3,900]=0:=rfl
 have j1:List.idxOf 900 [3,900]=1:=rfl
 have q0:([3]:List Nat)[0]?.getD 0=3:=rfl
 simp only[B5]at hL
 simp[q2w,He,B5,hlen]
 simp only[He,B5]at hck
 refine A4 hck rfl ?_
 simp
 refine A4 hi1 rfl ?_
 simp[hlen,sV]
 refine⟨by omega,by omega,A4 hi2 rfl ?_⟩
 simp[i0,sV,hH]
 refine⟨by omega,by omega,[3],by simp,.t (.tup [tI TH.data.toList.length,.v .nilIface]),_,by simp[i0];exact hw,by simp[Qf,Aj.sh],?_⟩
 simp[b0,b1,i0,q0,Fp,Nl,Ed,hlen]
 refine hL _ ?_
 simp[j0,j1]
 refine⟨[3,900],by simp,_,[],by simp[j0,j1];exact hst,by simp[Qf],?_⟩
 simp[q2x]
end Go.Lg
namespace Go.Lg
open Go
theorem q0j (n:Int) (c:UInt8) (h:c=10\/c=32):c∉Lib.itoa n:=fun hm=>by
 have:=qB5 n c hm
 rcases h with rfl|rfl<;>rcases this with h|h<;>revert h<;>decide
def lnC (c:List Int):List UInt8:=Xa 32 ((c++[0]).map Lib.itoa)
theorem qCB:∀ (c:List Int),lnC c=Jc Bf c++[48]
 | []=>by
  show Lib.itoa 0=[48]
  unfold Lib.itoa
  rw[if_neg (by decide),Lib.decDigits,dif_pos (by decide)]
  rfl
 | x::c=>by
  have ih:=qCB c
  have hne:(c++[0]).map Lib.itoa≠[]:=by simp
  have:lnC (x::c)=Lib.itoa x++32::lnC c:=by
   unfold lnC
   rw[List.cons_append,List.map_cons]
   cases h:(c++[0]).map Lib.itoa with
   | nil=>exact absurd h hne
   | cons y l=>rfl
  rw[this,ih]
  have hp:(pce Bf x).data.toList=Lib.itoa x++[32]:=by
   unfold pce
   rw[<- Yd]
   simp
  have hc:Jc Bf (x::c)=(pce Bf x).data.toList++Jc Bf c:=rfl
  rw[hc,hp];simp
theorem qB7 (c:List Int):clT c=lnC c++[10]:=by rw[qCB];simp[clT]
theorem qJB (c:List Int):(10:UInt8)∉lnC c:=by
 unfold lnC
 have:∀ l:List (List UInt8),(∀ w∈l,(10:UInt8)∉w)->(10:UInt8)∉Xa 32 l:=by
  intro l
  induction l with
  | nil=>simp[Xa]
  | cons x l ih =>
   intro h
   cases l with
   | nil=>exact h x (List.mem_cons_self ..)
   | cons y l =>
    have h1:=ih fun w hw=>h w (List.mem_cons_of_mem _ hw)
    show(10:UInt8)∉x++32::Xa 32 (y::l)
    rw[List.mem_append,List.mem_cons]
    rintro(h2|h2|h2)
    ·exact h x (List.mem_cons_self ..) h2
    ·cases h2
    ·exact h1 h2
 exact this _ fun w hw=>by
  obtain⟨n,_,rfl⟩:=List.mem_map.1 hw
  exact q0j n 10 (.inl rfl)
theorem q7i:∀ (cs:List (List Int)),Ap 10 (txB cs)=cs.map lnC++[[]]
 | []=>rfl
 | c::cs=>by
  have:txB (c::cs)=lnC c++10::txB cs:=by
   show clT c++txB cs=_
   rw[qB7];simp
  rw[this,Xb 10 _ _ (qJB c),q7i cs]
  rfl
theorem qJC (c:List Int) (h:∀ n∈c,Vv n):clW (lnC c)=some c:=by
 unfold clW lnC
 rw[q66 32 _ (by simp) fun w hw=>by
  obtain⟨n,_,rfl⟩:=List.mem_map.1 hw
  exact q0j n 32 (.inr rfl),q1w (c++[0]) fun n hn=>by
  rcases List.mem_append.1 hn with h1|h1
  ·exact h n h1
  ·simp at h1;subst h1;unfold Vv;omega]
 simp
theorem qCC:∀ (cs:List (List Int)),(∀ c∈cs,∀ n∈c,Vv n)->Uf (cs.map lnC)=some cs
 | [],_=>rfl
 | c::cs,h=>by
  simp only[List.map_cons,Uf,qJC c (h c (List.mem_cons_self ..)),qCC cs fun c hc=>h c (List.mem_cons_of_mem _ hc)]
  rfl
theorem q2y (f:Cf):(txH f).data.toList=(pfx++Lib.itoa f.vars++32::Lib.itoa f.cls.l.length)++[10]:=by
 unfold txH
 rw[<- Yd,<- Yd]
 simp[pfx]
theorem qB8 (f:Cf):f.L.length=f.cls.l.length:=by simp[Cf.L]
theorem qB9 (f:Cf):Ap 10 (txL f)=(pfx++Lib.itoa f.vars++32::Lib.itoa f.cls.l.length)::(f.L.map lnC++[[]]):=by
 unfold txL
 rw[q2y,List.append_assoc,List.singleton_append,Xb 10 _ _ ?_,q7i]
 intro hm
 rw[List.mem_append,List.mem_append,List.mem_cons]at hm
 rcases hm with(hm|hm)|hm|hm
 ·revert hm;decide
 ·exact q0j _ 10 (.inl rfl) hm
 ·cases hm
 ·exact q0j _ 10 (.inl rfl) hm
theorem qHF (cs:List (List Int)):(Cf.mk 0 ⟨cs.map slC,none,none⟩).L=cs:=by
 unfold Cf.L
 rw[List.map_map]
 conv=>rhs;rw[<- List.map_id cs]
 rfl
theorem qGX (v:Int) (s t:Sl (Sl Int)) (h:s.l.map (·.l)=t.l.map (·.l)):Jz ⟨v,s⟩=Jz ⟨v,t⟩:=by
 have h2:s.l.length=t.l.length:=by have:=congrArg List.length h;simpa using this
 unfold Jz Cf.L
 simp only[h,h2]
theorem qBA (f:Cf) (hv:Vv f.vars) (hl:∀ c∈f.L,∀ n∈c,Vv n) (hn:Vv f.cls.l.length) (he:Jz f=0):Tu (txL f)=some (f.vars,f.L):=by
 unfold Tu
 rw[qB9]
 have hc:Yc pfx (pfx++Lib.itoa f.vars++32::Lib.itoa f.cls.l.length)=(Lib.itoa f.vars++32::Lib.itoa f.cls.l.length,true):=by
  unfold Yc
  rw[List.append_assoc,List.take_left,List.drop_left]
  simp
 have hnum:En (Ap 32 (Lib.itoa f.vars++32::Lib.itoa f.cls.l.length))=some [f.vars,f.cls.l.length]:=by
  rw[Xb 32 _ _ (q0j _ 32 (.inr rfl)),q3v 32 _ (q0j _ 32 (.inr rfl))]
  exact q1w [f.vars,f.cls.l.length] fun n hn'=>by
   simp at hn';rcases hn' with rfl|rfl
   ·exact hv
   ·exact hn
 have hmid:List.take ((pfx++Lib.itoa f.vars++32::Lib.itoa f.cls.l.length)::(f.L.map lnC++[[]])).length.pred.pred (List.drop 1 ((pfx++Lib.itoa f.vars++32::Lib.itoa f.cls.l.length)::(f.L.map lnC++[[]])))=f.L.map lnC:=by
  simp
 have hlen:((pfx++Lib.itoa f.vars++32::Lib.itoa f.cls.l.length)::(f.L.map lnC++[[]])).length=f.cls.l.length+2:=by simp[qB8]
 simp only[List.head?_cons,Option.getD_some,hc,hnum,hlen]
 rw[if_pos ⟨by simp[List.getLast?_cons],by omega⟩]
 have e2:f.cls.l.length+2-2=f.L.length:=by rw[qB8];omega
 have e3:List.take (f.cls.l.length+2-2) (List.drop 1 ((pfx++Lib.itoa f.vars++32::Lib.itoa f.cls.l.length)::(f.L.map lnC++[[]])))=f.L.map lnC:=by
  rw[e2];simp
 rw[e3,qCC f.L hl]
 simp only
 rw[if_pos ?_]
 rw[<- he]
 have hid:(f.L.map slC).map (·.l)=f.cls.l.map (·.l):=by
  rw[List.map_map]
  conv=>rhs;rw[<- List.map_id (f.cls.l.map (·.l))]
  rfl
 exact qGX f.vars _ f.cls hid
theorem qF0 {w:List UInt8} {c:List Int} (h:clW w=some c):w=lnC c/\∀ n∈c,Vv n:=by
 unfold clW at h
 split at h
 ·rename_i l hl
  split at h
  ·rename_i h0
   simp only[Option.some.injEq]at h
   obtain⟨h1,h2⟩:=Tt hl
   have hne:l≠[]:=by
    intro e;subst e
    have:=Xe hl
    exact Rx 32 w (List.length_eq_zero_iff.1 this.symm)
   have hlast:l.getLast hne=0:=by
    rw[List.getLast?_eq_some_getLast hne]at h0;exact h0
   have hd:=List.dropLast_concat_getLast hne
   rw[h,hlast]at hd
   refine⟨?_,fun n hn=>h2 n (by rw[<- hd];simp[hn])⟩
   unfold lnC
   rw[hd,<- h1,Qd]
  ·cases h
 ·cases h
theorem q7j:∀ {ws:List (List UInt8)} {cs:List (List Int)},Uf ws=some cs->ws=cs.map lnC/\∀ c∈cs,∀ n∈c,Vv n
 | [],cs,h=>by simp only[Uf,Option.some.injEq]at h;subst h;exact⟨rfl,fun n h=>by cases h⟩
 | w::ws,cs,h=>by
  simp only[Uf]at h
  split at h
  ·rename_i v hv
   simp only[Option.map_eq_some_iff]at h
   obtain⟨l',hl,rfl⟩:=h
   obtain⟨h1,h2⟩:=q7j hl
   obtain⟨h3,h4⟩:=qF0 hv
   refine⟨by rw[List.map_cons,<- h3,<- h1],fun c hc=>?_⟩
   rcases List.mem_cons.1 hc with rfl|hc
   ·exact h4
   ·exact h2 c hc
  ·cases h
theorem q6E:∀ (x:List UInt8) (cs:List (List Int)),Xa 10 (x::(cs.map lnC++[[]]))=x++10::txB cs
 | x,[]=>rfl
 | x,c::cs=>by
  have ih:=q6E (lnC c) cs
  show x++10::Xa 10 (lnC c::(cs.map lnC++[[]]))=_
  rw[ih]
  have:txB (c::cs)=lnC c++10::txB cs:=by
   show clT c++txB cs=_
   rw[qB7];simp
  rw[this]
theorem qBB {s:List UInt8} {v:Int} {cs:List (List Int)} (h:Tu s=some (v,cs)):txL ⟨v,⟨cs.map slC,none,none⟩⟩=s/\Jz ⟨v,⟨cs.map slC,none,none⟩⟩=0/\Vv v/\∀ c∈cs,∀ n∈c,Vv n:=by
 unfold Tu at h
 have hj:=Qd 10 s
 have hne:=Rx 10 s
 generalize Ap 10 s=ls at *
 split at h
 case h_2=>cases h
 rename_i hd hcut
 split at h
 case h_2=>cases h
 rename_i v n hnum
 split at h
 case isFalse=>cases h
 rename_i hln
 obtain⟨hlast,hn⟩:=hln
 split at h
 case h_2=>cases h
 rename_i cs' hcls
 split at h
 case isFalse=>cases h
 rename_i hce
 simp only[Option.some.injEq,Prod.mk.injEq]at h
 obtain⟨e1,e2⟩:=h
 subst e1;subst e2
 obtain⟨h1,h2⟩:=q7j hcls
 obtain⟨h3,h4⟩:=Tt hnum
 have hjd:=Qd 32 hd
 rw[h3]at hjd
 have hjd:Lib.itoa v++32::Lib.itoa n=hd:=hjd
 have hhd:ls.head?.getD []=pfx++hd:=by
  unfold Yc at hcut
  split at hcut
  ·rename_i ht
   simp only[Prod.mk.injEq,and_true]at hcut
   rw[<- List.take_append_drop pfx.length (ls.head?.getD []),ht,hcut]
  ·simp at hcut
 have hl2:2<=ls.length:=by
  rcases Nat.lt_or_ge ls.length 2 with h5|h5
  ·exfalso
   match ls,hne,h5,hlast,hcut with
   | [x],_,_,hlast,hcut =>
    simp at hlast
    subst hlast
    simp[Yc,pfx]at hcut
  ·exact h5
 have hcl:=q6A hcls
 have hmn:((ls.drop 1).take (ls.length-2)).length=ls.length-2:=by simp;omega
 rw[hmn]at hcl
 have hls:ls=(pfx++hd)::(cs'.map lnC++[[]]):=by
  match ls,hl2,hhd,h1,hlast with
  | x::rest,hl2,hhd,h1,hlast =>
   simp at hhd
   subst hhd
   congr 1
   simp at h1
   rw[<- h1]
   have hr:rest≠[]:=by intro e;subst e;simp at hl2
   have hlast2:rest.getLast hr=[]:=by
    rw[List.getLast?_cons,Option.getD_some]at hlast
    rw[List.getLast?_eq_some_getLast hr]at hlast
    simpa using hlast
   have:=List.dropLast_concat_getLast hr
   rw[hlast2]at this
   rw[<- this]
   congr 1
   rw[List.dropLast_eq_take]
   simp
 rw[hls,q6E]at hj
 refine⟨?_,hce,h4 v (by simp),h2⟩
 unfold txL
 rw[q2y,<- hj,<- hjd]
 have hL:(Cf.mk v ⟨cs'.map slC,none,none⟩).L=cs':=qHF cs'
 rw[hL]
 have hn2:n=((cs'.map slC).length:Int):=by rw[List.length_map,hcl];omega
 rw[hn2]
 simp
end Go.Lg
namespace Go.Lg
open Go Go.Proofs
variable {Γ:Tables}
theorem q9i {Q:AX->St->Prop} (a b:Cf) (i:Nat) (hi:i<a.cls.l.length) (hib:i<b.cls.l.length) (x y:Sl Int) (hx:a.cls.l.getD i ⟨[],none,none⟩=x) (hy:b.cls.l.getD i ⟨[],none,none⟩=y) (hxy:x.l=y.l) (hn:x.l.length<=1000000000) (hm:a.cls.l.length<=1000000000)
  (h0:Q (.exit 2) ⟨[(2,.t (.ip (He a) 0)),(3,.t (.ip (He b) 0)),(5,.t (tI i)),(6,.t (tI x.l.length)),(48,.t (tB false))],[]⟩):∀ (k j:Nat),k+j=x.l.length ->
  run Tryz.prog Γ O3 Q ⟨[(2,.t (.ip (He a) 0)),(3,.t (.ip (He b) 0)),(5,.t (tI i)),(6,.t (tI j))],[]⟩
 | 0,j,hk=>by
  refine Tn fun K hK=>?_
  have hj:j=x.l.length:=by omega
  subst hj
  have la:(Ak Bh a.cls.l).length=a.cls.l.length:=A3
  have ga:=elC (f:=Bh) (l:=a.cls.l) ⟨[],none,none⟩ hi
  have ga':=Qi (f:=Bh) (l:=a.cls.l) ⟨[],none,none⟩ hi
  rw[hx]at ga ga'
  have lx:(Bc x.l).length=x.l.length:=A3
  simp(disch:=omega) [He,B5,Bh,la,ga,ga',lx,Aa,hi]
  simpa[He,B5,Bh]using h0
 | k+1,j,hk=>by
  refine Tn fun K hK=>?_
  have ih:=q9i a b i hi hib x y hx hy hxy hn hm h0 k (j+1) (by omega)
  have hj:j<x.l.length:=by omega
  have hjy:j<y.l.length:=by rw[<- hxy];exact hj
  have la:(Ak Bh a.cls.l).length=a.cls.l.length:=A3
  have lb:(Ak Bh b.cls.l).length=b.cls.l.length:=A3
  have ga:=elC (f:=Bh) (l:=a.cls.l) ⟨[],none,none⟩ hi
  have ga':=Qi (f:=Bh) (l:=a.cls.l) ⟨[],none,none⟩ hi
  have gb:=elC (f:=Bh) (l:=b.cls.l) ⟨[],none,none⟩ hib
  have gb':=Qi (f:=Bh) (l:=b.cls.l) ⟨[],none,none⟩ hib
  rw[hx]at ga ga'
  rw[hy]at gb gb'
  have lx:(Bc x.l).length=x.l.length:=A3
  have ly:(Bc y.l).length=x.l.length:=by rw[<- hxy];exact A3
  have gx:=elC (f:=tI) (l:=x.l) 0 hj
  have gx':=Qi (f:=tI) (l:=x.l) 0 hj
  have gy:=elC (f:=tI) (l:=y.l) 0 hjy
  have gy':=Qi (f:=tI) (l:=y.l) 0 hjy
  rw[<- hxy]at gy gy' ly
  have w1:IntKind.i64.wrap ((j:Int)+1)=((j+1:Nat):Int):=by rw[A5]<;>omega
  have hc:(j:Int)<x.l.length:=by omega
  have hyc:=hxy
  obtain⟨yl,yc,yn⟩:=y
  simp only at hyc
  subst hyc
  generalize x.l.getD j 0=z at *
  simp(disch:=omega) [He,B5,Bh,la,lb,ga,ga',gb,gb',lx,gx,gx',Aa,hi,hib,hj,hc,w1]
  rw[hK]
  simpa[He,B5,Bh]using ih
theorem q9j {Q:AX->St->Prop} (a b:Cf) (hL:a.L=b.L) (hm:a.cls.l.length<=1000000000) (hn:∀ c∈a.cls.l,c.l.length<=1000000000)
  (h0:Q (.exit 0) ⟨[(2,.t (.ip (He a) 0)),(3,.t (.ip (He b) 0)),(5,.t (tI a.cls.l.length)),(25,.t (tB false))],[]⟩):∀ (k i:Nat),k+i=a.cls.l.length ->
  run Tryz.prog Γ O4 Q ⟨[(2,.t (.ip (He a) 0)),(3,.t (.ip (He b) 0)),(5,.t (tI i))],[]⟩
 | 0,i,hk=>by
  refine To fun K hK=>?_
  have hi:i=a.cls.l.length:=by omega
  subst hi
  have la:(Ak Bh a.cls.l).length=a.cls.l.length:=A3
  simp(disch:=omega) [He,B5,Bh,la]
  simpa[He,B5,Bh]using h0
 | k+1,i,hk=>by
  refine To fun K hK=>?_
  have ih:=q9j a b hL hm hn h0 k (i+1) (by omega)
  have hi:i<a.cls.l.length:=by omega
  have hlen:a.cls.l.length=b.cls.l.length:=by have:=congrArg List.length hL;simpa[Cf.L]using this
  have hib:i<b.cls.l.length:=by omega
  have la:(Ak Bh a.cls.l).length=a.cls.l.length:=A3
  have lb:(Ak Bh b.cls.l).length=b.cls.l.length:=A3
  have ga:=elC (f:=Bh) (l:=a.cls.l) ⟨[],none,none⟩ hi
  have ga':=Qi (f:=Bh) (l:=a.cls.l) ⟨[],none,none⟩ hi
  have gb:=elC (f:=Bh) (l:=b.cls.l) ⟨[],none,none⟩ hib
  have gb':=Qi (f:=Bh) (l:=b.cls.l) ⟨[],none,none⟩ hib
  have hxy:(a.cls.l.getD i ⟨[],none,none⟩).l=(b.cls.l.getD i ⟨[],none,none⟩).l:=by
   have h1:a.L[i]? = b.L[i]? := by rw[hL]
   simp only[Cf.L,List.getElem?_map,List.getElem?_eq_getElem hi,List.getElem?_eq_getElem hib,Option.map_some,Option.some.injEq]at h1
   simpa[List.getD_eq_getElem?_getD,hi,hib]using h1
  have hz:=hn _ (Dp (d:=⟨[],none,none⟩) hi)
  have w1:IntKind.i64.wrap ((i:Int)+1)=((i+1:Nat):Int):=by rw[A5]<;>omega
  have hc:(i:Int)<a.cls.l.length:=by omega
  have hI:=fun Q h0=>q9i (Γ:=Γ) (Q:=Q) a b i hi hib _ _ rfl rfl hxy hz hm h0 _ 0 (Nat.add_zero _)
  generalize a.cls.l.getD i ⟨[],none,none⟩=x at *
  generalize b.cls.l.getD i ⟨[],none,none⟩=y at *
  have lx:(Bc x.l).length=x.l.length:=A3
  have ly:(Bc y.l).length=x.l.length:=by rw[<- hxy];exact A3
  simp(disch:=omega) [He,B5,Bh,la,lb,ga,ga',gb,gb',lx,ly,Aa,hi,hib,hc,w1]
  simp only[He,B5]at hI
  refine hI _ ?_
  simp(disch:=omega) [w1]
  rw[hK]
  simpa[He,B5,Bh]using ih
theorem qBC (a b:Cf) (hv:a.vars=b.vars) (hL:a.L=b.L) (hm:a.cls.l.length<=1000000000) (hn:∀ c∈a.cls.l,c.l.length<=1000000000):A6 Tryz.prog Γ 9 [.agg (He a),.agg (He b)] (tB true):=by
 refine Af q4d rfl ?_
 have hlen:a.cls.l.length=b.cls.l.length:=by have:=congrArg List.length hL;simpa[Cf.L]using this
 have la:(Ak Bh a.cls.l).length=a.cls.l.length:=A3
 have lb:(Ak Bh b.cls.l).length=a.cls.l.length:=by rw[hlen];exact A3
 have hI:=fun Q h0=>q9j (Γ:=Γ) (Q:=Q) a b hL hm hn h0 _ 0 (Nat.add_zero _)
 simp only[He,B5]at hI
 simp[q0I,He,B5,la,lb,hv]
 rw[hv]at hI
 refine hI _ ?_
 simp[q0J]
end Go.Lg
