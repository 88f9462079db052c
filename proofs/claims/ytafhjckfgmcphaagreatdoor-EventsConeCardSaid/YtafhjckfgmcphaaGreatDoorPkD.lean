/- Plain data as trees, and how calls are taken. Conditions: none. -/
import Derived.Test.YtafhjckfgmcphaaGreatDoorPkC
import Derived.Test.YtafhjckfgmcphaaGreatDoorProg
import Derived.KernelRfl
import Derived.Lib.Bytealg
import Derived.Test.YtafhjckfgmcphaaGreatDoorRows
import Derived.Test.YtafhjckfgmcphaaGreatDoorCards
import Derived.Test.YtafhjckfgmcphaaGreatDoorTie
import Derived.ProofKit
import Derived.Deep.DeepHandedRow
import Derived.SevenTiedAt
set_option linter.unusedSimpArgs false
set_option linter.unusedVariables false
namespace Go.Lg
open Go
attribute [simp] D9 C7 T.one AV.one Value.oneCell' Dp G3 F8 Ar Xp ret qE4
@[simp] theorem qH6 (a b:Int):(a==b)=decide (a=b):=rfl
@[simp] theorem qMB (a b:Int):(a != b)=!decide (a=b):=rfl
@[simp] theorem qMC (s:List UInt8):(ByteArray.mk s.toArray).size=s.length:=by simp[ByteArray.size]
def An {α:Type} (f:α->T) (l:List α):List (List T):=l.map fun n=>[f n]
theorem A5 {α:Type} {f:α->T} {l:List α}:(An f l).length=l.length:=by simp[An]
theorem Cm {α:Type} {f:α->T} {l:List α} {i:Nat} (d:α) (h:i<l.length):(An f l)[i]?.getD []=[f (l[i]?.getD d)]:=by simp[An,h]
theorem Aa {α:Type} {f:α->T} {l:List α}:Es 1 (An f l):=by
 intro e he;obtain⟨x,_,rfl⟩:=xqy.1 he;rfl
theorem q8u {α:Type} {f:α->T} {l:List α} {n:Nat}:(An f l).take n=An f (l.take n):=by simp[An,List.map_take]
theorem I8 {α:Type} {f:α->T} {l:List α} {n:Nat} {x:α}:(An f l).set n [f x]=An f (l.set n x):=by simp[An,List.map_set]
theorem Pn {α:Type} {f:α->T}:An f []=[]:=rfl
@[simp] theorem qH7 {s:Nat}:Es s []:=fun e h=>by cases h
def Bo {α:Type} (f:α->List T) (l:List α):List (List T):=l.map f
theorem Ab {α:Type} {f:α->List T} {l:List α}:(Bo f l).length=l.length:=by simp[Bo]
theorem Eb {α:Type} {f:α->List T} {l:List α} {i:Nat} (d:α) (h:i<l.length):(Bo f l)[i]?.getD []=f (l[i]?.getD d):=by simp[Bo,h]
theorem q48 {α:Type} {f:α->List T} {l:List α} {s:Nat} (h:∀ x,(f x).length=s):Es s (Bo f l):=by
 intro e he;obtain⟨x,_,rfl⟩:=xqy.1 he;exact h x
theorem q1N {α:Type} {f:α->List T} {l m:List α}:Bo f l++Bo f m=Bo f (l++m):=by simp[Bo]
@[simp] theorem q8H {α:Type} {f:α->T} {l:List α}:(An f l).take l.length=An f l:=by rw[xqw (by simp[An])]
theorem Gy {α:Type} {f:α->T} {l:List α} {x:α}:An f l++[[f x]]=An f (l++[x]):=by simp[An]
@[simp] theorem qGc {α:Type} {f:α->List T} {l:List α}:(Bo f l).take l.length=Bo f l:=by rw[xqw (by simp[Bo])]
theorem q2M {α:Type} {f:α->List T} {l:List α} {x:α}:Bo f l++[f x]=Bo f (l++[x]):=by simp[Bo]
structure Sl (α:Type) where
 l:List α
 cap:Option Nat
 nl:Option Bool
abbrev tI (n:Int):T:=.v (.int .i64 n)
abbrev tK (n:Int):T:=.v (.int .u8 n)
abbrev tB (b:Bool):T:=.v (.bool b)
abbrev Av (l:List Int):List (List T):=An tI l
def B8 (s:Sl Int):T:=.sl (Av s.l) s.cap s.nl
@[simp] theorem qJI {cs:List AV}:S9 (.bx cs)=∀ c∈cs,F8 c:=rfl
@[simp] theorem qJJ {s:ByteArray} {p:Nat}:S9 (.it s p)=True:=rfl
@[simp] theorem qI4 {ty s:Nat}:S9 (.sl ty s [])=True:=by simp[S9]
theorem q0I {α:Type} {f:α->T} {l:List α} {ty s:Nat} (h:∀ x,Ar (f x)=true):S9 (.sl ty s (An f l)):=by
 intro e he t ht
 obtain⟨x,_,rfl⟩:=xqy.1 he
 simp only[xzh]at ht;subst ht;exact h x
@[simp] theorem qKW {l:List Int} {ty s:Nat}:S9 (.sl ty s (An tI l))=True:=eq_true (q0I fun _=>rfl)
@[simp] theorem qKX {l:List Int} {ty s:Nat}:S9 (.sl ty s (An tK l))=True:=eq_true (q0I fun _=>rfl)
@[simp] theorem qKY {l:List Bool} {ty s:Nat}:S9 (.sl ty s (An tB l))=True:=eq_true (q0I fun _=>rfl)
section
variable {P:Program} {Γ:Tables} {hp:List (Nat×Aw)} {f:FuncId} {avs:List AV} {K:T->Prop} {ts:List T} {res:T}
theorem B6 (h:B9 P Γ f ts res) (ht:Ag (avs.map toT)=some ts) (hk:K res):q5m P Γ hp f avs K ⟨⟩:=⟨res,.inl ⟨ts,ht,h⟩,hk⟩
theorem A4 (h:A7 P Γ f ts res) (ht:Ag (avs.map (Aj hp 4))=some ts) (hk:K res):q5m P Γ hp f avs K ⟨⟩:=⟨res,.inr ⟨ts,ht,h⟩,hk⟩
theorem Cc {ic:IC} {N n:Nat} {rvs:List RV} {args:List T} (hc:Bc P f ic N n rvs=true) (hn:args.length=n) (h:run P Γ ic (ret false rvs fun r=>r=res) ⟨params 0 args,[]⟩):B9 P Γ f args res:=by
 obtain⟨r,h1,rfl⟩:=run_pure hc hn h;exact h1
theorem Ac {ic:IC} {N n:Nat} {rvs:List RV} {args:List T} (hc:Bc P f ic N n rvs=true) (hn:args.length=n) (h:run P Γ ic (ret true rvs fun r=>r=res) ⟨params 0 args,[]⟩):A7 P Γ f args res:=by
 obtain⟨r,h1,rfl⟩:=q8r hc hn h;exact h1
theorem Ee {ic:IC} {N n:Nat} {rvs:List RV} {args:List AV} {r0:AV} {hp':List (Nat×Aw)} (hc:Bc P f ic N n rvs=true) (hn:args.length=n) (h:run P Γ ic (qE4 rvs fun r h=>r=r0/\h=hp') ⟨q6A 0 args,hp⟩):Bf P Γ f hp args r0 hp':=by
 obtain⟨r,h',h1,rfl,rfl⟩:=q47 hc hn h;exact h1
end
end Go.Lg
namespace Go.Lg
open Go
section
variable {P:Program} {Γ:Tables} {Q:AX->St->Prop} {s:St}
/- probecard/netlists.Check (function 133) -/
abbrev qMt:IC:=(.seq (.reg [od 1 (.box true (tm 0)),od 2 (.mv (ki 0))] [kp [1] []]) (.seq (.reg [od 6 (lG 4 1),od 7 (.call 40 [(tm 6)]),om 5 7,od 8 (ex 5 0),od 9 (ex 5 1),om 3 8,om 4 9] [kp [4] []]) (.seq (.reg [om 10 4,om 2 10] [kp [2]
 []]) .ret)))
def qMu:List RV:=[.tmp 2]
/- probecard/netlists.Of (function 102) -/
abbrev q1O:IC:=.gh (.seq (.reg [od 12 (.bin .lss (tm 11) (tm 10))] [kp [1,5,9,10,11,12] [23]]) (.seq (.cond (tm 12) .skip (.exit 0)) (.seq (.block 1 (.seq (.reg [om 13 11,od 14 (ia 4 9 11),od 15 (lG 4 14),od 7 (.alloc false [(.int .u8 0),
 (.slice none 0 0),(.int .i64 0),(.int .i64 0)]),om 6 13,on (.store 4 (tm 7) (tm 15))] [kp [1,5,6,7,9,10,11] [7,23]]) (.seq (.reg [om 16 1,od 17 (fa 0 7),od 18 (ld 1 17),od 19 (.call 159 [(tm 16),(tm 18)])] [kp [1,5,
 6,9,10,11,19] [23]]) (.cond (tm 19) (.reg [om 20 5,om 21 6,od 22 (.bsl true 3 1 [(tm 21)]),od 23 (.app false 3 1 (tm 20) (tm 22)),om 5 23] [kp [1,5,9,10,11] [23]]) .skip)))) (.reg [od 24 (.bin .add (tm 11) (ki 1)),om
 11 24] [kp [1,5,9,10,11] [23]])))) [kp [1,5,9,10,11] [23]]
def Po:IC:=.loop q1O
abbrev q1P:IC:=(.seq (.reg [od 2 (.box true (tm 0)),od 4 (.mv kN)] [kp [1,2] []]) (.seq (.reg [od 5 (.mv kN)] [.nl 5 23 3 1,kp [1,2,5] [23]]) (.seq (.seq (.reg [od 8 (fa 0 2),od 9 (ld 1 8),od 10 (le 0 9),od 11 (.mv (ki 0))] [kp [1,5,9,
 10,11] [23]]) (.block 0 Po)) (.seq (.reg [om 25 5,od 26 (.hcall 49 [(tm 25)] [23] 26000),om 4 26] [kp [4] [23]]) .ret))))
theorem Wh (h:∀ K:St->Prop,K=run P Γ Po Q->run P Γ q1O (B0 K Q) s):run P Γ Po Q s:=Am h
def q1Q:List RV:=[.tmp 4]
/- probecard/netlists.States (function 39) -/
abbrev Wi:IC:=(.seq (.reg [od 1 (.box true (tm 0)),od 2 (.mv kN)] [kp [1] []]) (.seq (.reg [od 3 (lG 4 1),od 4 (.bsl true 48 1 [(ku 14)]),od 5 (.call 102 [(tm 3),(tm 4)]),om 2 5] [kp [2] []]) .ret))
def Wj:List RV:=[.tmp 2]
/- probecard/netlists.Comb (function 14) -/
abbrev Z3:IC:=(.seq (.reg [od 2 (.mv kF)] [kp [0] []]) (.seq (.reg [om 3 0,od 4 (.bin .geq (tm 3) (ku 1)),om 5 4,oT 6 (.mv (tm 0)) 5,oT 7 (.bin .leq (tm 6) (ku 13)) 5,od 8 (.pick (tm 5) (tm 7) kF),om 2 8] [kp [2] []]) .ret))
def Z4:List RV:=[.tmp 2]
/- slices.Clip[[]int,int] (function 49) -/
abbrev O6:IC:=(.seq (.reg [od 2 (.mv kN)] [kp [0] [1000000]]) (.seq (.reg [om 3 0,om 4 0,od 5 (le 0 4),om 6 0,od 7 (le 0 6),od 8 (.slice 1 (tm 3) none (some (tm 5)) (some (tm 7))),om 2 8] [kp [2] [1000000]]) .ret))
def O7:List RV:=[.tmp 2]
/- probecard/netlists.Levels (function 40) -/
def Fh:List RO:=[om 45 6,om 46 8,od 47 (ia 1 45 46),od 48 (ld 1 47),od 49 (.bin .eql (tm 48) (ki 0))]
def N6:List RO:=[om 50 7,om 51 8,od 52 (.bsl true 3 1 [(tm 51)]),od 53 (.app false 3 1 (tm 50) (tm 52)),om 7 53]
def N7:List RO:=[od 54 (.bin .add (tm 31) (ki 1)),om 31 54]
abbrev Wl:IC:=.gh (.seq (.reg [od 32 (.bin .lss (tm 31) (tm 30))] [kp [1,5,6,7,29,30,31,32] [23,27,53]]) (.seq (.cond (tm 32) .skip (.exit 0)) (.seq (.block 1 (.seq (.reg [om 33 31,od 34 (ia 4 29 31),od 35 (lG 4 34),od 9 (.alloc
 false [(.int .u8 0),(.slice none 0 0),(.int .i64 0),(.int .i64 0)]),om 8 33,on (.store 4 (tm 9) (tm 35))] [kp [1,5,6,7,8,9,29,30,31] [9,23,27,53]]) (.seq (.seq (.reg [od 36 (fa 0 9),od 37 (ld 1 36),od 38 (.call 14
 [(tm 37)])] [kp [1,5,6,7,8,9,29,30,31,38] [9,23,27,53]]) (.cond (tm 38) (.reg [om 39 6,om 40 8,od 41 (fa 1 9),od 42 (ld 1 41),od 43 (le 0 42),od 44 (ia 1 39 40),on (.store 1 (tm 44) (tm 43))] [kp [1,5,6,7,8,
 29,30,31] [23,27,53]]) .skip)) (.seq (.reg Fh [kp [1,5,6,7,8,29,30,31,49] [23,27,53]]) (.cond (tm 49) (.reg N6 [kp [1,5,6,7,29,30,31] [23,27,53]]) .skip))))) (.reg
 N7 [kp [1,5,6,7,29,30,31] [23,27,53]])))) [kp [1,5,6,7,29,30,31] [23,27,53]]
def Iw:IC:=.loop Wl
abbrev Wm:IC:=.gh (.seq (.reg [od 79 (.bin .lss (tm 78) (tm 77))] [kp [1,5,6,7,10,11,12,76,77,78,79] [23,27,53]]) (.seq (.cond (tm 79) .skip (.exit 4)) (.seq (.block 5 (.seq (.reg [od 80 (ia 2 76 78),od 81 (lG 2 80),od 14 (.alloc
 false [(.int .i64 0),(.int .i64 0)]),on (.store 2 (tm 14) (tm 81))] [kp [1,5,6,7,10,11,12,14,76,77,78] [14,23,27,53]]) (.seq (.seq (.reg [od 82 (fa 0 1),od 83 (ld 1 82),od 84 (fa 0 14),od 85 (ld 1 84),od 86 (ia 4
 83 85),od 87 (fa 0 86),od 88 (ld 1 87),od 89 (.call 14 [(tm 88)]),od 90 (.un .not (tm 89))] [kp [1,5,6,7,10,11,12,14,76,77,78,90] [14,23,27,53]]) (.cond (tm 90) (.exit 5) .skip)) (.seq (.reg [om 91 5,od 92 (fa 0
 14),od 93 (.ldR 14 1 false (tm 92)),om 94 5,od 95 (fa 0 14),od 96 (.ldR 14 1 false (tm 95)),od 97 (ia 1 94 96),od 98 (.ldR 23 1 false (tm 97)),om 99 5,om 100 12,od 101 (ia 1 99 100),od 102 (.ldR 23 1 false (tm 101)),od
 103 (.bin .add (tm 102) (ki 1)),od 104 (.mmx true [(tm 98),(tm 103)]),od 105 (ia 1 91 93),on (.stR 23 1 (tm 105) (tm 104))] [kp [1,5,6,7,10,11,12,14,76,77,78] [14,23,27,53]]) (.seq (.reg [om 106 6,od 107 (fa 0
 14),od 108 (ld 1 107),od 109 (ia 1 106 108),od 110 (ld 1 109),od 111 (.bin .sub (tm 110) (ki 1)),od 112 (ia 1 106 108),on (.store 1 (tm 112) (tm 111))] [kp [1,5,6,7,10,11,12,14,76,77,78] [14,23,27,53]]) (.seq
 (.reg [om 113 6,od 114 (fa 0 14),od 115 (ld 1 114),od 116 (ia 1 113 115),od 117 (ld 1 116),od 118 (.bin .eql (tm 117) (ki 0))] [kp [1,5,6,7,10,11,12,14,76,77,78,118] [14,23,27,53]]) (.cond (tm 118) (.reg [om 119
 7,od 120 (fa 0 14),od 121 (ld 1 120),od 122 (.bsl true 3 1 [(tm 121)]),oz 123 (.app false 3 1 (tm 119) (tm 122)) 53,om 7 123] [kp [1,5,6,7,10,11,12,76,77,78] [23,27,53]]) .skip))))))) (.reg [od 124 (.bin .add (tm
 78) (ki 1)),om 78 124] [kp [1,5,6,7,10,11,12,76,77,78] [23,27,53]])))) [kp [1,5,6,7,10,11,12,76,77,78] [23,27,53]]
def Ix:IC:=.loop Wm
abbrev Wn:IC:=.gh (.seq (.seq (.reg [om 57 11,om 58 7,od 59 (le 0 58),od 60 (.bin .lss (tm 57) (tm 59))] [kp [1,5,6,7,10,11,60] [23,27,53]]) (.cond (tm 60) .skip (.exit 2))) (.block 3 (.seq (.reg [om 61 7,om 62 11,od 63 (ia 1 61
 62),od 64 (ld 1 63),om 12 64] [kp [1,5,6,7,10,11,12] [23,27,53]]) (.seq (.reg [om 65 11,od 66 (.bin .add (tm 65) (ki 1)),om 11 66] [kp [1,5,6,7,10,11,12] [23,27,53]]) (.seq (.seq (.reg [om 67 10,om 68 12,od 69
 (ia 1 67 68),od 70 (ld 1 69),od 71 (le 0 70),od 72 (.bin .eql (tm 71) (ki 0))] [kp [1,5,6,7,10,11,12,72] [23,27,53]]) (.cond (tm 72) (.exit 3) .skip)) (.seq (.reg [om 73 10,om 74 12,od 75 (ia 1 73 74),od 76 (ld 1
 75),od 77 (le 0 76),od 78 (.mv (ki 0))] [kp [1,5,6,7,10,11,12,76,77,78] [23,27,53]]) (.block 4 Ix))))))) [kp [1,5,6,7,10,11] [23,27,53]]
def Iy:IC:=.loop Wn
abbrev Wp:IC:=(.seq (.reg [od 1 (.box true (tm 0)),od 2 (.mv kN),od 3 (.mv (ki 0))] [kp [1] []]) (.scope (.seq (.seq (.reg [od 15 (lG 4 1),od 16 (.call 103 [(tm 15)]),om 4 16] [kp [1,4] []]) (.seq (.reg [om 17 4,od 18 (.bin .neq (tm 17)
 (ki 0))] [kp [1,4,18] []]) (.cond (tm 18) (.seq (.reg [om 19 4,od 2 (.mv kN),om 3 19] [kp [2,3] [23]]) .ret) .skip))) (.seq (.reg [od 20 (fa 0 1),od 21 (ld 1 20),od 22 (le 0 21),od 23 (.mk 3 1 [(.int .i64 0)] (tm 22) (tm
 22)),om 5 23] [kp [1,5] [23]]) (.seq (.reg [od 24 (fa 0 1),od 25 (ld 1 24),od 26 (le 0 25),od 27 (.mk 3 1 [(.int .i64 0)] (tm 26) (tm 26)),om 6 27] [kp [1,5,6] [23,27]]) (.seq (.reg [od 7 (.mv kN)] [.nl 7 53 3 1,kp [1,5,
 6,7] [23,27,53]]) (.seq (.seq (.reg [od 28 (fa 0 1),od 29 (ld 1 28),od 30 (le 0 29),od 31 (.mv (ki 0))] [kp [1,5,6,7,29,30,31] [23,27,53]]) (.block 0 Iw)) (.seq (.reg [od 55 (lG 4 1),od 56 (.call 41
 [(tm 55)]),om 10 56] [kp [1,5,6,7,10] [23,27,53]]) (.seq (.reg [od 11 (.mv (ki 0))] [kp [1,5,6,7,10,11] [23,27,53]]) (.seq .skip (.seq (.block 2 Iy) (.seq (.seq (.reg [om 125 11,od 126 (fa 0 1),od
 127 (ld 1 126),od 128 (le 0 127),od 129 (.bin .lss (tm 125) (tm 128))] [kp [5,129] [23]]) (.cond (tm 129) (.seq (.reg [od 2 (.mv kN),od 3 (.mv (ki 6))] [kp [2,3] [23]]) .ret) .skip)) (.seq (.reg [om 130 5,om 2 130,od 3 (.mv
 (ki 0))] [kp [2,3] [23]]) .ret)))))))))))))
theorem Pq (h:∀ K:St->Prop,K=run P Γ Iw Q->run P Γ Wl (B0 K Q) s):run P Γ Iw Q s:=Am h
theorem Pv (h:∀ K:St->Prop,K=run P Γ Ix Q->run P Γ Wm (B0 K Q) s):run P Γ Ix Q s:=Am h
theorem Px (h:∀ K:St->Prop,K=run P Γ Iy Q->run P Γ Wn (B0 K Q) s):run P Γ Iy Q s:=Am h
attribute [simp] Fh N6 N7
def Iz:List RV:=[.tmp 2,.tmp 3]
/- slices.Contains[[]probecard/api.Kind,probecard/api.Kind] (function 159) -/
abbrev Jq:IC:=(.seq (.reg [od 4 (.mv kF)] [kp [0,1] []]) (.seq (.reg [om 5 0,om 6 1,od 7 (.call 191 [(tm 5),(tm 6)]),od 8 (.bin .geq (tm 7) (ki 0)),om 4 8] [kp [4] []]) .ret))
def Jr:List RV:=[.tmp 4]
/- probecard/netlists.shape (function 103) -/
abbrev Xr:IC:=.gh (.seq (.reg [od 39 (.bin .lss (tm 38) (tm 37))] [kp [1,36,37,38,39] []]) (.seq (.cond (tm 39) .skip (.exit 1)) (.seq (.block 2 (.seq (.reg [od 40 (ia 4 36 38),od 41 (lG 4 40),od 4 (.alloc false [(.int .u8 0),(.slice none
 0 0),(.int .i64 0),(.int .i64 0)]),on (.store 4 (tm 4) (tm 41))] [kp [1,4,36,37,38] [4]]) (.seq (.reg [od 42 (lG 4 1),od 43 (lG 4 4),od 44 (.call 160 [(tm 42),(tm 43)]),om 5 44] [kp [1,5,36,37,38] []]) (.seq (.reg
 [om 45 5,od 46 (.bin .neq (tm 45) (ki 0))] [kp [1,5,36,37,38,46] []]) (.cond (tm 46) (.seq (.reg [om 47 5,om 2 47] [kp [2] []]) .ret) .skip))))) (.reg [od 48 (.bin .add (tm 38) (ki 1)),om 38 48] [kp [1,36,37,38] []]))))
 [kp [1,36,37,38] []]
def Js:IC:=.loop Xr
abbrev Xs:IC:=.gh (.seq (.reg [od 58 (.bin .lss (tm 57) (tm 56))] [kp [1,55,56,57,58] []]) (.seq (.cond (tm 58) .skip (.exit 3)) (.seq (.block 4 (.seq (.reg [od 59 (ia 3 55 57),od 60 (lG 3 59),od 8 (.alloc false [(.slice none 0 0),(.slice
 none 0 0),(.int .i64 0)]),on (.store 3 (tm 8) (tm 60))] [kp [1,8,55,56,57] [8]]) (.seq (.reg [od 61 (lG 4 1),od 62 (lG 3 8),od 63 (.call 162 [(tm 61),(tm 62)]),om 9 63] [kp [1,9,55,56,57] []]) (.seq (.reg [om 64 9,od
 65 (.bin .neq (tm 64) (ki 0))] [kp [1,9,55,56,57,65] []]) (.cond (tm 65) (.seq (.reg [om 66 9,om 2 66] [kp [2] []]) .ret) .skip))))) (.reg [od 67 (.bin .add (tm 57) (ki 1)),om 57 67] [kp [1,55,56,57] []])))) [kp [1,55,
 56,57] []]
def Jt:IC:=.loop Xs
abbrev F9:IC:=(.seq (.reg [od 1 (.box true (tm 0)),od 2 (.mv (ki 0))] [kp [1] []]) (.seq (.block 0 (.seq (.reg [od 11 (fa 0 1),od 12 (ld 1 11),od 13 (le 0 12),od 14 (.bin .gtr (tm 13) (ki 16384)),om 15 14,oF 16 (fa 2 1) 15,oF 17 (ld 1 16)
 15,oF 18 (le 0 17) 15,oF 19 (.bin .gtr (tm 18) (ki 16)) 15,od 20 (.pick (tm 15) kT (tm 19)),om 21 20,oF 22 (fa 3 1) 21,oF 23 (ld 1 22) 21,oF 24 (le 0 23) 21,oF 25 (.bin .gtr (tm 24) (ki 16384)) 21,od 26 (.pick (tm 21) kT
 (tm 25)),om 10 26] [kp [1,10] []]) (.cond (tm 10) (.seq (.reg [od 2 (.mv (ki 3))] [kp [2] []]) .ret) (.seq (.reg [od 28 (fa 1 1),od 29 (ld 1 28),od 30 (le 0 29),od 31 (fa 0 1),od 32 (ld 1 31),od 33 (le 0 32),od 34 (.bin
 .neq (tm 30) (tm 33)),om 27 34] [kp [1,27] []]) (.cond (tm 27) (.seq (.reg [od 2 (.mv (ki 8))] [kp [2] []]) .ret) .skip))))) (.seq (.seq (.reg [od 35 (fa 0 1),od 36 (ld 1 35),od 37 (le 0 36),od 38 (.mv (ki 0))] [kp [1,36,37,
 38] []]) (.block 1 Js)) (.seq (.seq (.reg [od 49 (lG 4 1),od 50 (.call 161 [(tm 49)]),om 6 50] [kp [1,6] []]) (.seq (.reg [om 51 6,od 52 (.bin .neq (tm 51) (ki 0))] [kp [1,6,52] []]) (.cond (tm 52) (.seq (.reg
 [om 53 6,om 2 53] [kp [2] []]) .ret) .skip))) (.seq (.seq (.reg [od 54 (fa 2 1),od 55 (ld 1 54),od 56 (le 0 55),od 57 (.mv (ki 0))] [kp [1,55,56,57] []]) (.block 3 Jt)) (.seq (.seq (.reg [od 68 (fa 3 1),od 69
 (ld 1 68),od 70 (lG 4 1),od 71 (.call 104 [(tm 70)]),od 72 (.call 163 [(tm 69),(tm 71)])] [kp [72] []]) (.cond (tm 72) (.seq (.reg [od 2 (.mv (ki 1))] [kp [2] []]) .ret) .skip)) (.seq (.reg [od 2 (.mv (ki 0))] [kp [2] []])
 .ret)))))))
theorem Qn (h:∀ K:St->Prop,K=run P Γ Js Q->run P Γ Xr (B0 K Q) s):run P Γ Js Q s:=Am h
theorem Qo (h:∀ K:St->Prop,K=run P Γ Jt Q->run P Γ Xs (B0 K Q) s):run P Γ Jt Q s:=Am h
def D5:List RV:=[.tmp 2]
/- probecard/netlists.Fanout (function 41) -/
def Ef:List RO:=[om 37 3,om 38 8,om 39 3,om 40 8,od 41 (ia 1 39 40),od 42 (ld 1 41),om 43 5,om 44 7,od 45 (.build [(1,(tm 43)),(1,(tm 44))]),od 46 (.bsl true 113 2 [(tm 45)]),od 47 (.app false 113 2 (tm 42) (tm 46)),od 48 (ia 1 37
 38),on (.store 1 (tm 48) (tm 47))]
def N8:List RO:=[od 49 (.bin .add (tm 28) (ki 1)),om 28 49]
abbrev Wq:IC:=.gh (.seq (.reg [od 29 (.bin .lss (tm 28) (tm 27))] [.keepB [3,4,5,18,19,20,26,27,28,29] [14] 100000 16384]) (.seq (.cond (tm 29) .skip (.exit 2)) (.seq (.block 3 (.seq (.reg [om 30 28,od 31 (ia 1 26 28),od 32 (ld 1 31),
 om 7 30,om 8 32] [.keepB [3,4,5,7,8,18,19,20,26,27,28] [14] 100000 16384]) (.seq (.reg [om 33 4,om 34 8,od 35 (.callv (tm 33) [(tm 34)]),od 36 (.un .not (tm 35))] [.keepB [3,4,5,7,8,18,19,20,26,27,28,36]
 [14] 100000 16384]) (.cond (tm 36) (.reg Ef [.renS 47 100000 8,.keepB [3,4,5,18,19,20,26,27,28] [14] 100000 16384]) .skip)))) (.reg N8 [.keepB [3,4,5,18,19,20,26,27,28] [14] 100000
 16384])))) [.keepB [3,4,5,18,19,20,26,27,28] [14] 100000 16384]
def J0:IC:=.loop Wq
abbrev Ws:IC:=.gh (.seq (.reg [od 21 (.bin .lss (tm 20) (tm 19))] [.keepB [3,4,18,19,20,21] [14] 100000 16384]) (.seq (.cond (tm 21) .skip (.exit 0)) (.seq (.block 1 (.seq (.reg [om 22 20,od 23 (ia 4 18 20),od 24 (lG 4 23),od 6 (.alloc
 false [(.int .u8 0),(.slice none 0 0),(.int .i64 0),(.int .i64 0)]),om 5 22,on (.store 4 (tm 6) (tm 24))] [.keepB [3,4,5,6,18,19,20] [6,14] 100000 16384]) (.seq (.reg [od 25 (fa 1 6),od 26 (ld 1 25),od 27 (le 0 26),
 od 28 (.mv (ki 0))] [.keepB [3,4,5,18,19,20,26,27,28] [14] 100000 16384]) (.block 2 J0)))) (.reg [od 50 (.bin .add (tm 20) (ki 1)),om 20 50] [.keepB [3,4,18,19,20] [14] 100000 16384])))) [.keepB [3,4,
 18,19,20] [14] 100000 16384]
def J1:IC:=.loop Ws
abbrev Wt:IC:=.gh (.seq (.reg [od 54 (.bin .lss (tm 53) (tm 52))] [kp [3,51,52,53,54] [14,47]]) (.seq (.cond (tm 54) .skip (.exit 4)) (.seq (.block 5 (.seq (.reg [om 55 53,od 56 (ia 1 51 53),od 57 (ld 1 56),om 9 55,om 10 57] [kp [3,9,
 10,51,52,53] [14,47]]) (.reg [om 58 3,om 59 9,om 60 10,od 61 (.call 105 [(tm 60)]),od 62 (ia 1 58 59),on (.store 1 (tm 62) (tm 61))] [kp [3,51,52,53] [14,47]]))) (.reg [od 63 (.bin .add (tm 53) (ki 1)),om 53 63] [kp
 [3,51,52,53] [14,47]])))) [kp [3,51,52,53] [14,47]]
def J2:IC:=.loop Wt
abbrev Wu:IC:=(.seq (.reg [od 1 (.box true (tm 0)),od 2 (.mv kN)] [kp [1] []]) (.seq (.reg [od 11 (fa 0 1),od 12 (ld 1 11),od 13 (le 0 12),od 14 (.mkB 111 [(.slice none 0 0)] (tm 13) (tm 13)),om 3 14] [.keepB [1,3] [14] 100000 16384])
 (.seq (.reg [od 15 (lG 4 1),od 16 (.call 104 [(tm 15)]),om 4 16] [.keepB [1,3,4] [14] 100000 16384]) (.seq (.seq (.reg [od 17 (fa 0 1),od 18 (ld 1 17),od 19 (le 0 18),od 20 (.mv (ki 0))] [.keepB [3,4,18,19,20] [14]
 100000 16384]) (.block 0 J1)) (.seq (.seq (.reg [om 51 3,od 52 (le 0 51),od 53 (.mv (ki 0))] [.frzs 100000 16384,kp [3,51,52,53] [14,47]]) (.block 4 J2)) (.seq (.reg [om 64 3,om 2 64] [kp [2]
 [14,47]]) .ret))))))
theorem Py (h:∀ K:St->Prop,K=run P Γ J0 Q->run P Γ Wq (B0 K Q) s):run P Γ J0 Q s:=Am h
theorem Pz (h:∀ K:St->Prop,K=run P Γ J1 Q->run P Γ Ws (B0 K Q) s):run P Γ J1 Q s:=Am h
theorem Q0 (h:∀ K:St->Prop,K=run P Γ J2 Q->run P Γ Wt (B0 K Q) s):run P Γ J2 Q s:=Am h
attribute [simp] Ef N8
def Wv:List RV:=[.tmp 2]
/- slices.Index[[]probecard/api.Kind,probecard/api.Kind] (function 191) -/
abbrev Ni:IC:=.gh (.seq (.reg [od 9 (.bin .lss (tm 8) (tm 7))] [kp [0,1,7,8,9] []]) (.seq (.cond (tm 9) .skip (.exit 0)) (.seq (.block 1 (.seq (.reg [om 10 8,om 5 10] [kp [0,1,5,7,8] []]) (.seq (.reg [om 11 1,om 12 0,om 13 5,od 14
 (ia 1 12 13),od 15 (ld 1 14),od 16 (.bin .eql (tm 11) (tm 15))] [kp [0,1,5,7,8,16] []]) (.cond (tm 16) (.seq (.reg [om 17 5,om 4 17] [kp [4] []]) .ret) .skip)))) (.reg [od 18 (.bin .add (tm 8) (ki 1)),om 8 18] [kp [0,1,
 7,8] []])))) [kp [0,1,7,8] []]
def Et:IC:=.loop Ni
def Hg:List RO:=[od 4 (.mv (.const (.int .i64 (-1))))]
abbrev Nj:IC:=(.seq (.reg [od 4 (.mv (ki 0))] [kp [0,1] []]) (.seq (.seq (.reg [om 6 0,od 7 (le 0 6),od 8 (.mv (ki 0))] [kp [0,1,7,8] []]) (.block 0 Et)) (.seq (.reg Hg [kp [4] []]) .ret)))
theorem Je (h:∀ K:St->Prop,K=run P Γ Et Q->run P Γ Ni (B0 K Q) s):run P Γ Et Q s:=Am h
attribute [simp] Hg
def Dq:List RV:=[.tmp 4]
/- probecard/logic.Fanin (function 119) -/
abbrev Ww:IC:=(.seq (.reg [od 2 (.mv (ki 0)),od 3 (.mv (ki 0))] [kp [0] []]) (.seq (.seq (.reg [om 4 0,od 5 (.conv .i64 (tm 4)),od 6 (.bin .geq (tm 5) (ki 16))] [kp [0,6] []]) (.cond (tm 6) (.seq (.reg [od 2 (.mv (ki 0)),od 3 (.mv (.const
 (.int .i64 (-1))))] [kp [2,3] []]) .ret) .skip)) (.seq (.reg [om 7 0,od 8 (.iadrA 16 2 (.global 0) (tm 7)),od 9 (.iadrA 2 1 (tm 8) (ki 0)),od 10 (ld 1 9),om 11 0,od 12 (.iadrA 16 2 (.global 0) (tm 11)),od 13 (.iadrA 2 1 (tm
 12) (ki 1)),od 14 (ld 1 13),om 2 10,om 3 14] [kp [2,3] []]) .ret)))
def Wx:List RV:=[.tmp 2,.tmp 3]
/- strings.IndexByte (function 110) -/
abbrev Ta:IC:=(.seq (.reg [od 4 (.mv (ki 0))] [kp [0,1] []]) (.seq (.reg [om 5 0,om 6 1,od 7 (.call 176 [(tm 5),(tm 6)]),om 4 7] [kp [4] []]) .ret))
def Tc:List RV:=[.tmp 4]
/- probecard/netlists.node (function 160) -/
abbrev Z5:IC:=(.seq (.reg [od 2 (.box true (tm 0)),od 3 (.box true (tm 1)),od 4 (.mv (ki 0))] [kp [2,3] []]) (.seq (.reg [od 9 (fa 0 3),od 10 (ld 1 9),od 11 (.call 119 [(tm 10)]),om 8 11,od 12 (ex 8 0),od 13 (ex 8 1),om 5 12,om 6 13]
 [kp [2,3,5,6] []]) (.seq (.reg [od 14 (.mkf 192 [(tm 2)]),om 7 14] [kp [2,3,5,6,7] []]) (.seq (.block 0 (.seq (.reg [od 16 (fa 0 3),od 17 (ld 1 16),od 18 (.bin .gtr (tm 17) (ku 15)),om 15 18] [kp [2,3,5,6,7,15] []])
 (.cond (tm 15) (.seq (.reg [od 4 (.mv (ki 7))] [kp [4] []]) .ret) (.seq (.reg [od 20 (fa 1 3),od 21 (ld 1 20),od 22 (le 0 21),om 23 5,od 24 (.bin .lss (tm 22) (tm 23)),om 25 24,oF 26 (fa 1 3) 25,oF 27 (ld 1 26) 25,oF 28 (le
 0 27) 25,oF 29 (.mv (tm 6)) 25,oF 30 (.bin .gtr (tm 28) (tm 29)) 25,od 31 (.pick (tm 25) kT (tm 30)),om 19 31] [kp [2,3,7,19] []]) (.cond (tm 19) (.seq (.reg [od 4 (.mv (ki 8))] [kp [4] []]) .ret) (.seq (.reg [od 33 (fa 1
 3),od 34 (ld 1 33),od 35 (lG 4 2),od 36 (.call 104 [(tm 35)]),od 37 (.call 163 [(tm 34),(tm 36)]),om 32 37] [kp [2,3,7,32] []]) (.cond (tm 32) (.seq (.reg [od 4 (.mv (ki 1))] [kp [4] []]) .ret) (.seq (.reg [od 39 (fa 0 3),
 od 40 (ld 1 39),od 41 (.bin .eql (tm 40) (ku 13)),om 42 41,oT 43 (fa 1 3) 42,oT 44 (ld 1 43) 42,oT 45 (.mv (tm 7)) 42,oT 46 (.call 163 [(tm 44),(tm 45)]) 42,od 47 (.pick (tm 42) (tm 46) kF),om 38 47] [kp [2,3,38] []])
 (.cond (tm 38) (.seq (.reg [od 4 (.mv (ki 7))] [kp [4] []]) .ret) (.seq (.reg [od 49 (lG 4 2),od 50 (lG 4 3),od 51 (.call 193 [(tm 49),(tm 50)]),od 52 (.un .not (tm 51)),om 48 52] [kp [48] []]) (.cond (tm 48) (.seq (.reg [od 4
 (.mv (ki 1))] [kp [4] []]) .ret) .skip))))))))))) (.seq (.reg [od 4 (.mv (ki 0))] [kp [4] []]) .ret)))))
def E2:List RV:=[.tmp 4]
/- probecard/netlists.names (function 161) -/
abbrev Xt:IC:=.gh (.seq (.reg [od 11 (.bin .lss (tm 10) (tm 9))] [kp [3,8,9,10,11] [6]]) (.seq (.cond (tm 11) .skip (.exit 0)) (.seq (.block 1 (.seq (.reg [od 12 (ia 1 8 10),od 13 (ld 1 12),om 5 13] [kp [3,5,8,9,10] [6]]) (.seq (.seq
 (.reg [om 14 5,od 15 (.call 194 [(tm 14)]),od 16 (.un .not (tm 15)),om 17 16,oF 18 (.mv (tm 3)) 17,oF 19 (.mv (tm 5)) 17,oF 20 (.lkup .str (.bool false) false (tm 18) (tm 19)) 17,od 21 (.pick (tm 17) kT (tm 20))] [kp [3,5,
 8,9,10,21] [6]]) (.cond (tm 21) (.seq (.reg [od 2 (.mv (ki 5))] [kp [2] []]) .ret) .skip)) (.reg [om 22 3,om 23 5,on (.mup .str (tm 22) (tm 23) kT)] [kp [3,8,9,10] [6]])))) (.reg [od 24 (.bin .add (tm 10) (ki 1)),om 10 24]
 [kp [3,8,9,10] [6]])))) [kp [3,8,9,10] [6]]
def Ju:IC:=.loop Xt
abbrev Xu:IC:=(.seq (.reg [od 1 (.box true (tm 0)),od 2 (.mv (ki 0))] [kp [1] []]) (.seq (.reg [od 6 (.mkmap),om 3 6] [kp [1,3] [6]]) (.seq (.seq (.reg [od 7 (fa 1 1),od 8 (ld 1 7),od 9 (le 0 8),od 10 (.mv (ki 0))] [kp [3,8,9,10] [6]])
 (.block 0 Ju)) (.seq (.reg [od 2 (.mv (ki 0))] [kp [2] []]) .ret))))
theorem Qp (h:∀ K:St->Prop,K=run P Γ Ju Q->run P Γ Xt (B0 K Q) s):run P Γ Ju Q s:=Am h
def Q1:List RV:=[.tmp 2]
/- probecard/netlists.memory (function 162) -/
abbrev Wy:IC:=(.seq (.reg [od 2 (.box true (tm 0)),od 3 (.box true (tm 1)),od 4 (.mv (ki 0))] [kp [2,3] []]) (.seq (.reg [od 5 (.mv (.func 195))] [kp [2,3,5] []]) (.seq (.reg [od 7 (lG 4 2),od 8 (.call 104 [(tm 7)]),om 6 8] [kp [3,5,6]
 []]) (.seq (.block 0 (.seq (.reg [om 10 5,od 11 (fa 0 3),od 12 (ld 1 11),od 13 (.callv (tm 10) [(tm 12),(ki 8)]),om 14 13,oF 15 (.mv (tm 5)) 14,oF 16 (fa 1 3) 14,oF 17 (ld 1 16) 14,oF 18 (.callv (tm 15) [(tm 17),(ki 32)])
 14,od 19 (.pick (tm 14) kT (tm 18)),om 9 19] [kp [3,6,9] []]) (.cond (tm 9) (.seq (.reg [od 4 (.mv (ki 8))] [kp [4] []]) .ret) (.seq (.reg [od 21 (fa 0 3),od 22 (ld 1 21),om 23 6,od 24 (.call 163 [(tm 22),(tm 23)]),om 25
 24,oF 26 (fa 1 3) 25,oF 27 (ld 1 26) 25,oF 28 (.mv (tm 6)) 25,oF 29 (.call 163 [(tm 27),(tm 28)]) 25,od 30 (.pick (tm 25) kT (tm 29)),om 31 30,oF 32 (.mv (tm 6)) 31,oF 33 (fa 2 3) 31,oF 34 (ld 1 33) 31,oF 35 (.callv (tm
 32) [(tm 34)]) 31,od 36 (.pick (tm 31) kT (tm 35)),om 20 36] [kp [20] []]) (.cond (tm 20) (.seq (.reg [od 4 (.mv (ki 1))] [kp [4] []]) .ret) .skip))))) (.seq (.reg [od 4 (.mv (ki 0))] [kp [4] []]) .ret)))))
def Dy:List RV:=[.tmp 4]
/- slices.ContainsFunc[[]int,int] (function 163) -/
abbrev Kx:IC:=(.seq (.reg [od 4 (.mv kF)] [kp [0,1] []]) (.seq (.reg [om 5 0,om 6 1,od 7 (.call 196 [(tm 5),(tm 6)]),od 8 (.bin .geq (tm 7) (ki 0)),om 4 8] [kp [4] []]) .ret))
def Ky:List RV:=[.tmp 4]
/- probecard/netlists.outside (function 104) -/
abbrev Ux:IC:=(.seq (.reg [od 1 (.box true (tm 0)),od 2 (.mv (.const .nilFunc))] [kp [1] []]) (.seq (.reg [od 3 (.mkf 164 [(tm 1)]),om 2 3] [kp [2] []]) .ret))
def Uy:List RV:=[.tmp 2]
/- slices.Clip[[]probecard/api.Line,probecard/api.Line] (function 105) -/
abbrev Ol:IC:=(.seq (.reg [od 2 (.mv kN)] [kp [0] []]) (.seq (.reg [om 3 0,om 4 0,od 5 (le 0 4),om 6 0,od 7 (le 0 6),od 8 (.slice 2 (tm 3) none (some (tm 5)) (some (tm 7))),om 2 8] [kp [2] []]) .ret))
def Om:List RV:=[.tmp 2]
/- internal/stringslite.IndexByte (function 176) -/
abbrev Kz:IC:=(.seq (.reg [od 4 (.mv (ki 0))] [kp [0,1] []]) (.seq (.reg [om 5 0,om 6 1,od 7 (.call 202 [(tm 5),(tm 6)]),om 4 7] [kp [4] []]) .ret))
def L6:List RV:=[.tmp 4]
/- probecard/netlists.node$1 (function 192) -/
abbrev Wz:IC:=(.seq (.reg [od 3 (.mv kF)] [kp [0,1] []]) (.seq (.reg [od 4 (fa 0 1),od 5 (ld 1 4),om 6 0,od 7 (ia 4 5 6),od 8 (fa 0 7),od 9 (ld 1 8),od 10 (.bin .neq (tm 9) (ku 12)),om 3 10] [kp [3] []]) .ret))
def X1:List RV:=[.tmp 3]
/- probecard/netlists.bit (function 193) -/
abbrev Fb:IC:=(.seq (.reg [od 2 (.box true (tm 0)),od 3 (.box true (tm 1)),od 4 (.mv kF)] [kp [2,3] []]) (.seq (.seq (.reg [od 5 (fa 0 3),od 6 (ld 1 5),od 7 (.bin .neq (tm 6) (ku 15))] [kp [2,3,7] []]) (.cond (tm 7) (.seq (.reg [od 8 (fa
 2 3),od 9 (ld 1 8),od 10 (.bin .eql (tm 9) (ki 0)),om 11 10,oT 12 (fa 3 3) 11,oT 13 (ld 1 12) 11,oT 14 (.bin .eql (tm 13) (ki 0)) 11,od 15 (.pick (tm 11) (tm 14) kF),om 4 15] [kp [4] []]) .ret) .skip)) (.seq (.reg [od 16
 (fa 2 3),od 17 (ld 1 16),od 18 (.bin .geq (tm 17) (ki 0)),om 19 18,oT 20 (fa 2 3) 19,oT 21 (ld 1 20) 19,oT 22 (fa 2 2) 19,oT 23 (ld 1 22) 19,oT 24 (le 0 23) 19,oT 25 (.bin .lss (tm 21) (tm 24)) 19,od 26 (.pick (tm 19) (tm
 25) kF),om 27 26,oT 28 (fa 3 3) 27,oT 29 (ld 1 28) 27,oT 30 (.bin .geq (tm 29) (ki 0)) 27,od 31 (.pick (tm 27) (tm 30) kF),om 32 31,oT 33 (fa 3 3) 32,oT 34 (ld 1 33) 32,oT 35 (fa 2 2) 32,oT 36 (ld 1 35) 32,oT 37 (fa 2 3)
 32,oT 38 (ld 1 37) 32,oT 39 (ia 3 36 38) 32,oT 40 (fa 1 39) 32,oT 41 (ld 1 40) 32,oT 42 (le 0 41) 32,oT 43 (.bin .lss (tm 34) (tm 42)) 32,od 44 (.pick (tm 32) (tm 43) kF),om 4 44] [kp [4] []]) .ret)))
def Fe:List RV:=[.tmp 4]
/- probecard/netlists.IsName (function 194) -/
abbrev J3:IC:=(.seq (.reg [od 2 (.mv kF)] [kp [0] []]) (.seq (.reg [od 3 (.mv (.func 209))] [kp [0,3] []]) (.seq (.reg [om 4 0,od 5 (.bin .neq (tm 4) (.const (sV []))),om 6 5,oT 7 (.mv (tm 0)) 6,oT 8 (le 1 7) 6,oT 9 (.bin .leq (tm 8) (ki
 32)) 6,od 10 (.pick (tm 6) (tm 9) kF),om 11 10,oT 12 (.mv (tm 0)) 11,oT 13 (.mv (tm 3)) 11,oT 14 (.call 211 [(tm 12),(tm 13)]) 11,oT 15 (.un .not (tm 14)) 11,od 16 (.pick (tm 11) (tm 15) kF),om 2 16] [kp [2] []]) .ret)))
def J4:List RV:=[.tmp 2]
/- probecard/netlists.memory$1 (function 195) -/
abbrev Td:IC:=(.seq (.reg [od 4 (.mv kF)] [kp [0,1] []]) (.seq (.reg [om 5 0,od 6 (le 0 5),od 7 (.bin .eql (tm 6) (ki 0)),om 8 7,oF 9 (.mv (tm 0)) 8,oF 10 (le 0 9) 8,oF 11 (.mv (tm 1)) 8,oF 12 (.bin .gtr (tm 10) (tm 11)) 8,od 13 (.pick
 (tm 8) kT (tm 12)),om 4 13] [kp [4] []]) .ret))
def Tf:List RV:=[.tmp 4]
/- slices.IndexFunc[[]int,int] (function 196) -/
abbrev On:IC:=.gh (.seq (.reg [od 9 (.bin .lss (tm 8) (tm 7))] [kp [0,1,7,8,9] []]) (.seq (.cond (tm 9) .skip (.exit 0)) (.seq (.block 1 (.seq (.reg [om 10 8,om 5 10] [kp [0,1,5,7,8] []]) (.seq (.reg [om 11 1,om 12 0,om 13 5,od 14
 (ia 1 12 13),od 15 (ld 1 14),od 16 (.callv (tm 11) [(tm 15)])] [kp [0,1,5,7,8,16] []]) (.cond (tm 16) (.seq (.reg [om 17 5,om 4 17] [kp [4] []]) .ret) .skip)))) (.reg [od 18 (.bin .add (tm 8) (ki 1)),om 8 18] [kp [0,1,7,
 8] []])))) [kp [0,1,7,8] []]
def Fa:IC:=.loop On
abbrev Oo:IC:=(.seq (.reg [od 4 (.mv (ki 0))] [kp [0,1] []]) (.seq (.seq (.reg [om 6 0,od 7 (le 0 6),od 8 (.mv (ki 0))] [kp [0,1,7,8] []]) (.block 0 Fa)) (.seq (.reg [od 4 (.mv (.const (.int .i64 (-1))))] [kp [4] []])
 .ret)))
theorem Jv (h:∀ K:St->Prop,K=run P Γ Fa Q->run P Γ On (B0 K Q) s):run P Γ Fa Q s:=Am h
def I9:List RV:=[.tmp 4]
/- probecard/netlists.outside$1 (function 164) -/
abbrev Qq:IC:=(.seq (.reg [od 3 (.mv kF)] [kp [0,1] []]) (.seq (.reg [om 4 0,od 5 (.bin .lss (tm 4) (ki 0)),om 6 5,oF 7 (.mv (tm 0)) 6,oF 8 (fa 0 1) 6,oF 9 (ld 1 8) 6,oF 10 (le 0 9) 6,oF 11 (.bin .geq (tm 7) (tm 10)) 6,od 12 (.pick (tm
 6) kT (tm 11)),om 3 12] [kp [3] []]) .ret))
def Qr:List RV:=[.tmp 3]
/- probecard/netlists.IsName$1 (function 209) -/
abbrev Gz:IC:=(.seq (.reg [od 2 (.mv kF)] [kp [0] []]) (.seq (.reg [om 3 0,od 4 (.bin .leq (tm 3) (.const (.int .i32 32))),om 5 4,oF 6 (.mv (tm 0)) 5,oF 7 (.bin .gtr (tm 6) (.const (.int .i32 126))) 5,od 8 (.pick (tm 5) kT (tm 7)),om 9 8,
 oF 10 (.mv (tm 0)) 9,oF 11 (.call 210 [(.const (sV [40,41,61,44,35])),(tm 10)]) 9,od 12 (.pick (tm 9) kT (tm 11)),om 2 12] [kp [2] []]) .ret))
def H2:List RV:=[.tmp 2]
/- strings.ContainsRune (function 210) -/
abbrev Oq:IC:=(.seq (.reg [od 4 (.mv kF)] [kp [0,1] []]) (.seq (.reg [om 5 0,om 6 1,od 7 (.call 221 [(tm 5),(tm 6)]),od 8 (.bin .geq (tm 7) (ki 0)),om 4 8] [kp [4] []]) .ret))
def Ot:List RV:=[.tmp 4]
/- strings.ContainsFunc (function 211) -/
abbrev Ou:IC:=(.seq (.reg [od 4 (.mv kF)] [kp [0,1] []]) (.seq (.reg [om 5 0,om 6 1,od 7 (.call 222 [(tm 5),(tm 6)]),od 8 (.bin .geq (tm 7) (ki 0)),om 4 8] [kp [4] []]) .ret))
def Ov:List RV:=[.tmp 4]
/- strings.IndexRune (function 221) -/
abbrev Ti:IC:=(.seq (.reg [od 4 (.mv (ki 0))] [kp [0,1] []]) (.block 0 (.seq (.reg [om 161 1,od 162 (.bin .leq (.const (.int .i32 0)) (tm 161)),om 163 162,oT 164 (.mv (tm 1)) 163,oT 165 (.bin .lss (tm 164) (.const (.int .i32 128))) 163,od
 166 (.pick (tm 163) (tm 165) kF),om 160 166] [kp [0,1,160] []]) (.cond (tm 160) (.seq (.reg [om 167 0,om 168 1,od 169 (.conv .u8 (tm 168)),od 170 (.call 110 [(tm 167),(tm 169)]),om 4 170] [kp [4] []]) .ret) (.seq (.reg [om
 172 1,od 173 (.bin .eql (tm 172) (.const (.int .i32 65533))),om 171 173] [kp [1,171] []]) (.cond (tm 171) .dead (.seq (.reg [om 184 1,od 185 (.call 230 [(tm 184)]),od 186 (.un .not (tm 185)),om 183 186] [kp [183] []]) (.cond
 (tm 183) .dead .dead))))))))
def Tj:List RV:=[.tmp 4]
/- strings.IndexFunc (function 222) -/
abbrev Tm:IC:=(.seq (.reg [od 4 (.mv (ki 0))] [kp [0,1] []]) (.seq (.reg [om 5 0,om 6 1,od 7 (.call 233 [(tm 5),(tm 6),kT]),om 4 7] [kp [4] []]) .ret))
def Tn:List RV:=[.tmp 4]
/- unicode/utf8.ValidRune (function 230) -/
abbrev To:IC:=.gh (.seq (.reg [od 11 (.nxt (tm 10)),od 12 (ex 11 0)] [kp [1,2,10,11,12] [10]]) (.seq (.cond (tm 12) .skip (.exit 0)) (.block 1 (.seq (.reg [od 13 (ex 11 1),od 14 (ex 11 2),om 7 13,om 8 14] [kp [1,2,7,8,10] [10]])
 (.seq (.reg [om 15 1,om 16 8,od 17 (.callv (tm 15) [(tm 16)]),om 18 2,od 19 (.eqb true (tm 17) (tm 18))] [kp [1,2,7,10,19] [10]]) (.cond (tm 19) (.seq (.reg [om 20 7,om 6 20] [kp [6] []]) .ret) .skip)))))) [kp [1,2,10]
 [10]]
def H3:IC:=.loop To
abbrev Tq:IC:=(.seq (.reg [od 6 (.mv (ki 0))] [kp [0,1,2] []]) (.seq (.seq (.reg [om 9 0,od 10 (.rng (tm 9))] [kp [1,2,10] [10]]) (.block 0 H3)) (.seq (.reg [od 6 (.mv (.const (.int .i64 (-1))))] [kp [6] []]) .ret)))
theorem Nk (h:∀ K:St->Prop,K=run P Γ H3 Q->run P Γ To (B0 K Q) s):run P Γ H3 Q s:=Am h
def L8:List RV:=[.tmp 6]
/- slices.Clone[[]int,int] (function 158) -/
abbrev Hr:IC:=(.seq (.reg [od 2 (.mv kN)] [kp [0] []]) (.seq (.seq (.reg [om 3 0,od 4 (.isNil true (tm 3))] [kp [0,4] []]) (.cond (tm 4) (.seq (.reg [od 2 (.mv kN)] [kp [2] [7]]) .ret) .skip)) (.seq (.reg [od 5 (.bsl true 3 1 []),om 6 0,od 7
 (.app false 3 1 (tm 5) (tm 6)),om 2 7] [kp [2] [7]]) .ret)))
def Ht:List RV:=[.tmp 2]
end
end Go.Lg
namespace Go.Lg
open Go Go.Proofs
theorem qNJ:Bc Tryz.prog 133 qMt 11 1 qMu=true:=by kernel_rfl
theorem q6B:Bc Tryz.prog 102 q1P 27 2 q1Q=true:=by kernel_rfl
theorem q2T:Bc Tryz.prog 39 Wi 6 1 Wj=true:=by kernel_rfl
theorem q49:Bc Tryz.prog 14 Z3 9 1 Z4=true:=by kernel_rfl
theorem Uz:Bc Tryz.prog 49 O6 9 1 O7=true:=by kernel_rfl
theorem q2U:Bc Tryz.prog 40 Wp 131 1 Iz=true:=by kernel_rfl
theorem Ul:Bc Tryz.prog 159 Jq 9 2 Jr=true:=by kernel_rfl
theorem q3U:Bc Tryz.prog 103 F9 73 1 D5=true:=by kernel_rfl
theorem q2V:Bc Tryz.prog 41 Wu 65 1 Wv=true:=by kernel_rfl
theorem Xn:Bc Tryz.prog 191 Nj 19 2 Dq=true:=by kernel_rfl
theorem q6C:Bc Tryz.prog 119 Ww 15 1 Wx=true:=by kernel_rfl
theorem q0u:Bc Tryz.prog 110 Ta 8 2 Tc=true:=by kernel_rfl
theorem q4A:Bc Tryz.prog 160 Z5 53 2 E2=true:=by kernel_rfl
theorem q3V:Bc Tryz.prog 161 Xu 25 1 Q1=true:=by kernel_rfl
theorem q2W:Bc Tryz.prog 162 Wy 37 2 Dy=true:=by kernel_rfl
theorem Vm:Bc Tryz.prog 163 Kx 9 2 Ky=true:=by kernel_rfl
theorem q1R:Bc Tryz.prog 104 Ux 4 1 Uy=true:=by kernel_rfl
theorem Yk:Bc Tryz.prog 105 Ol 9 1 Om=true:=by kernel_rfl
theorem Vn:Bc Tryz.prog 176 Kz 8 2 L6=true:=by kernel_rfl
theorem q2X:Bc Tryz.prog 192 Wz 11 2 X1=true:=by kernel_rfl
theorem q5E:Bc Tryz.prog 193 Fb 45 2 Fe=true:=by kernel_rfl
theorem q2Y:Bc Tryz.prog 194 J3 17 1 J4=true:=by kernel_rfl
theorem q0v:Bc Tryz.prog 195 Td 14 2 Tf=true:=by kernel_rfl
theorem Yl:Bc Tryz.prog 196 Oo 19 2 I9=true:=by kernel_rfl
theorem q0J:Bc Tryz.prog 164 Qq 13 2 Qr=true:=by kernel_rfl
theorem q0w:Bc Tryz.prog 209 Gz 13 1 H2=true:=by kernel_rfl
theorem Ym:Bc Tryz.prog 210 Oq 9 2 Ot=true:=by kernel_rfl
theorem Yn:Bc Tryz.prog 211 Ou 9 2 Ov=true:=by kernel_rfl
theorem q0x:Bc Tryz.prog 221 Ti 187 2 Tj=true:=by kernel_rfl
theorem q0y:Bc Tryz.prog 222 Tm 8 2 Tn=true:=by kernel_rfl
theorem q0z:Bc Tryz.prog 233 Tq 21 3 L8=true:=by kernel_rfl
theorem q1S:Bc Tryz.prog 158 Hr 8 1 Ht=true:=by kernel_rfl
end Go.Lg
set_option maxRecDepth 100000
namespace Go.Lg
open Go Go.Proofs
variable {Γ:Tables}
theorem q7D (es:List (List T)) (cap:Option Nat) (nl:Option Bool) (hw:Es 1 es):B9 Tryz.prog Γ 49 [.sl es cap nl] (.sl es (some es.length) nl):=by
 refine Cc Uz rfl ?_
 simp[O6,O7,ret,hw]
theorem q8v (es:List (List T)) (cap:Option Nat) (nl:Option Bool) (hw:Es 2 es):B9 Tryz.prog Γ 105 [.sl es cap nl] (.sl es (some es.length) nl):=by
 refine Cc Yk rfl ?_
 simp[Ol,Om,ret,hw]
theorem q7E (ty:Nat) (es:List (List T)) (len:Nat) (cap:Option Nat) (hw:Es 1 es):Bf Tryz.prog Γ 49 [(1000000,.sl ty 1 es)] [.ls 1000000 0 len cap] (.ls 1000000 0 len (some len)) [(1000000,.sl ty 1 es)]:=by
 refine Ee Uz rfl ?_
 simp[O6,O7,qE4,hw]
def Yo {α:Type} (p:α->Bool) (l:List α):Int:=match l.findIdx? p with|some i=>i|none => -1
theorem q0K {α:Type} {p:α->Bool} {l:List α} {i:Nat} (hp:∀ j,j<i->∀ x,l[j]? = some x->p x=false) (x:α) (hx:l[i]? = some x) (h:p x=true):l.findIdx? p=some i:=by
 rw[List.findIdx?_eq_some_iff_getElem]
 have hi:=(xqi.1 hx).1
 refine⟨hi,?_,fun j hj=>?_⟩
 ·have:=(xqi.1 hx).2;rw[this];exact h
 ·have:=hp j hj l[j] (xqg (by omega))
  simp[this]
theorem q0h (l:List Int) (c:Option Nat) (nl:Option Bool) (x:Int) (hl:l.length<=1000000000):∀ (k i:Nat),k+i=l.length->(∀ j,j<i->∀ y,l[j]? = some y->(y==x)=false) ->
  run Tryz.prog Γ Et (N5 0 (B0 (run Tryz.prog Γ (.seq (.reg Hg [.keep [4] []]) .ret) (ret true Dq fun r=>r=tI (Yo (· == x) l))) (ret true Dq fun r=>r=tI (Yo (· == x) l)))) ⟨[(0,.t (.sl (An tK l) c nl)),(1,.t (tK x)),(7,.t (tI l.length)),(8,.t (tI i))],[]⟩
 | 0,i,h,hp=>by
  refine Je fun K hK=>?_
  have h2:¬ i<l.length:=by omega
  simp(disch:=omega) [A5,Cm (0:Int),Aa,A6,h2,ret,Dq,Dp,G3,F8,Ar]
  have:l.findIdx? (· == x)=none:=by
   rw[List.findIdx?_eq_none_iff]
   intro y hy
   obtain⟨j,hj,rfl⟩:=xqt hy
   exact hp j (by omega) _ (xqg hj)
  have e:l.findIdx? (fun y=>decide (y=x))=_:=this
  simp[Yo,e]
 | k+1,i,h,hp=>by
  refine Je fun K hK=>?_
  have h2:i<l.length:=by omega
  simp(disch:=omega) [A5,Cm (0:Int),Aa,A6,h2]
  refine⟨fun hc=>?_,fun hc=>?_⟩
  ·simp[Bm,ret,Dq,Dp,G3,F8,Ar]
   have:=q0K (p:=(· == x)) hp l[i] (xqg h2) (by simp[hc])
   have e:l.findIdx? (fun y=>decide (y=x))=_:=this
   simp[Yo,e]
  ·simp(disch:=omega) [Bm,A6]
   rw[hK]
   exact_mod_cast q0h l c nl x hl k (i+1) (by omega) (fun j hj y hy=>by
    rcases Nat.lt_succ_iff_lt_or_eq.1 hj with hj|rfl
    ·exact hp j hj y hy
    ·rw[xqg h2]at hy;simp at hy;subst hy
     simp;exact fun e=>hc e.symm)
theorem qBx (l:List Int) (c:Option Nat) (nl:Option Bool) (x:Int) (hl:l.length<=1000000000):A7 Tryz.prog Γ 191 [.sl (An tK l) c nl,tK x] (tI (Yo (· == x) l)):=by
 refine Ac Xn rfl ?_
 simp(disch:=omega) [Nj,A5,A6]
 exact_mod_cast q0h l c nl x hl l.length 0 (by omega) (by simp)
theorem q8I (l:List Int) (c:Option Nat) (nl:Option Bool) (x:Int) (hl:l.length<=1000000000):A7 Tryz.prog Γ 159 [.sl (An tK l) c nl,tK x] (tB (l.contains x)):=by
 refine Ac Ul rfl ?_
 simp(disch:=omega) [Jq,A5,A6]
 refine A4 (qBx l c nl x hl) rfl ?_
 simp[ret,Jr,Dp,G3,F8,Ar]
 unfold Yo
 cases h:l.findIdx? (· == x) with
 | none =>
  rw[List.findIdx?_eq_none_iff]at h
  have:¬ x∈l:=fun hx=>by simpa using h x hx
  simp[this]
 | some i =>
  rw[List.findIdx?_eq_some_iff_getElem]at h
  obtain⟨hi,h1,_⟩:=h
  have:x∈l:=by rw[<- (show l[i]=x by simpa using h1)];exact xqj hi
  simp[this]
theorem q1T {cs:List T}:Ag (cs.map fun t=>some t)=some cs:=by
 induction cs with
 | nil=>rfl
 | cons t cs ih=>simp only[xqm,Ag,ih,xql]
theorem q0L {hp:List (Nat×Aw)} {f:FuncId} {K:T->Prop} {cs:List T} {t res:T} (h:A7 Tryz.prog Γ f (t::cs) res) (hk:K res):q5m Tryz.prog Γ hp f (.t t::cs.map .t) K ⟨⟩ :=
 A4 h (by simp only[xqm,xq5,Function.comp_def,Ag,Aj];rw[q1T];rfl) hk
theorem q1U {Q:AX->St->Prop} (l:List Int) (c:Option Nat) (nl:Option Bool) (f:FuncId) (cs:List T) (p:Int->Bool) (hp:∀ x∈l,A7 Tryz.prog Γ f (tI x::cs) (tB (p x))) (hl:l.length<=1000000000)
  (h0:(∀ x∈l,p x=false)->Q (.exit 0) ⟨[(0,.t (.sl (Av l) c nl)),(1,.t (.fn f cs)),(7,.t (tI l.length)),(8,.t (tI l.length)),(9,.t (tB false))],[]⟩)
  (h1:∀ i:Nat,l.findIdx? p=some i->Q .ret ⟨[(4,.t (tI i))],[]⟩):∀ (k i:Nat),k+i=l.length->(∀ j,j<i->∀ y,l[j]? = some y->p y=false) ->
  run Tryz.prog Γ Fa Q ⟨[(0,.t (.sl (Av l) c nl)),(1,.t (.fn f cs)),(7,.t (tI l.length)),(8,.t (tI i))],[]⟩
 | 0,i,h,hq=>by
  refine Jv fun K hK=>?_
  have h2:¬ i<l.length:=by omega
  simp(disch:=omega) [A5,Cm (0:Int),Aa,A6,h2]
  have h3:i=l.length:=by omega
  subst h3
  refine h0 fun y hy=>?_
  obtain⟨j,hj,rfl⟩:=xqt hy
  exact hq j (by omega) _ (xqg hj)
 | k+1,i,h,hq=>by
  refine Jv fun K hK=>?_
  have h2:i<l.length:=by omega
  simp(disch:=omega) [A5,Cm (0:Int),Aa,A6,h2]
  refine q0L (hp l[i] (xqj h2)) ?_
  simp
  refine⟨fun hc=>?_,fun hc=>?_⟩
  ·simp[Bm]
   exact h1 i (q0K hq l[i] (xqg h2) hc)
  ·simp(disch:=omega) [Bm,A6]
   rw[hK]
   exact_mod_cast q1U l c nl f cs p hp hl h0 h1 k (i+1) (by omega) (fun j hj y hy=>by
    rcases Nat.lt_succ_iff_lt_or_eq.1 hj with hj|rfl
    ·exact hq j hj y hy
    ·rw[xqg h2]at hy;simp at hy;subst hy;exact hc)
theorem q8J (l:List Int) (c:Option Nat) (nl:Option Bool) (f:FuncId) (cs:List T) (p:Int->Bool) (hp:∀ x∈l,A7 Tryz.prog Γ f (tI x::cs) (tB (p x))) (hl:l.length<=1000000000):A7 Tryz.prog Γ 196 [.sl (Av l) c nl,.fn f cs] (tI (Yo p l)):=by
 refine Ac Yl rfl ?_
 simp(disch:=omega) [Oo,A5,A6]
 refine q1U l c nl f cs p hp hl (fun h=>?_) (fun i h=>?_) l.length 0 (by omega) (by simp)
 ·have:l.findIdx? p=none:=List.findIdx?_eq_none_iff.2 h
  simp[ret,I9,Dp,G3,F8,Ar,Yo,this]
 ·simp[ret,I9,Dp,G3,F8,Ar,Yo,h]
theorem Z6 (l:List Int) (c:Option Nat) (nl:Option Bool) (f:FuncId) (cs:List T) (p:Int->Bool) (hp:∀ x∈l,A7 Tryz.prog Γ f (tI x::cs) (tB (p x))) (hl:l.length<=1000000000):A7 Tryz.prog Γ 163 [.sl (Av l) c nl,.fn f cs] (tB (l.any p)):=by
 refine Ac Vm rfl ?_
 simp(disch:=omega) [Kx,A5,A6]
 refine A4 (q8J l c nl f cs p hp hl) rfl ?_
 simp[ret,Ky,Dp,G3,F8,Ar]
 unfold Yo
 cases h:l.findIdx? p with
 | none =>
  rw[List.findIdx?_eq_none_iff]at h
  have:l.any p=false:=by rw[xz8];intro x hx;simp[h x hx]
  simp[this]
 | some i =>
  rw[List.findIdx?_eq_some_iff_getElem]at h
  obtain⟨hi,h1,_⟩:=h
  have:l.any p=true:=xz1.2 ⟨_,xqj hi,h1⟩
  simp[this]
theorem Z7 (k:Int):A7 Tryz.prog Γ 14 [tK k] (tB (decide (1<=k/\k<=13))):=by
 refine Ac q49 rfl ?_
 by_cases h1:1<=k<;>by_cases h2:k<=13<;>simp[Z3,ret,Z4,Dp,G3,F8,Ar,h1,h2]
structure Nd where
 k:Int
 inn:Sl Int
 mem:Int
 bit:Int
structure Mm where
 addr:Sl Int
 data:Sl Int
 write:Int
structure Bg where
 nodes:Sl Nd
 names:Sl (List UInt8)
 mems:Sl Mm
 outs:Sl Int
def E3 (x:Nd):List T:=[tK x.k,B8 x.inn,tI x.mem,tI x.bit]
def tMm (m:Mm):List T:=[B8 m.addr,B8 m.data,tI m.write]
def tS (l:List UInt8):T:=.v (sV l)
def A9 (s:Sl Nd):T:=.sl (Bo E3 s.l) s.cap s.nl
def Ah (s:Sl (List UInt8)):T:=.sl (An tS s.l) s.cap s.nl
def Ap (s:Sl Mm):T:=.sl (Bo tMm s.l) s.cap s.nl
def tC (c:Bg):List T:=[A9 c.nodes,Ah c.names,Ap c.mems,B8 c.outs]
def Nd.d:Nd:=⟨0,⟨[],none,none⟩,0,0⟩
def Mm.d:Mm:=⟨⟨[],none,none⟩,⟨[],none,none⟩,0⟩
theorem Bj {l:List Nd}:Es 4 (Bo E3 l):=q48 fun _=>rfl
theorem q4B {l:List Mm}:Es 3 (Bo tMm l):=q48 fun _=>rfl
structure CirOk (c:Bg):Prop where
 nodes:c.nodes.l.length<=1000000000
 names:c.names.l.length<=1000000000
 mems:c.mems.l.length<=1000000000
 outs:c.outs.l.length<=1000000000
 kind:∀ x∈c.nodes.l,0<=x.k/\x.k<=255
 inn:∀ x∈c.nodes.l,x.inn.l.length<=1000000000
 addr:∀ m∈c.mems.l,m.addr.l.length<=1000000000/\m.data.l.length<=1000000000
def Q2 (c:Bg) (n:Int):Bool:=decide (n<0\/(c.nodes.l.length:Int)<=n)
theorem Yp (c:Bg) (n:Int) (hc:c.nodes.l.length<=1000000000):A7 Tryz.prog Γ 164 [tI n,.ip (tC c) 0] (tB (Q2 c n)):=by
 refine Ac q0J rfl ?_
 by_cases h1:n<0<;>simp(disch:=omega) [Qq,ret,Qr,Dp,G3,F8,Ar,h1,tC,A9,Ab,A6,Q2]
theorem Vo (c:Bg):B9 Tryz.prog Γ 104 [.agg (tC c)] (.fn 164 [.ip (tC c) 0]):=by
 refine Cc q1R rfl ?_
 simp[Ux,ret,Uy,tC,D9,C7,T.one,AV.one,A9,Ah,Ap,B8]
theorem Xv (c:Bg) (hc:c.nodes.l.length<=1000000000) (l:List Int) (cap:Option Nat) (nl:Option Bool) (hl:l.length<=1000000000):A7 Tryz.prog Γ 163 [.sl (Av l) cap nl,.fn 164 [.ip (tC c) 0]] (tB (l.any (Q2 c))) :=
 Z6 l cap nl _ _ _ (fun x _=>Yp c x hc) hl
def q7F:List (Int×Int):=[(0,0),(0,0),(0,0),(1,1),(1,1),(2,16),(2,16),(2,16),(2,16),(2,16),(2,16),(3,3),(2,2),(1,16),(1,1),(0,0)]
def qE5:List T:=q7F.flatMap fun p=>[tI p.1,tI p.2]
def Um (k:Int):Int×Int:=if 16<=k then(0,-1)else q7F.getD k.toNat (0,0)
def GOk (Γ:Tables):Prop:=Γ 0=some qE5
theorem Dl (hΓ:GOk Γ) (k:Int) (h0:0<=k) (h1:k<=255):A7 Tryz.prog Γ 119 [tK k] (.tup [tI (Um k).1,tI (Um k).2]):=by
 unfold GOk at hΓ
 refine Ac q6C rfl ?_
 by_cases h2:16<=k
 ·simp(disch:=omega) [Ww,ret,Wx,Dp,G3,F8,Ar,h2,A6,Um]
 ·have h3:k=0\/k=1\/k=2\/k=3\/k=4\/k=5\/k=6\/k=7\/k=8\/k=9\/k=10\/k=11\/k=12\/k=13\/k=14\/k=15:=by omega
  rcases h3 with rfl|rfl|rfl|rfl|rfl|rfl|rfl|rfl|rfl|rfl|rfl|rfl|rfl|rfl|rfl|rfl <;>
  simp(disch:=omega) [Ww,ret,Wx,Dp,G3,F8,Ar,A6,Um,hΓ,qE5,q7F]<;>exact⟨rfl,rfl⟩
def q0i (c:Bg) (x:Nd):Bool :=
 if x.k≠15 then decide (x.mem=0/\x.bit=0)
 else decide (0<=x.mem/\x.mem<c.mems.l.length/\0<=x.bit/\x.bit<((c.mems.l.getD x.mem.toNat Mm.d).data.l.length))
theorem qFE (c:Bg) (x:Nd) (hc:CirOk c):A7 Tryz.prog Γ 193 [.agg (tC c),.agg (E3 x)] (tB (q0i c x)):=by
 refine Ac q5E rfl ?_
 have hm:=hc.mems
 by_cases h1:x.k=15
 ·by_cases h2:0<=x.mem
  ·by_cases h3:x.mem<c.mems.l.length
   ·have h3':x.mem.toNat<c.mems.l.length:=by omega
    by_cases h4:0<=x.bit
    ·simp(disch:=omega) [Fb,ret,Fe,Dp,G3,F8,Ar,D9,C7,T.one,AV.one,tC,E3,A9,Ah,Ap,B8,h1,h2,h3,h4,h3',Ab,Eb Mm.d,A6,q4B,tMm,A5,q0i]
    ·simp(disch:=omega) [Fb,ret,Fe,Dp,G3,F8,Ar,D9,C7,T.one,AV.one,tC,E3,A9,Ah,Ap,B8,h1,h2,h3,h4,h3',Ab,Eb Mm.d,A6,q4B,tMm,A5,q0i]
   ·simp(disch:=omega) [Fb,ret,Fe,Dp,G3,F8,Ar,D9,C7,T.one,AV.one,tC,E3,A9,Ah,Ap,B8,h1,h2,h3,Ab,Eb Mm.d,A6,q4B,tMm,A5,q0i]
  ·simp(disch:=omega) [Fb,ret,Fe,Dp,G3,F8,Ar,D9,C7,T.one,AV.one,tC,E3,A9,Ah,Ap,B8,h1,h2,Ab,Eb Mm.d,A6,q4B,tMm,A5,q0i]
 ·by_cases h2:x.mem=0
  ·simp(disch:=omega) [Bm,Fb,Fe,tC,E3,A9,Ah,Ap,B8,h1,h2,q0i,-decide_eq_decide]
  ·have h2':(x.mem==0)=false:=by simpa using h2
   simp(disch:=omega) [Bm,Fb,Fe,tC,E3,A9,Ah,Ap,B8,h1,h2,h2',q0i]
def Un (l:List Int) (most:Int):Bool:=decide (l.length=0\/most<l.length)
theorem q4C (l:List Int) (cap:Option Nat) (nl:Option Bool) (most:Int) (hl:l.length<=1000000000):A7 Tryz.prog Γ 195 [.sl (Av l) cap nl,tI most] (tB (Un l most)):=by
 refine Ac q0v rfl ?_
 by_cases h:l.length=0<;>simp(disch:=omega) [Td,ret,Tf,Dp,G3,F8,Ar,A5,h,Un,A6]
def q1V (c:Bg) (n:Int):Bool:=decide ((c.nodes.l.getD n.toNat Nd.d).k≠12)
theorem qBy (c:Bg) (n:Int) (h0:0<=n) (h1:n<c.nodes.l.length):A7 Tryz.prog Γ 192 [tI n,.ip (tC c) 0] (tB (q1V c n)):=by
 refine Ac q2X rfl ?_
 have h2:n.toNat<c.nodes.l.length:=by omega
 simp(disch:=omega) [Wz,ret,X1,Dp,G3,F8,Ar,tC,A9,Ab,Eb Nd.d,Bj,h0,h1,h2,q1V,E3]
def E6 (c:Bg) (x:Nd):Int :=
 if 15<x.k then 7 else if(x.inn.l.length:Int)<(Um x.k).1\/(Um x.k).2<x.inn.l.length then 8 else if x.inn.l.any (Q2 c)then 1
 else if x.k=13/\x.inn.l.any (q1V c)=true then 7 else if q0i c x=false then 1 else 0
theorem q2N {c:Bg} {l:List Int} (h:l.any (Q2 c)=false):∀ n∈l,0<=n/\n<c.nodes.l.length:=by
 intro n hn
 have:=xz8.1 h n hn
 simp only[Q2,xqu,not_or,Int.not_lt,Int.not_le]at this
 exact this
theorem qE6 (hΓ:GOk Γ) (c:Bg) (x:Nd) (hc:CirOk c) (hk:0<=x.k/\x.k<=255) (hl:x.inn.l.length<=1000000000):A7 Tryz.prog Γ 160 [.agg (tC c),.agg (E3 x)] (tI (E6 c x)):=by
 refine Ac q4A rfl ?_
 have hn:=hc.nodes
 have e1:=Xv (Γ:=Γ) c hn x.inn.l x.inn.cap x.inn.nl hl
 have e2:=Dl hΓ x.k hk.1 hk.2
 have e3:=Vo (Γ:=Γ) c
 have e4:=qFE (Γ:=Γ) c x hc
 simp(disch:=omega) [Z5,D9,C7,T.one,AV.one,tC,E3,A9,Ah,Ap,B8]
 refine A4 e2 rfl ?_
 simp(disch:=omega)
 simp
 refine⟨fun h1=>?_,fun h1=>?_⟩
 ·simp[Bm,ret,E2,Dp,G3,F8,Ar,E6,h1]
 by_cases h2:(x.inn.l.length:Int)<(Um x.k).1
 ·simp(disch:=omega) [Bm,A5,A6,h2,ret,E2,Dp,G3,F8,Ar,E6,h1]
 by_cases h3:(Um x.k).2<x.inn.l.length
 ·simp(disch:=omega) [Bm,A5,A6,h2,h3,ret,E2,Dp,G3,F8,Ar,E6,h1]
 simp(disch:=omega) [Bm,A5,A6,h2,h3]
 refine B6 e3 rfl ?_
 simp(disch:=omega)
 refine A4 e1 rfl ?_
 simp(disch:=omega) [-List.any_eq_true,-List.any_eq_false]
 refine⟨fun h4=>?_,fun h4=>?_⟩
 ·simp[-List.any_eq_true,-List.any_eq_false,Bm,ret,E2,Dp,G3,F8,Ar,E6,h1,h2,h3,h4]
 have h4':x.inn.l.any (Q2 c)=false:=h4
 by_cases h5:x.k=13
 ·have e5:=Z6 (Γ:=Γ) x.inn.l x.inn.cap x.inn.nl 192 [.ip (tC c) 0] (q1V c) (fun n hm=>qBy c n (q2N h4' n hm).1 (q2N h4' n hm).2) hl
  simp(disch:=omega) [Bm,h5]
  refine A4 e5 rfl ?_
  simp[-List.any_eq_true,-List.any_eq_false]
  refine⟨fun h6=>?_,fun h6=>?_⟩
  ·have h6':x.inn.l.any (q1V c)=true:=h6
   simp[-List.any_eq_true,-List.any_eq_false,Bm,ret,E2,Dp,G3,F8,Ar,E6,h1,h2,h3,h4',h5,h6']
   simp[h5]at h2 h3;omega
  ·have h6':x.inn.l.any (q1V c)=false:=h6
   have e:E6 c x=if q0i c x=false then 1 else 0:=by
    unfold E6
    rw[if_neg (by omega),if_neg (by omega),if_neg (by simp[h4']),if_neg (by simp[h6'])]
   rw[e]
   simp(disch:=omega) [Bm,h6']
   rw[show E3 x=[tK 13,B8 x.inn,tI x.mem,tI x.bit] from by simp[E3,h5]]at e4
   refine A4 e4 rfl ?_
   simp
   refine⟨fun h7=>?_,fun h7=>?_⟩<;>simp[Bm,E2,h7]
 ·have e:E6 c x=if q0i c x=false then 1 else 0:=by
   unfold E6
   rw[if_neg (by omega),if_neg (by omega),if_neg (by simp[h4']),if_neg (by simp[h5])]
  rw[e]
  simp(disch:=omega) [Bm,h5]
  refine A4 e4 rfl ?_
  simp
  refine⟨fun h7=>?_,fun h7=>?_⟩<;>simp[Bm,E2,h7]
theorem qMO:(Tryz.prog.funcs[202]?).map (fun f=>(f.name,f.body.isNone,f.origin))=some ("internal/bytealg.IndexByteString",true, ""):=by kernel_rfl
abbrev tR (n:Int):T:=.v (.int .i32 n)
theorem q1W (s:ByteArray) (c:Int):A7 Tryz.prog Γ 202 [.v (.string s),tK c] (tI (Lib.indexByte s.data.toList c.toNat.toUInt8)):=by
 intro w X vs hg hx hts
 obtain⟨x,xs,rfl,h1,h2⟩:=hts.cons_inv
 obtain⟨y,ys,rfl,h3,h4⟩:=h2.cons_inv
 have:=h4.nil_inv;subst this
 cases h1;cases h3
 refine .inr ⟨.int .i64 (Lib.indexByte s.data.toList c.toNat.toUInt8),?_,RowKit.Below.refl _ _,.v _⟩
 have h:=qMO
 simp only[xqb,xqd]at h
 obtain⟨fn,hf,hn,hb,ho⟩:=h
 have e1:Extern.findNext fn=none:=by
  simp only[Extern.findNext,hn,ho]
  have a:Extern.allNextRows.lookup "internal/bytealg.IndexByteString" = none:=by kernel_rfl
  have b:Extern.allNextRows.lookup "" = none:=by kernel_rfl
  rw[a,b];rfl
 have e2:Extern.find fn=some Extern.BytealgIndexByte.indexByte:=by
  simp only[Extern.find,hn,ho]
  have a:Extern.allGenericRows.lookup "internal/bytealg.IndexByteString" = none:=by kernel_rfl
  have b:Extern.allTypedRows.lookup "internal/bytealg.IndexByteString" = none:=by kernel_rfl
  have c:Extern.allRows.lookup "internal/bytealg.IndexByteString" = some Extern.BytealgIndexByte.indexByte:=by kernel_rfl
  rw[a,b,c];rfl
 have hnn:¬ fn.name = "runtime.NumGoroutine" := by rw[hn];decide
 have hr:=Lib.run_indexByteString (P:=Tryz.prog) s c w
 have hb':fn.body=none:=by simpa using hb
 simp[callFunc,hf,hnn,hb',e1,e2,hr]
theorem qE7 (s:ByteArray) (c:Int):A7 Tryz.prog Γ 176 [.v (.string s),tK c] (tI (Lib.indexByte s.data.toList c.toNat.toUInt8)):=by
 refine Ac Vn rfl ?_
 simp[Kz]
 refine A4 (q1W s c) rfl ?_
 simp[L6]
theorem q1X (s:ByteArray) (c:Int):A7 Tryz.prog Γ 110 [.v (.string s),tK c] (tI (Lib.indexByte s.data.toList c.toNat.toUInt8)):=by
 refine Ac q0u rfl ?_
 simp[Ta]
 refine A4 (qE7 s c) rfl ?_
 simp[Tc]
theorem q7G (s:ByteArray) (c:Int) (h0:0<=c) (h1:c<128):A7 Tryz.prog Γ 221 [.v (.string s),tR c] (tI (Lib.indexByte s.data.toList c.toNat.toUInt8)):=by
 refine Ac q0x rfl ?_
 simp(disch:=omega) [Ti,h0,h1,Bw]
 refine A4 (q1X s c) rfl ?_
 simp[Tj]
theorem q4D (s:ByteArray) (c:Int) (h0:0<=c) (h1:c<128):A7 Tryz.prog Γ 210 [.v (.string s),tR c] (tB (decide (0<=Lib.indexByte s.data.toList c.toNat.toUInt8))):=by
 refine Ac Ym rfl ?_
 simp(disch:=omega) [Oq]
 refine A4 (q7G s c h0 h1) rfl ?_
 simp[Ot]
def qE8 (c:Int):Bool:=decide (c<=32\/126<c\/0<=Lib.indexByte [40,41,61,44,35] c.toNat.toUInt8)
theorem qE9 (c:Int):A7 Tryz.prog Γ 209 [tR c] (tB (qE8 c)):=by
 refine Ac q0w rfl ?_
 by_cases h1:c<=32
 ·simp[Gz,H2,h1,qE8]
 by_cases h2:126<c
 ·simp[Gz,H2,h1,h2,qE8]
 simp[Gz,h1,h2]
 refine A4 (q4D ⟨#[40,41,61,44,35]⟩ c (by omega) (by omega)) rfl ?_
 simp[H2,qE8,h1,h2]
theorem qBz (s:List UInt8) (i:Nat) (hi:i<s.length) (ha:s[i]<128):Utf8.decode ⟨s.toArray⟩ i=((s[i]).toNat,1):=by
 have e:(ByteArray.mk s.toArray).get! (i+0)=s[i]:=by
  simp[ByteArray.get!,hi]
 have h2:(s[i]).toNat<128:=by simpa[UInt8.lt_iff_toNat_lt]using ha
 unfold Utf8.decode
 simp only[e,h2,↓reduceIte]
def qC0 (s:List UInt8):Bool:=s.any fun b=>qE8 b.toNat
theorem q1Y {Q:AX->St->Prop} (s:List UInt8) (ha:∀ b∈s,b<128)
  (h0:qC0 s=false->Q (.exit 0) ⟨[(1,.t (.fn 209 [])),(2,.t (tB true)),(10,.li 10),(11,.t (.tup [tB false])),(12,.t (tB false))],[(10,.it ⟨s.toArray⟩ s.length)]⟩)
  (h1:qC0 s=true->∀ i:Nat,Q .ret ⟨[(6,.t (tI i))],[]⟩):∀ (k i:Nat),k+i=s.length->(∀ j,j<i->∀ b,s[j]? = some b->qE8 b.toNat=false) ->
  run Tryz.prog Γ H3 Q ⟨[(1,.t (.fn 209 [])),(2,.t (tB true)),(10,.li 10)],[(10,.it ⟨s.toArray⟩ i)]⟩
 | 0,i,h,hq=>by
  refine Nk fun K hK=>?_
  have h2:¬ i<s.length:=by omega
  have h3:i=s.length:=by omega
  have h4:¬ i<(ByteArray.mk s.toArray).size:=by simpa[ByteArray.size]using h2
  simp[h2]
  subst h3
  refine h0 (xz8.2 fun b hb=>?_)
  obtain⟨j,hj,rfl⟩:=xqt hb
  simp[hq j hj _ (xqg hj)]
 | k+1,i,h,hq=>by
  refine Nk fun K hK=>?_
  have h2:i<s.length:=by omega
  have h4:i<(ByteArray.mk s.toArray).size:=by simpa[ByteArray.size]using h2
  simp[h2,qBz s i h2 (ha _ (xqj h2))]
  refine A4 (qE9 s[i].toNat) rfl ?_
  simp
  refine⟨fun hc=>?_,fun hc=>?_⟩
  ·simp[Bm]
   exact h1 (xz1.2 ⟨_,xqj h2,hc⟩) i
  ·simp[Bm]
   rw[hK]
   exact q1Y s ha h0 h1 k (i+1) (by omega) (fun j hj b hb=>by
    rcases Nat.lt_succ_iff_lt_or_eq.1 hj with hj|rfl
    ·exact hq j hj b hb
    ·rw[xqg h2]at hb;simp at hb;subst hb;exact hc)
theorem q9h (s:List UInt8) (ha:∀ b∈s,b<128):∃ n:Int,A7 Tryz.prog Γ 233 [tS s,.fn 209 [],tB true] (tI n)/\(0<=n↔qC0 s=true):=by
 have:∃ r,A7 Tryz.prog Γ 233 [tS s,.fn 209 [],tB true] r/\∃ n,r=tI n/\(0<=n↔qC0 s=true):=by
  refine q8r q0z rfl ?_
  simp[Tq,tS,sV]
  refine q1Y s ha (fun h=>?_) (fun h i=>?_) s.length 0 (by omega) (by simp)
  ·simp[L8,h]
  ·simp[L8,h]
 obtain⟨_,h1,n,rfl,h2⟩:=this
 exact⟨n,h1,h2⟩
theorem q6D (s:List UInt8) (ha:∀ b∈s,b<128):∃ n:Int,A7 Tryz.prog Γ 222 [tS s,.fn 209 []] (tI n)/\(0<=n↔qC0 s=true):=by
 obtain⟨n,h1,h2⟩:=q9h (Γ:=Γ) s ha
 refine⟨n,Ac q0y rfl ?_,h2⟩
 simp[Tm]
 refine A4 h1 rfl ?_
 simp[Tn]
theorem q1Z (s:List UInt8) (ha:∀ b∈s,b<128):A7 Tryz.prog Γ 211 [tS s,.fn 209 []] (tB (qC0 s)):=by
 obtain⟨n,h1,h2⟩:=q6D (Γ:=Γ) s ha
 refine Ac Yn rfl ?_
 simp[Ou]
 refine A4 h1 rfl ?_
 simp[Ov,h2]
def q3W (s:List UInt8):Bool:=decide (s≠[]/\s.length<=32) && !qC0 s
theorem qAe (s:List UInt8) (ha:∀ b∈s,b<128):A7 Tryz.prog Γ 194 [tS s] (tB (q3W s)):=by
 refine Ac q2Y rfl ?_
 have h:=q1Z (Γ:=Γ) s ha
 by_cases h1:s=[]
 ·simp[J3,J4,tS,sV,h1,q3W]
 have h1':s.isEmpty=false:=by simpa using h1
 by_cases h2:s.length<=32
 ·have h2':(s.length:Int)<=32:=by omega
  simp[J3,tS,sV,h1,h1',h2']
  refine A4 h rfl ?_
  simp[J4,q3W,h1,h2]
 ·have h2':¬ (s.length:Int)<=32:=by omega
  simp[J3,J4,tS,sV,h1,h1',h2',h2,q3W]
def O8 (c:Bg) (m:Mm):Int :=
 if Un m.addr.l 8=true\/Un m.data.l 32=true then 8 else if m.addr.l.any (Q2 c)=true\/m.data.l.any (Q2 c)=true\/Q2 c m.write=true then 1 else 0
theorem qAf (c:Bg) (m:Mm) (hc:CirOk c) (hm:m.addr.l.length<=1000000000/\m.data.l.length<=1000000000):A7 Tryz.prog Γ 162 [.agg (tC c),.agg (tMm m)] (tI (O8 c m)):=by
 refine Ac q2W rfl ?_
 have hn:=hc.nodes
 have e1:=Xv (Γ:=Γ) c hn m.addr.l m.addr.cap m.addr.nl hm.1
 have e2:=Xv (Γ:=Γ) c hn m.data.l m.data.cap m.data.nl hm.2
 have e3:=Vo (Γ:=Γ) c
 have e4:=q4C (Γ:=Γ) m.addr.l m.addr.cap m.addr.nl 8 hm.1
 have e5:=q4C (Γ:=Γ) m.data.l m.data.cap m.data.nl 32 hm.2
 have e6:=Yp (Γ:=Γ) c m.write hn
 simp[Wy,tC,tMm,A9,Ah,Ap,B8]
 refine B6 e3 rfl ?_
 simp
 refine A4 e4 rfl ?_
 have fin2:∀ b:Bool,b=decide (m.addr.l.any (Q2 c)=true\/m.data.l.any (Q2 c)=true\/Q2 c m.write=true)->(Un m.addr.l 8=false)->(Un m.data.l 32=false)->O8 c m=if b then 1 else 0:=by
  intro b hb h1 h2
  subst hb
  unfold O8
  rw[if_neg (by simp[h1,h2])]
  simp
 by_cases h1:Un m.addr.l 8=true
 ·simp[h1,Dy,O8]
 have h1':Un m.addr.l 8=false:=by simpa using h1
 simp[h1']
 refine A4 e5 rfl ?_
 by_cases h2:Un m.data.l 32=true
 ·simp[h2,Dy,O8]
 have h2':Un m.data.l 32=false:=by simpa using h2
 simp[h2']
 refine A4 e1 rfl ?_
 generalize m.addr.l.any (Q2 c)=b1 at e1 fin2
 generalize m.data.l.any (Q2 c)=b2 at e2 fin2
 generalize Q2 c m.write=b3 at e6 fin2
 cases b1 with
 | true=>simp[Dy,fin2 true (by simp) h1' h2']
 | false =>
  simp
  refine A4 e2 rfl ?_
  cases b2 with
  | true=>simp[Dy,fin2 true (by simp) h1' h2']
  | false =>
   simp
   refine q0L e6 ?_
   cases b3 with
   | true=>simp[Dy,fin2 true (by simp) h1' h2']
   | false=>simp[Dy,fin2 false (by simp) h1' h2']
def q7H (l:List (List UInt8)):List (Value×T):=l.map fun s=>(sV s,tB true)
theorem qI5 (a b:List UInt8):Ku (sV a) (sV b)=decide (a=b):=by
 simp only[Ku,sV]
 by_cases h:a=b
 ·subst h;simp[q4y]
 ·have:¬ (ByteArray.mk a.toArray)=⟨b.toArray⟩:=fun e=>h (by simpa using e)
  have h2:((ByteArray.mk a.toArray)==⟨b.toArray⟩)=false:=by
   cases hq:((ByteArray.mk a.toArray)==⟨b.toArray⟩)
   ·rfl
   ·exact absurd ((q4y _ _).1 hq) this
  rw[h2];simp[h]
theorem q7I (x:List UInt8):∀ l:List (List UInt8),G6 (sV x) (q7H l)=if x∈l then some (tB true)else none
 | []=>rfl
 | y::l=>by
  have ih:=q7I x l
  simp only[q7H,xqm,G6,qI5]at ih ⊢
  by_cases h:x=y
  ·simp[h]
  ·simp[h,ih]
theorem q8w (x:List UInt8):∀ l:List (List UInt8),x∉l->q4q (sV x) (tB true) (q7H l)=q7H (l++[x])
 | [],_=>rfl
 | y::l,h=>by
  have ih:=q8w x l (fun hm=>h (xqf _ hm))
  have hne:x≠y:=fun e=>h (by simp[e])
  simp only[q7H,xqm,q4q,qI5,List.cons_append]at ih ⊢
  simp[hne,ih]
theorem qEA (l:List (List UInt8)):Nu .str (q7H l):=by
 intro e he;obtain⟨s,_,rfl⟩:=xqy.1 he;rfl
def Jf:List (List UInt8)->List (List UInt8)->Int
 | _,[]=>0
 | done,s::l=>if q3W s=false\/s∈done then 5 else Jf (done++[s]) l
theorem q7J {Q:AX->St->Prop} (n:Sl (List UInt8)) (hl:n.l.length<=1000000000) (ha:∀ s∈n.l,∀ b∈s,b<128) (R:Int)
  (h0:R=0->∀ m:List (Value×T),Q (.exit 0) ⟨[(3,.lm 6),(8,.t (Ah n)),(9,.t (tI n.l.length)),(10,.t (tI n.l.length)),(11,.t (tB false))],[(6,.mp m)]⟩)
  (h5:R=5->Q .ret ⟨[(2,.t (tI 5))],[]⟩):∀ (k i:Nat),k+i=n.l.length->Jf (n.l.take i) (n.l.drop i)=R ->
  run Tryz.prog Γ Ju Q ⟨[(3,.lm 6),(8,.t (Ah n)),(9,.t (tI n.l.length)),(10,.t (tI i))],[(6,.mp (q7H (n.l.take i)))]⟩
 | 0,i,h,hR=>by
  refine Qp fun K hK=>?_
  have h2:¬ i<n.l.length:=by omega
  have h3:i=n.l.length:=by omega
  simp[h2,Ah]
  subst h3
  refine h0 ?_ _
  rw[<- hR];simp[Jf]
 | k+1,i,h,hR=>by
  refine Qp fun K hK=>?_
  have h2:i<n.l.length:=by omega
  simp(disch:=omega) [h2,Ah,A5,Cm ([]:List UInt8),Aa]
  refine A4 (qAe n.l[i] (ha _ (xqj h2))) rfl ?_
  have hd:n.l.drop i=n.l[i]::n.l.drop (i+1):=xqq h2
  rw[hd]at hR
  simp only[Jf]at hR
  have ht:n.l.take i++[n.l[i]]=n.l.take (i+1):=by rw[xz7];simp[h2]
  by_cases hq:q3W n.l[i]=true
  ·have hfit:=qEA (n.l.take i)
   simp[hq,tS,KT.fits,sV,hfit]
   rw[show(Value.string ⟨(n.l[i]).toArray⟩)=sV n.l[i] from rfl,q7I]
   by_cases hm:n.l[i]∈n.l.take i
   ·simp[hm]
    refine h5 ?_
    rw[<- hR,if_pos (.inr hm)]
   ·rw[if_neg (by simp[hq,hm]),ht]at hR
    simp(disch:=omega) [hm,sV,KT.fits,hfit,A6]
    rw[hK]
    have:=q7J n hl ha R h0 h5 k (i+1) (by omega) hR
    rw[show(Value.string ⟨(n.l[i]).toArray⟩)=sV n.l[i] from rfl,q8w _ _ hm,ht]
    exact_mod_cast this
  ·have hq':q3W n.l[i]=false:=by simpa using hq
   simp[hq']
   refine h5 ?_
   rw[<- hR,if_pos (.inl hq')]
theorem qC1 (c:Bg) (hc:CirOk c) (ha:∀ s∈c.names.l,∀ b∈s,b<128):A7 Tryz.prog Γ 161 [.agg (tC c)] (tI (Jf [] c.names.l)):=by
 refine Ac q3V rfl ?_
 simp[Xu,tC,A9,Ah,Ap,B8,A5]
 refine q7J c.names hc.names ha (Jf [] c.names.l) (fun h m=>?_) (fun h=>?_) c.names.l.length 0 (by omega) (by simp)
 ·simp[Q1,h]
 ·simp[Q1,h]
def Ds:List Int->Int
 | []=>0
 | e::l=>if e≠0 then e else Ds l
theorem q2j {α:Type} (f:α->Int) (l:List α) (i:Nat) (h:i<l.length):Ds ((l.drop i).map f)=if f l[i]≠0 then f l[i]else Ds ((l.drop (i+1)).map f):=by
 rw[xqq h];rfl
theorem q5o {Q:AX->St->Prop} (hΓ:GOk Γ) (c:Bg) (hc:CirOk c) (R:Int)
  (h0:R=0->Q (.exit 1) ⟨[(1,.t (.ip (tC c) 0)),(36,.t (A9 c.nodes)),(37,.t (tI c.nodes.l.length)),(38,.t (tI c.nodes.l.length)),(39,.t (tB false))],[]⟩)
  (h5:R≠0->Q .ret ⟨[(2,.t (tI R))],[]⟩):∀ (k i:Nat),k+i=c.nodes.l.length->Ds ((c.nodes.l.drop i).map (E6 c))=R ->
  run Tryz.prog Γ Js Q ⟨[(1,.t (.ip (tC c) 0)),(36,.t (A9 c.nodes)),(37,.t (tI c.nodes.l.length)),(38,.t (tI i))],[]⟩
 | 0,i,h,hR=>by
  refine Qn fun K hK=>?_
  have h2:¬ i<c.nodes.l.length:=by omega
  have h3:i=c.nodes.l.length:=by omega
  simp[h2]
  subst h3
  exact h0 (by rw[<- hR];simp[Ds])
 | k+1,i,h,hR=>by
  refine Qn fun K hK=>?_
  have h2:i<c.nodes.l.length:=by omega
  have hn:=hc.nodes
  have hx:=xqj h2
  rw[q2j (E6 c) _ _ h2]at hR
  have e:=qE6 (Γ:=Γ) hΓ c c.nodes.l[i] hc (hc.kind _ hx) (hc.inn _ hx)
  simp(disch:=omega) [h2,A9,Ab,Eb Nd.d,Bj,E3,tC,B8]
  refine A4 e rfl ?_
  by_cases hq:E6 c c.nodes.l[i]=0
  ·rw[if_neg (by simp[hq])]at hR
   simp(disch:=omega) [hq,A6]
   rw[hK]
   have:=q5o hΓ c hc R h0 h5 k (i+1) (by omega) hR
   simpa[tC,A9,B8]using this
  ·rw[if_pos (by simpa using hq)]at hR
   simp[hq]
   rw[hR]
   exact h5 (by rw[<- hR];exact hq)
theorem q7K {Q:AX->St->Prop} (c:Bg) (hc:CirOk c) (R:Int)
  (h0:R=0->Q (.exit 3) ⟨[(1,.t (.ip (tC c) 0)),(55,.t (Ap c.mems)),(56,.t (tI c.mems.l.length)),(57,.t (tI c.mems.l.length)),(58,.t (tB false))],[]⟩)
  (h5:R≠0->Q .ret ⟨[(2,.t (tI R))],[]⟩):∀ (k i:Nat),k+i=c.mems.l.length->Ds ((c.mems.l.drop i).map (O8 c))=R ->
  run Tryz.prog Γ Jt Q ⟨[(1,.t (.ip (tC c) 0)),(55,.t (Ap c.mems)),(56,.t (tI c.mems.l.length)),(57,.t (tI i))],[]⟩
 | 0,i,h,hR=>by
  refine Qo fun K hK=>?_
  have h2:¬ i<c.mems.l.length:=by omega
  have h3:i=c.mems.l.length:=by omega
  simp[h2]
  subst h3
  exact h0 (by rw[<- hR];simp[Ds])
 | k+1,i,h,hR=>by
  refine Qo fun K hK=>?_
  have h2:i<c.mems.l.length:=by omega
  have hn:=hc.mems
  have hx:=xqj h2
  rw[q2j (O8 c) _ _ h2]at hR
  have e:=qAf (Γ:=Γ) c c.mems.l[i] hc (hc.addr _ hx)
  simp(disch:=omega) [h2,Ap,Ab,Eb Mm.d,q4B,tMm,tC,B8]
  refine A4 e rfl ?_
  by_cases hq:O8 c c.mems.l[i]=0
  ·rw[if_neg (by simp[hq])]at hR
   simp(disch:=omega) [hq,A6]
   rw[hK]
   have:=q7K c hc R h0 h5 k (i+1) (by omega) hR
   simpa[tC,Ap,B8]using this
  ·rw[if_pos (by simpa using hq)]at hR
   simp[hq]
   rw[hR]
   exact h5 (by rw[<- hR];exact hq)
def E4 (c:Bg):Int :=
 if 16384<c.nodes.l.length\/16<c.mems.l.length\/16384<c.outs.l.length then 3 else if c.names.l.length≠c.nodes.l.length then 8
 else if Ds (c.nodes.l.map (E6 c))≠0 then Ds (c.nodes.l.map (E6 c))
 else if Jf [] c.names.l≠0 then Jf [] c.names.l
 else if Ds (c.mems.l.map (O8 c))≠0 then Ds (c.mems.l.map (O8 c))
 else if c.outs.l.any (Q2 c)=true then 1 else 0
theorem qC2 (hΓ:GOk Γ) (c:Bg) (hc:CirOk c) (ha:∀ s∈c.names.l,∀ b∈s,b<128):A7 Tryz.prog Γ 103 [.agg (tC c)] (tI (E4 c)):=by
 refine Ac q3U rfl ?_
 have hn:=hc.nodes
 have hm:=hc.mems
 have ho:=hc.outs
 have hnn:=hc.names
 have en:=qC1 (Γ:=Γ) c hc ha
 have eo:=Vo (Γ:=Γ) c
 have ec:=Xv (Γ:=Γ) c hn c.outs.l c.outs.cap c.outs.nl ho
 by_cases h1:16384<c.nodes.l.length\/16<c.mems.l.length\/16384<c.outs.l.length
 ·have:E4 c=3:=by unfold E4;rw[if_pos h1]
  rw[this]
  by_cases g1:(16384:Int)<c.nodes.l.length
  ·simp[F9,D5,tC,A9,Ah,Ap,B8,Ab,A5,g1]
  by_cases g2:(16:Int)<c.mems.l.length
  ·simp[F9,D5,tC,A9,Ah,Ap,B8,Ab,A5,g1,g2]
  have g3:(16384:Int)<c.outs.l.length:=by omega
  simp[F9,D5,tC,A9,Ah,Ap,B8,Ab,A5,g1,g2,g3]
 have g1:¬ (16384:Int)<c.nodes.l.length:=by omega
 have g2:¬ (16:Int)<c.mems.l.length:=by omega
 have g3:¬ (16384:Int)<c.outs.l.length:=by omega
 by_cases h2:c.names.l.length=c.nodes.l.length
 case neg =>
  have:E4 c=8:=by unfold E4;rw[if_neg h1,if_pos h2]
  have h2':¬ (c.names.l.length:Int)=c.nodes.l.length:=by omega
  rw[this]
  simp[F9,D5,tC,A9,Ah,Ap,B8,Ab,A5,g1,g2,g3,h2']
 simp[F9,tC,A9,Ah,Ap,B8,Ab,A5,g1,g2,g3,h2]
 have e0:E4 c=if Ds (c.nodes.l.map (E6 c))≠0 then Ds (c.nodes.l.map (E6 c))
   else if Jf [] c.names.l≠0 then Jf [] c.names.l
   else if Ds (c.mems.l.map (O8 c))≠0 then Ds (c.mems.l.map (O8 c))
   else if c.outs.l.any (Q2 c)=true then 1 else 0:=by
  unfold E4;rw[if_neg h1,if_neg (by simp[h2])]
 refine q5o hΓ c hc (Ds (c.nodes.l.map (E6 c))) (fun h3=>?_) (fun h3=>?_) c.nodes.l.length 0 (by omega) (by simp)
 case refine_2 =>
  rw[if_pos h3]at e0
  simp[D5,e0]
 rw[if_neg (by rw[h3];decide)]at e0
 simp[tC,A9,Ah,Ap,B8]
 refine A4 en rfl ?_
 by_cases h4:Jf [] c.names.l=0
 case neg =>
  rw[if_pos h4]at e0
  simp[h4,D5,e0]
 rw[if_neg (by rw[h4];decide)]at e0
 simp[h4,Ab]
 refine q7K c hc (Ds (c.mems.l.map (O8 c))) (fun h5=>?_) (fun h5=>?_) c.mems.l.length 0 (by omega) (by simp)
 case refine_2 =>
  rw[if_pos h5]at e0
  simp[D5,e0]
 rw[if_neg (by rw[h5];decide)]at e0
 simp[tC,A9,Ah,Ap,B8]
 refine B6 eo rfl ?_
 simp
 refine A4 ec rfl ?_
 generalize c.outs.l.any (Q2 c)=b at e0
 cases b<;>simp[D5,e0]
def Rl (ks:List Int):List Nd->Nat->List Int
 | [],_=>[]
 | x::l,i=>if ks.contains x.k then(i:Int)::Rl ks l (i+1)else Rl ks l (i+1)
theorem q4E (ks:List Int):∀ (a b:List Nd) (i:Nat),Rl ks (a++b) i=Rl ks a i++Rl ks b (i+a.length)
 | [],b,i=>by simp[Rl]
 | x::a,b,i=>by
  have:=q4E ks a b (i+1)
  simp only[List.cons_append,Rl,this,xq8]
  split<;>simp[Nat.add_assoc,Nat.add_comm 1]
theorem q0M (ks:List Int):∀ (a:List Nd) (i:Nat),(Rl ks a i).length<=a.length
 | [],_=>by simp[Rl]
 | x::a,i=>by
  have:=q0M ks a (i+1)
  simp only[Rl]
  split<;>simp<;>omega
theorem qCx {Q:AX->St->Prop} (n:Sl Nd) (hl:n.l.length<=1000000000) (ks:List Int) (kc:Option Nat) (kn:Option Bool) (hk:ks.length<=1000000000)
  (h0:Q (.exit 0) ⟨[(1,.t (.sl (An tK ks) kc kn)),(5,.ls 23 0 (Rl ks n.l 0).length none),(9,.t (A9 n)),(10,.t (tI n.l.length)),(11,.t (tI n.l.length)),(12,.t (tB false))],[(23,.sl 3 1 (Av (Rl ks n.l 0)))]⟩):∀ (k i:Nat),k+i=n.l.length ->
  run Tryz.prog Γ Po Q ⟨[(1,.t (.sl (An tK ks) kc kn)),(5,.ls 23 0 (Rl ks (n.l.take i) 0).length none),(9,.t (A9 n)),(10,.t (tI n.l.length)),(11,.t (tI i))],[(23,.sl 3 1 (Av (Rl ks (n.l.take i) 0)))]⟩
 | 0,i,h=>by
  refine Wh fun K hK=>?_
  have h2:¬ i<n.l.length:=by omega
  have h3:i=n.l.length:=by omega
  simp[h2]
  subst h3
  simpa using h0
 | k+1,i,h=>by
  refine Wh fun K hK=>?_
  have h2:i<n.l.length:=by omega
  have ht:n.l.take (i+1)=n.l.take i++[n.l[i]]:=by rw[xz7];simp[h2]
  have hlen:=q0M ks (n.l.take i) 0
  have htl:(n.l.take i).length=i:=by simp;omega
  have hal:Rl ks (n.l.take (i+1)) 0=if ks.contains n.l[i].k then Rl ks (n.l.take i) 0++[(i:Int)]else Rl ks (n.l.take i) 0:=by
   rw[ht,q4E,htl]
   simp only[Rl,xjc]
   split<;>simp
  have e:=q8I (Γ:=Γ) ks kc kn n.l[i].k hk
  simp(disch:=omega) [h2,A9,Ab,Eb Nd.d,Bj,E3,B8]
  refine A4 e rfl ?_
  generalize ks.contains n.l[i].k=b at hal
  have ih:=qCx n hl ks kc kn hk h0 k (i+1) (by omega)
  rw[hal]at ih
  cases b with
  | false =>
   simp(disch:=omega) [A6]
   rw[hK]
   simpa[A9]using ih
  | true =>
   have hw:Es 1 [[tI (i:Int)]]:=by intro e he;simp at he;subst he;rfl
   simp(disch:=omega) [A6,A5,Aa,hw]
   rw[hK]
   simp[A9]at ih
   rw[Gy (f:=tI) (x:=(i:Int))]
   exact⟨by omega,ih⟩
theorem qH8 (c:Bg) (hc:CirOk c) (ks:List Int) (kc:Option Nat) (kn:Option Bool) (hk:ks.length<=1000000000) :
  A7 Tryz.prog Γ 102 [.agg (tC c),.sl (An tK ks) kc kn] (.sl (Av (Rl ks c.nodes.l 0)) (some (Rl ks c.nodes.l 0).length) none):=by
 refine Ac q6B rfl ?_
 simp[q1P,tC,A9,Ah,Ap,B8,Ab]
 refine qCx c.nodes hc.nodes ks kc kn hk ?_ c.nodes.l.length 0 (by omega)
 simp
 refine⟨_,_,q7E 3 (Av (Rl ks c.nodes.l 0)) (Rl ks c.nodes.l 0).length none Aa,?_⟩
 simp[q1Q]
abbrev Kt:=List (Int×Int)
def tLn (p:Int×Int):List T:=[tI p.1,tI p.2]
def q7L (i:Nat) (r:Kt):AV:=if r=[]then .t (.sl [] (some 0) (some true))else .ls (100000+i) 0 r.length none
def Da (rows:List Kt):List AV:=rows.mapIdx q7L
def L9 (rows:List Kt) (id:Nat):Option Aw:=match rows[id-100000]? with
 | some r=>if r=[]then none else some (.sl 113 2 (Bo tLn r))
 | none=>none
def La (k:Nat) (g:Nat->Option Aw):List (Nat×Aw):=(List.range' 100000 k).filterMap fun id=>(g id).map fun r=>(id,r)
def Dh (rows:List Kt):List (Nat×Aw):=La 16384 (L9 rows)
theorem q7M {α β:Type} {f g:α->Option β}:∀ {l:List α},(∀ x∈l,f x=g x)->l.filterMap f=l.filterMap g
 | [],_=>rfl
 | x::l,h=>by
  rw[List.filterMap_cons,List.filterMap_cons,h x xqh,q7M (l:=l) fun y hy=>h y (xqf _ hy)]
theorem qH9 {l:List Nat} {g:Nat->Option Aw} {t:Nat}:A0 (l.filterMap fun id=>(g id).map fun r=>(id,r)) t=if t∈l then g t else none:=by
 induction l with
 | nil=>simp[A0]
 | cons k l ih =>
  rw[List.filterMap_cons]
  cases hg:g k with
  | none =>
   simp only[xzx,ih]
   by_cases h:t=k
   ·subst h;simp[hg]
   ·simp[h]
  | some r =>
   simp only[xql,A0,ih]
   by_cases h:k=t
   ·subst h;simp[hg]
   ·simp[h,Ne.symm h]
theorem O9 {k:Nat} {g:Nat->Option Aw} {t:Nat}:A0 (La k g) t=if 100000<=t/\t<100000+k then g t else none:=by
 unfold La;rw[qH9]
 by_cases h:100000<=t/\t<100000+k
 ·rw[if_pos h,if_pos (by rw[List.mem_range'_1];exact h)]
 ·rw[if_neg h,if_neg (by rw[List.mem_range'_1];exact h)]
theorem q8x {rows:List Kt} {l:List (Nat×Aw)} (h:∀ t∈List.range' 100000 16384,A0 l t=L9 rows t):Lg.keep (List.range' 100000 16384) l=Dh rows:=by
 unfold Lg.keep Dh La
 exact q7M fun t ht=>by rw[h t ht]
theorem q5F {env:List (Nat×AV)} {hp:List (Nat×Aw)} {ks:List Nat} {rows:List Kt} (hk:(hp.map (·.1)).filter (fun id=>!([14]:List Nat).contains id && !(decide (100000<=id)&&decide (id<100000+16384)))=[])
  (h14:A0 hp 14=some (.bx (Da rows))) (hr:∀ t,100000<=t->t<116384->A0 hp t=L9 rows t) :
  Gh.run (.keepB ks [14] 100000 16384) ⟨env,hp⟩=⟨Lg.keep ks env,(14,.bx (Da rows))::Dh rows⟩:=by
 simp only[Gh.run,q6X,hk,Ho,q5C,h14,q7A,List.cons_append,List.nil_append]
 congr 2
 simp only[Lg.keep,Dh,La]
 refine q7M fun t ht=>?_
 rw[List.mem_range'_1]at ht
 rw[hr t ht.1 (by omega)]
theorem Z8 {k:Nat} {g:Nat->Option Aw}:∀ p∈La k g,100000<=p.1/\p.1<100000+k:=by
 intro p hp
 obtain⟨id,hid,he⟩:=List.mem_filterMap.1 hp
 rw[List.mem_range'_1]at hid
 cases hg:g id with
 | none=>rw[hg]at he;cases he
 | some r=>rw[hg]at he;simp at he;subst he;exact hid
theorem q5p {rows:List Kt}:((Dh rows).map (·.1)).filter (fun id=>!([14]:List Nat).contains id && !(decide (100000<=id)&&decide (id<100000+16384)))=[]:=by
 rw[List.filter_eq_nil_iff]
 intro id hid
 obtain⟨p,hp,rfl⟩:=xqy.1 hid
 have:=Z8 p hp
 simp[this.1,this.2]
theorem q2O {rows:List Kt} {t:Nat}:A0 ((14,.bx (Da rows))::Dh rows) t=if t=14 then some (.bx (Da rows))else if 100000<=t/\t<116384 then L9 rows t else none:=by
 simp only[A0,Dh,O9]
 by_cases h:t=14
 ·simp[h]
 ·simp[h,Ne.symm h]
theorem Vp {env:List (Nat×AV)} {ks:List Nat} {rows:List Kt}:Gh.run (.keepB ks [14] 100000 16384) ⟨env,(14,.bx (Da rows))::Dh rows⟩=⟨Lg.keep ks env,(14,.bx (Da rows))::Dh rows⟩:=by
 refine q5F ?_ (by simp[A0]) fun t h1 h2=>?_
 ·rw[xqm,xzu];simp only[q5p];simp
 ·rw[q2O,if_neg (by omega),if_pos ⟨h1,h2⟩]
theorem q9i {id:Nat} (h:id<100000) (rows:List Kt):(Da rows).map (Ae id)=Da rows:=by
 apply List.ext_getElem?
 intro i
 simp only[Da,xqr,xja,Option.map_map]
 cases rows[i]? with
 | none=>rfl
 | some r =>
  simp only[xql,Function.comp_def,q7L]
  split
  ·rfl
  ·simp only[Ae,kill1];rw[if_neg (by omega)]
theorem qHA {env:List (Nat×AV)} {ks:List Nat} {rows:List Kt} {q:Aw}:Gh.run (.keepB ks [14] 100000 16384) ⟨env,(6,q)::(14,.bx (Da rows))::Dh rows⟩=⟨(Lg.keep ks env).map (fun p=>(p.1,Ae 6 p.2)),(14,.bx (Da rows))::Dh rows⟩:=by
 have hk:(((6,q)::(14,Aw.bx (Da rows))::Dh rows).map (·.1)).filter (fun id=>!([14]:List Nat).contains id && !(decide (100000<=id)&&decide (id<100000+16384)))=[6]:=by
  rw[xqm,xqm,xzu,xzu];simp only[q5p];simp
 have hl:∀ t,t≠6->A0 (St.kill 6 ⟨Lg.keep ks env,(6,q)::(14,.bx (Da rows))::Dh rows⟩).hp t=A0 ((14,.bx (Da rows))::Dh rows) t:=by
  intro t ht
  rw[Lp,if_neg ht]
  show(A0 ((6,q)::(14,.bx (Da rows))::Dh rows) t).map _=_
  rw[A0,if_neg (Ne.symm ht),q2O]
  by_cases h:t=14
  ·simp[h,Bd,q9i]
  ·simp only[h,↓reduceIte]
   split
   ·unfold L9
    split
    ·split<;>simp[Bd]
    ·rfl
   ·rfl
 simp only[Gh.run,q6X,hk,Ho,q5C,q7A,List.cons_append,List.nil_append]
 rw[hl 14 (by omega)]
 simp only[A0,↓reduceIte,List.cons_append,List.nil_append]
 congr 2
 refine q8x fun t ht=>?_
 rw[List.mem_range'_1]at ht
 rw[hl t (by omega),q2O,if_neg (by omega),if_pos ⟨ht.1,by omega⟩]
def Ia (rows:List Kt) (n:Nat) (p:Int×Int):List Kt:=rows.set n (rows.getD n []++[p])
theorem q3X {rows:List Kt} {n:Nat} {p:Int×Int}:(Ia rows n p).length=rows.length:=by simp[Ia]
theorem qEB {env:List (Nat×AV)} {ks:List Nat} {rows:List Kt} {n:Nat} {p:Int×Int} {hp:List (Nat×Aw)} {cs:List AV} (hn:n<rows.length) (hn2:rows.length<=16384)
  (hlen:cs.length=rows.length) (hcs:∀ i,i≠n->cs[i]? = (Da rows)[i]?) (hc:cs[n]? = some (.ls 47 0 ((rows.getD n []).length+1) none)) (h47:A0 hp 47=some (.sl 113 2 (Bo tLn (rows.getD n []++[p])))) (h14:A0 hp 14=some (.bx cs))
  (hno:A0 hp (100000+n)=none) (hoth:∀ t,100000<=t->t<116384->t≠100000+n->A0 hp t=L9 rows t) (hkeys:∀ q∈hp,q.1=47\/q.1=14\/(100000<=q.1/\q.1<116384)) :
  Gh.run (.keepB ks [14] 100000 16384) (Uw 47 (100000+n) ⟨env,hp⟩)=⟨(Lg.keep ks (env.map fun q=>(q.1,A8 (Aq 47 (100000+n)) q.2))),(14,.bx (Da (Ia rows n p)))::Dh (Ia rows n p)⟩:=by
 have hr:Uw 47 (100000+n) ⟨env,hp⟩=⟨env.map fun q=>(q.1,A8 (Aq 47 (100000+n)) q.2),Jd 47 (100000+n) hp⟩:=by
  unfold Uw
  rw[if_pos]
  simp[hno,h47];omega
 rw[hr]
 have hget:∀ i,(Ia rows n p)[i]? = if i=n then some (rows.getD n []++[p])else rows[i]? := by
  intro i
  unfold Ia
  rw[xzb]
  by_cases h:n=i
  ·subst h;simp[hn]
  ·simp[h,Ne.symm h]
 have hl:=fun t=>q0G (a:=47) (b:=100000+n) (t:=t) hno (by omega)
 refine q5F ?_ ?_ fun t h1 h2=>?_
 ·rw[List.filter_eq_nil_iff]
  intro id hid
  have:id=100000+n\/id≠47/\∃ q∈hp,q.1=id:=by
   clear hl hr hno hoth h14 h47
   induction hp with
   | nil=>simp[Jd]at hid
   | cons q l ih =>
    obtain⟨k,r⟩:=q
    simp only[Jd,xqm,xqv]at hid
    rcases hid with hid|hid
    ·by_cases h:k=47
     ·left;simpa[h]using hid
     ·right;simp[h]at hid;subst hid;exact⟨h,_,xqh,rfl⟩
    ·rcases ih (fun q hq=>hkeys q (xqf _ hq)) hid with h|⟨h,q,hq,e⟩
     ·exact .inl h
     ·exact .inr ⟨h,q,xqf _ hq,e⟩
  rcases this with h|⟨h,q,hq,rfl⟩
  ·subst h;simp;intro _;omega
  ·rcases hkeys q hq with e|e|⟨e1,e2⟩
   ·exact absurd e h
   ·simp[e]
   ·simp;intro _;omega
 ·rw[hl,if_neg (by omega),if_neg (by omega),h14]
  simp only[xql,Au,xqa,Aw.bx.injEq]
  apply List.ext_getElem?
  intro i
  simp only[xqr,Da,xja]
  rw[hget]
  by_cases h:i=n
  ·subst h
   rw[hc]
   have:¬ (rows.getD i []++[p]=[]):=by simp
   simp only[↓reduceIte,xql,xqa]
   unfold q7L
   rw[if_neg this]
   simp[A8,ren1,ren0,Aq]
  ·rw[hcs i h,if_neg h]
   simp only[Da,xja,Option.map_map]
   cases hrow:rows[i]? with
   | none=>rfl
   | some r =>
    simp only[xql,Function.comp_def,q7L,xqa]
    split
    ·rfl
    ·simp only[A8,ren1,ren0,Aq];rw[if_neg (by omega)]
 ·rw[hl]
  by_cases h:t=100000+n
  ·rw[if_pos h,h47]
   subst h
   unfold L9
   rw[show 100000+n-100000=n by omega,hget,if_pos rfl]
   simp[Au]
  ·rw[if_neg h,if_neg (by omega),hoth t h1 h2 h]
   unfold L9
   rw[hget,if_neg (by omega)]
   cases rows[t-100000]? with
   | none=>rfl
   | some r=>simp only;split<;>simp[Au]
def q5G (k i:Nat) (r:Kt):AV:=if r=[]then .t (.sl [] (some 0) (some true))else if k<=i then .t (.sl (Bo tLn r) none none)else .ls (100000+i) 0 r.length none
theorem qFF {env:List (Nat×AV)} {rows:List Kt} (he:∀ id r,100000<=id->∀ p∈env,C6 id r p.2=p.2) (k:Nat):St.freeze (100000+k) ⟨env,(14,.bx (rows.mapIdx (q5G (k+1))))::La (k+1) (L9 rows)⟩=⟨env,(14,.bx (rows.mapIdx (q5G k)))::La k (L9 rows)⟩:=by
 have hsplit:La (k+1) (L9 rows)=La k (L9 rows)++(match L9 rows (100000+k) with|some r=>[(100000+k,r)] | none=>[]):=by
  unfold La
  rw[<- List.range'_append (s:=100000) (m:=k) (n:=1) (step:=1)]
  rw[List.filterMap_append]
  congr 1
  cases hr:L9 rows (100000+k)<;>simp[hr]
 have hl:A0 ((14,Aw.bx (rows.mapIdx (q5G (k+1))))::La (k+1) (L9 rows)) (100000+k)=L9 rows (100000+k):=by
  rw[A0,if_neg (by omega),O9,if_pos (by omega)]
 simp only[St.freeze,hl]
 cases hr:L9 rows (100000+k) with
 | none =>
  rw[hr]at hsplit
  simp only[hsplit,List.append_nil]
  refine congrArg (fun l=>(⟨env,(14,Aw.bx l)::La k (L9 rows)⟩:St)) ?_
  apply List.ext_getElem?
  intro i
  simp only[xja]
  cases hi:rows[i]? with
  | none=>rfl
  | some r =>
   simp only[xql,q5G]
   by_cases h0:r=[]
   ·simp[h0]
   ·by_cases hik:i=k
    ·subst hik
     unfold L9 at hr
     rw[show 100000+i-100000=i by omega,hi]at hr
     simp[h0]at hr
    ·have:(k+1<=i)=(k<=i):=by apply propext;omega
     simp[this]
 | some q =>
  obtain⟨r,hrow,hne,rfl⟩:∃ r,rows[k]? = some r/\r≠[]/\q=.sl 113 2 (Bo tLn r):=by
   unfold L9 at hr
   rw[show 100000+k-100000=k by omega]at hr
   split at hr
   ·rename_i r h
    split at hr
    ·cases hr
    ·rename_i hne;simp only[xqa]at hr;exact⟨r,h,hne,hr.symm⟩
   ·cases hr
  rw[hr]at hsplit
  simp only[Aw.closed,↓reduceIte]
  have e1:env.map (fun p=>(p.1,C6 (100000+k) (.sl 113 2 (Bo tLn r)) p.2))=env:=by
   conv=>rhs;rw[<- List.map_id env]
   refine xq1 fun p hp=>?_
   rw[he _ _ (by omega) p hp];rfl
  have e2:del (100000+k) ((14,Aw.bx (rows.mapIdx (q5G (k+1))))::La (k+1) (L9 rows))=(14,Aw.bx (rows.mapIdx (q5G (k+1))))::La k (L9 rows):=by
   rw[hsplit]
   unfold del
   rw[xzu,if_pos (by simp;omega),List.filter_append]
   congr 1
   have h1:(La k (L9 rows)).filter (fun p=>p.1 != 100000+k)=La k (L9 rows):=by
    rw[List.filter_eq_self]
    intro p hp
    have:=Z8 p hp
    simp;omega
   rw[h1];simp
  rw[e1,e2]
  have e3:(La k (L9 rows)).map (fun p=>(p.1,Ej (100000+k) (.sl 113 2 (Bo tLn r)) p.2))=La k (L9 rows):=by
   conv=>rhs;rw[<- List.map_id (La k (L9 rows))]
   refine xq1 fun p hp=>?_
   obtain⟨id,hid,hee⟩:=List.mem_filterMap.1 hp
   cases hg:L9 rows id with
   | none=>rw[hg]at hee;cases hee
   | some q =>
    rw[hg]at hee
    simp only[xql,xqa]at hee;subst hee
    unfold L9 at hg
    split at hg
    ·split at hg
     ·cases hg
     ·simp only[xqa]at hg;subst hg;rfl
    ·cases hg
  rw[xqm,e3]
  refine congrArg (fun l=>(⟨env,(14,Aw.bx l)::La k (L9 rows)⟩:St)) ?_
  apply List.ext_getElem?
  intro i
  simp only[xqr,xja,Option.map_map]
  cases hi:rows[i]? with
  | none=>rfl
  | some r' =>
   simp only[xql,Function.comp_def,q5G]
   by_cases h0:r'=[]
   ·simp[h0,C6,frz1,frz0]
   ·simp only[h0,↓reduceIte]
    by_cases hik:i=k
    ·subst hik
     rw[hrow]at hi;cases hi
     rw[if_neg (by omega),if_pos (xzo _)]
     simp[C6,frz1,frz0,Aj,A0]
    ·by_cases hlt:k+1<=i
     ·rw[if_pos hlt,if_pos (by omega)];rfl
     ·rw[if_neg hlt,if_neg (by omega)]
      simp only[C6,frz1,frz0]
      rw[if_neg (by omega)]
theorem qCy {env:List (Nat×AV)} {rows:List Kt} (he:∀ id r,100000<=id->∀ p∈env,C6 id r p.2=p.2):∀ k,qBu 100000 k ⟨env,(14,.bx (rows.mapIdx (q5G k)))::La k (L9 rows)⟩=⟨env,(14,.bx (rows.mapIdx (q5G 0)))::[]⟩
 | 0=>by simp[qBu,La]
 | k+1=>by
  rw[qBu,qFF he k]
  exact qCy he k
def q8K (r:Kt):T:=if r=[]then .sl [] (some 0) (some true)else .sl (Bo tLn r) none none
theorem qFG {env:List (Nat×AV)} {rows:List Kt} (hl:rows.length<=16384) (he:∀ id r,100000<=id->∀ p∈env,C6 id r p.2=p.2):Gh.run (.frzs 100000 16384) ⟨env,(14,.bx (Da rows))::Dh rows⟩=⟨env,[(14,.bx (rows.map fun r=>.t (q8K r)))]⟩:=by
 have h1:Da rows=rows.mapIdx (q5G 16384):=by
  apply List.ext_getElem?
  intro i
  simp only[Da,xja]
  cases hi:rows[i]? with
  | none=>rfl
  | some r =>
   have:=(xqi.1 hi).1
   simp only[xql,q7L,q5G]
   rw[if_neg (show ¬ 16384<=i by omega)]
 have h2:rows.mapIdx (q5G 0)=rows.map fun r=>.t (q8K r):=by
  apply List.ext_getElem?
  intro i
  simp only[xja,xqr]
  cases rows[i]? with
  | none=>rfl
  | some r =>
   simp only[xql,q5G,q8K,Nat.zero_le,↓reduceIte]
   split<;>rfl
 have:=qCy (rows:=rows) he 16384
 rw[h2]at this
 simp only[Gh.run,h1,Dh]
 exact this
theorem Rm {rows:List Kt}:(Da rows).length=rows.length:=by simp[Da]
theorem qFH {rows:List Kt} {n:Nat} (h:n<rows.length):((Da rows).drop n).take 1=[q7L n (rows.getD n [])]:=by
 have:(Da rows).drop n=q7L n (rows.getD n [])::(Da rows).drop (n+1):=by
  rw[xqq (by rw[Rm];exact h)]
  simp[Da,h]
 rw[this];rfl
theorem q0N {l:Kt}:Es 2 (Bo tLn l):=q48 fun _=>rfl
theorem qJK {Q:AX->St->Prop} (rows:List Kt) (n:Nat) (hn:n<rows.length) (hn2:rows.length<=16384) (i k:Int) (hr:(rows.getD n []).length<=1000000000) (t4 t18 t19 t20 t26 t27 t28 t36:T) (m:Nat) (hm:m=rows.length)
  (h:Q .normal ⟨[(3,.lb 14 m),(4,.t t4),(5,.t (tI i)),(18,.t t18),(19,.t t19),(20,.t t20),(26,.t t26),(27,.t t27),(28,.t t28)],(14,.bx (Da (Ia rows n (i,k))))::Dh (Ia rows n (i,k))⟩) :
  Gt Tryz.prog Γ Ef ⟨[(3,.lb 14 m),(4,.t t4),(5,.t (tI i)),(7,.t (tI k)),(8,.t (tI n)),(18,.t t18),(19,.t t19),(20,.t t20),(26,.t t26),(27,.t t27),(28,.t t28),(36,.t t36)],(14,.bx (Da rows))::Dh rows⟩
   (fun s1=>Q .normal (ghs [.renS 47 100000 8,.keepB [3,4,5,18,19,20,26,27,28] [14] 100000 16384] s1)) ⟨⟩:=by
 subst hm
 have hw:Es 2 [[tI i,tI k]]:=by intro e he;simp at he;subst he;rfl
 have hlk47:A0 (Dh rows) 47=none:=by rw[Dh,O9,if_neg (by omega)]
 have hat:=qFH hn
 have hlk:A0 (Dh rows) (100000+n)=if rows.getD n []=[]then none else some (.sl 113 2 (Bo tLn (rows.getD n []))):=by
  rw[Dh,O9,if_pos (by omega)]
  unfold L9
  rw[show 100000+n-100000=n by omega,xqg hn]
  simp[hn]
 have hadd:Ia rows n (i,k)=rows.set n (rows.getD n []++[(i,k)]):=rfl
 have fin:=@qEB
 generalize hrow:rows.getD n []=row at hr hat hlk hadd
 have hlen1:n+1<=rows.length:=hn
 have hset:∀ (j:Nat),j≠n->∀ (l:List AV) (x:AV),l.length=rows.length->(l.take n++x::l.drop (n+1))[j]? = l[j]? := by
  intro j hj l x hl
  rw[xq7]
  by_cases hlt:j<n
  ·rw[if_pos (by simp;omega),xq0,if_pos hlt]
  ·rw[if_neg (by simp;omega)]
   have e:(l.take n).length=n:=by simp;omega
   rw[e,show j-n=(j-n-1)+1 by omega,xzr,xzc]
   congr 1;omega
 have hseta:∀ (l:List AV) (x:AV),l.length=rows.length->(l.take n++x::l.drop (n+1))[n]? = some x:=by
  intro l x hl
  rw[xq7,if_neg (by simp;omega)]
  have e:(l.take n).length=n:=by simp;omega
  rw[e];simp
 by_cases h0:row=[]
 ·subst h0
  simp only[q7L,↓reduceIte]at hat hlk
  simp(disch:=omega) [-Gh.run,G5,hat,Rm,hn,hw,hlk47,hlen1]
  rw[show ∀ st,A0 st.env 8=some (.t (tI n))->(Gh.renS 47 100000 8).run st=Uw 47 (100000+n) st from fun st hs=>by simp[Gh.run,hs]]
  rw[fin (p:=(i,k)) hn hn2 (by simp[Rm];omega) (fun j hj=>hset j hj _ _ Rm) (by rw[hseta _ _ Rm,hrow];first|done|rfl) (by rw[hrow];first|done|rfl) (by simp[A0]) (by rw[A0,if_neg (by omega),A0,if_neg (by omega)];exact hlk) (fun t h1 h2 h3=>?_) (fun q hq=>?_)]
  ·simpa[A8,ren1,ren0,Aq]using h
  ·rw[A0,if_neg (by omega),A0,if_neg (by omega),Dh,O9,if_pos (by omega)]
  ·rcases xqv.1 hq with rfl|hq
   ·exact .inl rfl
   ·rcases xqv.1 hq with rfl|hq
    ·exact .inr (.inl rfl)
    ·have:=Z8 q hq;exact .inr (.inr (by omega))
  ·rfl
 ·simp only[q7L,h0,↓reduceIte]at hat hlk
  have h14:¬ 14=100000+n:=by omega
  have htl:∀ t,A0 ((Dh rows).filter fun p=>p.1 != 100000+n) t=if t=100000+n then none else A0 (Dh rows) t:=fun t=>q17 (100000+n) (Dh rows) t
  have hkl:∀ l:List (Nat×Aw),(∀ p∈l,p∈Dh rows)->l.map (fun p=>(p.1,Bd (100000+n) p.2))=l:=by
   intro l hl
   conv=>rhs;rw[<- List.map_id l]
   refine xq1 fun p hp=>?_
   obtain⟨id,hid,hee⟩:=List.mem_filterMap.1 (hl p hp)
   cases hg:L9 rows id with
   | none=>rw[hg]at hee;cases hee
   | some q =>
    rw[hg]at hee
    simp only[xql,xqa]at hee;subst hee
    unfold L9 at hg
    split at hg
    ·split at hg
     ·cases hg
     ·simp only[xqa]at hg;subst hg;rfl
    ·cases hg
  have hk:(del (100000+n) ((14,Aw.bx (Da rows))::Dh rows)).map (fun p=>(p.1,Bd (100000+n) p.2))=(14,.bx ((Da rows).map (Ae (100000+n))))::(Dh rows).filter fun p=>p.1 != 100000+n:=by
   have e:del (100000+n) ((14,Aw.bx (Da rows))::Dh rows)=(14,Aw.bx (Da rows))::(Dh rows).filter fun p=>p.1 != 100000+n:=by
    unfold del
    rw[xzu,if_pos (by simp;omega)]
   rw[e,xqm,hkl _ (fun p hp=>(xzi.1 hp).1)]
   rfl
  have hl47:A0 ((Dh rows).filter fun p=>p.1 != 100000+n) 47=none:=by rw[htl,if_neg (by omega)];exact hlk47
  generalize htail:(Dh rows).filter (fun p=>p.1 != 100000+n)=tl at htl hk hl47
  have hkeys:∀ q∈tl,100000<=q.1/\q.1<116384:=by
   intro q hq
   rw[<- htail]at hq
   have:=Z8 q (xzi.1 hq).1
   omega
  have hcs:∀ j,j≠n->((Da rows).map (Ae (100000+n)))[j]? = (Da rows)[j]? := by
   intro j hj
   simp only[Da,xqr,xja,Option.map_map]
   cases rows[j]? with
   | none=>rfl
   | some r =>
    simp only[xql,Function.comp_def,q7L]
    split
    ·rfl
    ·simp only[Ae,kill1];rw[if_neg (by omega)]
  have hcl:((Da rows).map (Ae (100000+n))).length=rows.length:=by simp[Rm]
  simp(disch:=omega) [-Gh.run,G5,-del,-Bd,hat,Rm,hn,hw,hlk,hlen1,Ab,q0N,h14,hk,hl47]
  refine⟨by omega,?_⟩
  rw[show ∀ st,A0 st.env 8=some (.t (tI n))->(Gh.renS 47 100000 8).run st=Uw 47 (100000+n) st from fun st hs=>by simp[Gh.run,hs]]
  ·rw[fin (p:=(i,k)) hn hn2 (by simp[hcl];omega) (fun j hj=>(hset j hj _ _ hcl).trans (hcs j hj)) (by rw[hseta _ _ hcl,hrow]) (by rw[hrow];simp[A0];rw[show[tI i,tI k]=tLn (i,k) from rfl,q2M]) (by simp[A0]) (by rw[A0,if_neg (by omega),A0,if_neg (by omega),htl,if_pos rfl]) (fun t h1 h2 h3=>?_) (fun q hq=>?_)]
   ·simpa[A8,ren1,ren0,Aq]using h
   ·rw[A0,if_neg (by omega),A0,if_neg (by omega),htl,if_neg h3,Dh,O9,if_pos (by omega)]
   ·rcases xqv.1 hq with rfl|hq
    ·exact .inl rfl
    ·rcases xqv.1 hq with rfl|hq
     ·exact .inr (.inl rfl)
     ·exact .inr (.inr (hkeys q hq))
  ·rfl
def Jw (c:Bg) (i:Nat):List Int->Nat->List Kt->List Kt
 | [],_,rows=>rows
 | n::l,k,rows=>Jw c i l (k+1) (if Q2 c n then rows else Ia rows n.toNat (i,k))
def H4 (c:Bg):List Nd->Nat->List Kt->List Kt
 | [],_,rows=>rows
 | x::l,i,rows=>H4 c l (i+1) (Jw c i x.inn.l 0 rows)
def RB (rows:List Kt) (B:Nat):Prop:=∀ r∈rows,r.length<=B
theorem RB.add {rows:List Kt} {B n:Nat} {p:Int×Int} (h:RB rows B):RB (Ia rows n p) (B+1):=by
 intro r hr
 unfold Ia at hr
 by_cases hn:n<rows.length
 ·rcases xz9 hr with hr|rfl
  ·have:=h r hr;omega
  ·have:(rows.getD n []).length<=B:=by
    have e:rows.getD n []=rows[n]:=by simp[hn]
    rw[e];exact h _ (xqj hn)
   simp at this ⊢;omega
 ·rw[List.set_eq_of_length_le (by omega)]at hr
  have:=h r hr;omega
theorem RB.mono {rows:List Kt} {B C:Nat} (h:RB rows B) (hc:B<=C):RB rows C:=fun r hr=>Nat.le_trans (h r hr) hc
theorem RB.at {rows:List Kt} {B:Nat} (h:RB rows B) (n:Nat):(rows.getD n []).length<=B:=by
 by_cases hn:n<rows.length
 ·have e:rows.getD n []=rows[n]:=by simp[hn]
  rw[e];exact h _ (xqj hn)
 ·simp[List.getD,List.getElem?_eq_none (Nat.not_lt.1 hn)]
theorem X2 (c:Bg) (i:Nat):∀ (l:List Int) (k:Nat) (rows:List Kt) (B:Nat),RB rows B->(Jw c i l k rows).length=rows.length/\RB (Jw c i l k rows) (B+l.length)
 | [],k,rows,B,h=>⟨rfl,h⟩
 | n::l,k,rows,B,h=>by
  simp only[Jw,xq8]
  split
  ·have:=X2 c i l (k+1) rows B h
   exact⟨this.1,this.2.mono (by omega)⟩
  ·have:=X2 c i l (k+1) _ (B+1) (h.add (n:=n.toNat) (p:=(i,k)))
   exact⟨this.1.trans q3X,this.2.mono (by omega)⟩
theorem q5H {Q:AX->St->Prop} (c:Bg) (hn:c.nodes.l.length<=16384) (i:Nat) (s:Sl Int) (hs:s.l.length<=1000000000) (R:List Kt)
  (h0:Q (.exit 2) ⟨[(3,.lb 14 c.nodes.l.length),(4,.t (.fn 164 [.ip (tC c) 0])),(5,.t (tI i)),(18,.t (A9 c.nodes)),(19,.t (tI c.nodes.l.length)),(20,.t (tI i)),(26,.t (B8 s)),(27,.t (tI s.l.length)),(28,.t (tI s.l.length)),(29,.t (tB false))],(14,.bx (Da R))::Dh R⟩) :
  ∀ (kk k:Nat) (rows:List Kt),kk+k=s.l.length->rows.length=c.nodes.l.length->(∀ n,(rows.getD n []).length+kk<=1000000000)->Jw c i (s.l.drop k) k rows=R ->
  run Tryz.prog Γ J0 Q ⟨[(3,.lb 14 c.nodes.l.length),(4,.t (.fn 164 [.ip (tC c) 0])),(5,.t (tI i)),(18,.t (A9 c.nodes)),(19,.t (tI c.nodes.l.length)),(20,.t (tI i)),(26,.t (B8 s)),(27,.t (tI s.l.length)),(28,.t (tI k))],(14,.bx (Da rows))::Dh rows⟩
 | 0,k,rows,h,hl,hb,hR=>by
  refine Py fun K hK=>?_
  have h2:¬ k<s.l.length:=by omega
  have h3:k=s.l.length:=by omega
  simp[h2,-Gh.run,G5,Vp]
  subst h3
  rw[xq2 (xzo _)]at hR
  simp only[Jw]at hR
  subst hR
  exact h0
 | kk+1,k,rows,h,hl,hb,hR=>by
  refine Py fun K hK=>?_
  have h2:k<s.l.length:=by omega
  rw[xqq h2]at hR
  simp only[Jw]at hR
  have e:=Yp (Γ:=Γ) c s.l[k] (by omega)
  simp(disch:=omega) [h2,-Gh.run,G5,Vp,-Ef,B8,A5,Cm (0:Int),Aa]
  refine q0L e ?_
  by_cases ho:Q2 c s.l[k]=true
  ·rw[if_pos ho]at hR
   simp(disch:=omega) [ho,-Gh.run,G5,Vp,-Ef,A6]
   rw[hK]
   have:=q5H c hn i s hs R h0 kk (k+1) rows (by omega) hl (fun n=>by have:=hb n;omega) hR
   simpa[B8]using this
  ·have ho':Q2 c s.l[k]=false:=by simpa using ho
   rw[if_neg ho]at hR
   have hr:=q2N (c:=c) (l:=[s.l[k]]) (by simp[ho']) s.l[k] (by simp)
   simp(disch:=omega) [ho',-Gh.run,G5,Vp,-Ef]
   have hz:((s.l[k]).toNat:Int)=s.l[k]:=by omega
   have:=qJK (Γ:=Γ) (Q:=N5 3 (B0 (run Tryz.prog Γ (.reg N8 [.keepB [3,4,5,18,19,20,26,27,28] [14] 100000 16384]) (B0 (fun s=>B0 K Q .normal (ghs [.keepB [3,4,5,18,19,20,26,27,28] [14] 100000 16384] s)) (B0 K Q))) (B0 (fun s=>B0 K Q .normal (ghs [.keepB [3,4,5,18,19,20,26,27,28] [14] 100000 16384] s)) (B0 K Q)))) rows (s.l[k]).toNat (by omega) (by omega) i k (by have:=hb (s.l[k]).toNat;omega)
    (.fn 164 [.ip (tC c) 0]) (A9 c.nodes) (tI c.nodes.l.length) (tI i) (.sl (Av s.l) s.cap s.nl) (tI s.l.length) (tI k) (tB true) c.nodes.l.length hl.symm ?_
   ·rw[hz]at this;exact this
   ·simp(disch:=omega) [-Gh.run,G5,Vp,A6]
    rw[hK]
    have hbb:∀ n,((Ia rows (s.l[k]).toNat (i,k)).getD n []).length+kk<=1000000000:=by
     intro n
     unfold Ia
     have h5:=hb n
     have h6:=hb (s.l[k]).toNat
     by_cases hq:n=(s.l[k]).toNat
     ·subst hq
      have hlt:(s.l[k]).toNat<rows.length:=by omega
      simp[List.getD,xzb,hlt]at h6 ⊢
      omega
     ·have:¬ (s.l[k]).toNat=n:=fun e=>hq e.symm
      simp[List.getD,xzb,this]at h5 ⊢
      omega
    have:=q5H c hn i s hs R h0 kk (k+1) (Ia rows (s.l[k]).toNat (i,k)) (by omega) (q3X.trans hl) hbb hR
    simpa[B8]using this
theorem qHB {ks rs:List Nat} {st:St}:Gh.run (.keep ks rs) st=⟨(Ho ((st.hp.map (·.1)).filter fun id=>!rs.contains id) ⟨Lg.keep ks st.env,st.hp⟩).env,Lg.keep rs (Ho ((st.hp.map (·.1)).filter fun id=>!rs.contains id) ⟨Lg.keep ks st.env,st.hp⟩).hp⟩:=rfl
theorem qFI {env:List (Nat×AV)} {ks:List Nat} {rows:List Kt} {q:Aw}:Gh.run (.keepB ks [6,14] 100000 16384) ⟨env,(6,q)::(14,.bx (Da rows))::Dh rows⟩=⟨Lg.keep ks env,(6,q)::(14,.bx (Da rows))::Dh rows⟩:=by
 have hk:(((6,q)::(14,Aw.bx (Da rows))::Dh rows).map (·.1)).filter (fun id=>!([6,14]:List Nat).contains id && !(decide (100000<=id)&&decide (id<100000+16384)))=[]:=by
  rw[List.filter_eq_nil_iff]
  intro id hid
  simp only[xqm,xqv]at hid
  rcases hid with rfl|rfl|hid
  ·simp
  ·simp
  ·obtain⟨p,hp,rfl⟩:=xqy.1 hid
   have:=Z8 p hp
   simp;omega
 simp only[Gh.run,q6X,hk,Ho,q5C,q7A,A0,↓reduceIte]
 simp only[show ¬ (6=14)by omega,↓reduceIte,List.cons_append,List.nil_append]
 congr 3
 refine q8x fun t ht=>?_
 rw[List.mem_range'_1]at ht
 rw[A0,if_neg (by omega),q2O,if_neg (by omega),if_pos ⟨ht.1,by omega⟩]
theorem q7N {Q:AX->St->Prop} (c:Bg) (hn:c.nodes.l.length<=16384) (hi:∀ x∈c.nodes.l,x.inn.l.length<=16) (R:List Kt)
  (h0:Q (.exit 0) ⟨[(3,.lb 14 c.nodes.l.length),(4,.t (.fn 164 [.ip (tC c) 0])),(18,.t (A9 c.nodes)),(19,.t (tI c.nodes.l.length)),(20,.t (tI c.nodes.l.length)),(21,.t (tB false))],(14,.bx (Da R))::Dh R⟩) :
  ∀ (kk i:Nat) (rows:List Kt),kk+i=c.nodes.l.length->rows.length=c.nodes.l.length->RB rows (16*i)->H4 c (c.nodes.l.drop i) i rows=R ->
  run Tryz.prog Γ J1 Q ⟨[(3,.lb 14 c.nodes.l.length),(4,.t (.fn 164 [.ip (tC c) 0])),(18,.t (A9 c.nodes)),(19,.t (tI c.nodes.l.length)),(20,.t (tI i))],(14,.bx (Da rows))::Dh rows⟩
 | 0,i,rows,h,hl,hb,hR=>by
  refine Pz fun K hK=>?_
  have h2:¬ i<c.nodes.l.length:=by omega
  have h3:i=c.nodes.l.length:=by omega
  simp[h2,-Gh.run,G5,Vp]
  subst h3
  rw[xq2 (xzo _)]at hR
  simp only[H4]at hR
  subst hR
  exact h0
 | kk+1,i,rows,h,hl,hb,hR=>by
  refine Pz fun K hK=>?_
  have h2:i<c.nodes.l.length:=by omega
  rw[xqq h2]at hR
  simp only[H4]at hR
  have hx:=hi _ (xqj h2)
  have hlk6:A0 (Dh rows) 6=none:=by rw[Dh,O9,if_neg (by omega)]
  simp(disch:=omega) [h2,-Gh.run,G5,Vp,qHA,qFI,A9,Ab,Eb Nd.d,Bj,E3,B8,hlk6,A5]
  refine q5H c hn i c.nodes.l[i].inn (by omega) _ ?_ c.nodes.l[i].inn.l.length 0 rows (by omega) hl (fun n=>by have:=hb.at n;omega) rfl
  obtain⟨hf1,hf2⟩:=X2 c i c.nodes.l[i].inn.l 0 rows (16*i) hb
  simp(disch:=omega) [-Gh.run,G5,Vp,A6,xzt]
  rw[hK]
  have:=q7N c hn hi R h0 kk (i+1) _ (by omega) (hf1.trans hl) (hf2.mono (by omega)) hR
  simpa[A9]using this
def Gn (r:Kt):T:=.sl (Bo tLn r) (some r.length) (if r=[]then some true else none)
theorem qFJ (r:Kt):B9 Tryz.prog Γ 105 [q8K r] (Gn r):=by
 unfold q8K Gn
 by_cases h:r=[]
 ·subst h;simpa[Bo]using q8v (Γ:=Γ) [] (some 0) (some true) qH7
 ·rw[if_neg h,if_neg h]
  have:=q8v (Γ:=Γ) (Bo tLn r) none none q0N
  rwa [Ab]at this
def q0O (rows:List Kt) (i:Nat):List AV:=rows.mapIdx fun j r=>.t (if j<i then Gn r else q8K r)
theorem q4F {rows:List Kt} {i:Nat}:(q0O rows i).length=rows.length:=by simp[q0O]
theorem qHC {rows:List Kt} {i:Nat} (h:i<rows.length):((q0O rows i).drop i).take 1=[.t (q8K rows[i])]:=by
 rw[xqq (by rw[q4F];exact h)]
 simp[q0O]
theorem qEC {rows:List Kt} {i:Nat} (h:i<rows.length):(q0O rows i).take i++.t (Gn rows[i])::(q0O rows i).drop (i+1)=q0O rows (i+1):=by
 apply List.ext_getElem?
 intro j
 rw[xq7]
 have e:((q0O rows i).take i).length=i:=by simp[q4F];omega
 rw[e]
 by_cases h1:j<i
 ·rw[if_pos h1,xq0,if_pos h1]
  simp only[q0O,xja]
  cases rows[j]? with
  | none=>rfl
  | some r=>simp only[xql];rw[if_pos h1,if_pos (by omega)]
 ·rw[if_neg h1]
  by_cases h2:j=i
  ·subst h2
   simp[q0O,xqg h]
  ·rw[show j-i=(j-i-1)+1 by omega,xzr,xzc]
   rw[show i+1+(j-i-1)=j by omega]
   simp only[q0O,xja]
   cases rows[j]? with
   | none=>rfl
   | some r=>simp only[xql];rw[if_neg h1,if_neg (by omega)]
theorem q8y {Q:AX->St->Prop} (rows:List Kt) (hn:rows.length<=16384)
  (h0:Q (.exit 4) ⟨[(3,.lb 14 rows.length),(51,.lb 14 rows.length),(52,.t (tI rows.length)),(53,.t (tI rows.length)),(54,.t (tB false))],[(14,.bx (q0O rows rows.length))]⟩) :
  ∀ (kk i:Nat),kk+i=rows.length ->
  run Tryz.prog Γ J2 Q ⟨[(3,.lb 14 rows.length),(51,.lb 14 rows.length),(52,.t (tI rows.length)),(53,.t (tI i))],[(14,.bx (q0O rows i))]⟩
 | 0,i,h=>by
  refine Q0 fun K hK=>?_
  have h2:¬ i<rows.length:=by omega
  have h3:i=rows.length:=by omega
  simp[h2]
  subst h3
  exact h0
 | kk+1,i,h=>by
  refine Q0 fun K hK=>?_
  have h2:i<rows.length:=by omega
  have h3:i+1<=rows.length:=h2
  have e:=qFJ (Γ:=Γ) rows[i]
  have ho:(q8K rows[i]).one=true:=by unfold q8K;split<;>rfl
  simp(disch:=omega) [h2,h3,qHC h2,q4F]
  refine B6 e rfl ?_
  simp(disch:=omega) [h2,h3,q4F,A6,Gn]
  rw[hK]
  have:=q8y rows hn h0 kk (i+1) (by omega)
  rw[<- qEC h2]at this
  simpa[Gn]using this
def As (c:Bg):List Kt:=H4 c c.nodes.l 0 (List.replicate c.nodes.l.length [])
def q10 (rows:List Kt):T:=.sl (An Gn rows) (some rows.length) none
theorem q4G (c:Bg):∀ (l:List Nd) (i:Nat) (rows:List Kt),(H4 c l i rows).length=rows.length
 | [],_,_=>rfl
 | x::l,i,rows=>by
  simp only[H4]
  rw[q4G c l]
  exact(X2 c i x.inn.l 0 rows (rows.foldr (fun r m=>r.length+m) 0) (by
   intro r hr
   induction rows with
   | nil=>cases hr
   | cons y ys ih =>
    simp only[List.foldr_cons]
    rcases xqv.1 hr with rfl|hr
    ·omega
    ·have:=ih hr;omega)).1
theorem H5 (c:Bg):(As c).length=c.nodes.l.length:=by rw[As,q4G];simp
theorem q5q (c:Bg) (hn:c.nodes.l.length<=16384) (hi:∀ x∈c.nodes.l,x.inn.l.length<=16):B9 Tryz.prog Γ 41 [.agg (tC c)] (q10 (As c)):=by
 refine Cc q2V rfl ?_
 have eo:=Vo (Γ:=Γ) c
 have hR:=H5 c
 have hk1:∀ (env:List (Nat×AV)) (ks:List Nat),Gh.run (.keepB ks [14] 100000 16384) ⟨env,[(14,.bx (List.replicate c.nodes.l.length (.t (.sl [] (some 0) (some true)))))]⟩=⟨Lg.keep ks env,(14,.bx (Da (List.replicate c.nodes.l.length [])))::Dh (List.replicate c.nodes.l.length [])⟩:=by
  intro env ks
  have hc:Da (List.replicate c.nodes.l.length [])=List.replicate c.nodes.l.length (.t (.sl [] (some 0) (some true))):=by
   apply List.ext_getElem?
   intro j
   simp only[Da,xja,xz3]
   split<;>simp[q7L]
  refine q5F (by simp) (by simp[A0,hc]) fun t h1 h2=>?_
  rw[A0,if_neg (by omega)]
  unfold L9
  rw[xz3]
  split<;>rename_i hq
  ·split at hq
   ·simp only[xqa]at hq;subst hq;rfl
   ·cases hq
  ·rfl
 simp(disch:=omega) [Wu,tC,A9,Ah,Ap,B8,Ab,-Gh.run,G5,qHB,hk1,A6]
 refine⟨by omega,?_⟩
 refine B6 eo rfl ?_
 simp(disch:=omega) [-Gh.run,G5,Vp,Ab]
 have hp0:RB (List.replicate c.nodes.l.length []) (16*0):=by
  intro r hr;rw[xqx hr];simp
 refine q7N c hn hi (As c) ?_ c.nodes.l.length 0 (List.replicate c.nodes.l.length []) (by omega) (by simp) hp0 rfl
 generalize As c=R at hR
 rw[<- hR]
 simp(disch:=omega) [-Gh.run,G5]
 rw[qFG (by omega) (fun id r h p hp=>by
  simp only[xqv,xz2,or_false]at hp
  have h14:¬ 14=id:=by omega
  rcases hp with rfl|rfl|rfl|rfl|rfl|rfl|rfl|rfl|rfl<;>simp[C6,frz1,frz0,h14])]
 have hmix:(R.map fun r=>AV.t (q8K r))=q0O R 0:=by
  apply List.ext_getElem?
  intro j
  simp only[xqr,q0O,xja]
  cases R[j]?<;>simp
 rw[hmix]
 simp
 refine q8y R (by omega) ?_ R.length 0 (by omega)
 have hfin:q0O R R.length=(R.map Gn).map .t:=by
  apply List.ext_getElem?
  intro j
  simp only[xqr,q0O,xja,Option.map_map]
  cases hj:R[j]? with
  | none=>rfl
  | some r =>
   have:=(xqi.1 hj).1
   simp only[xql,Function.comp_def]
   rw[if_pos this]
 have hopt:Ag ((q0O R R.length).map (Aj [(14,.bx (q0O R R.length))] 3))=some (R.map Gn):=by
  conv=>lhs;rw[hfin]
  rw[xq5]
  have:(R.map Gn).map (Aj [(14,.bx ((R.map Gn).map .t))] 3 ∘ AV.t)=(R.map Gn).map fun t=>some t:=xq1 fun t _=>by simp[Aj]
  rw[this];exact q1T
 simp[Wv,q10,hopt,An]
end Go.Lg
namespace Go.Lg
open Go Go.Proofs
def Xw (N:Nat) (rows:List Kt):Prop:=∀ r∈rows,∀ p∈r,∃ i:Nat,i<N/\p.1=i
theorem Xw.add {N:Nat} {rows:List Kt} {n i:Nat} {k:Int} (h:Xw N rows) (hi:i<N):Xw N (Ia rows n (i,k)):=by
 intro r hr p hp
 unfold Ia at hr
 by_cases hn:n<rows.length
 ·rcases xz9 hr with hr|rfl
  ·exact h r hr p hp
  ·rcases xzg.1 hp with hp|hp
   ·have e:rows.getD n []=rows[n]:=by simp[hn]
    rw[e]at hp
    exact h _ (xqj hn) p hp
   ·simp at hp;subst hp;exact⟨i,hi,rfl⟩
 ·rw[List.set_eq_of_length_le (by omega)]at hr
  exact h r hr p hp
theorem q3Y {N:Nat} (c:Bg) (i:Nat) (hi:i<N):∀ (l:List Int) (k:Nat) (rows:List Kt),Xw N rows->Xw N (Jw c i l k rows)
 | [],_,_,h=>h
 | n::l,k,rows,h=>by
  simp only[Jw]
  split
  ·exact q3Y c i hi l (k+1) rows h
  ·exact q3Y c i hi l (k+1) _ (h.add hi)
theorem q5r {N:Nat} (c:Bg):∀ (l:List Nd) (i:Nat) (rows:List Kt),i+l.length<=N->Xw N rows->Xw N (H4 c l i rows)
 | [],_,_,_,h=>h
 | x::l,i,rows,hl,h=>by
  simp only[H4]
  simp at hl
  exact q5r c l (i+1) _ (by omega) (q3Y c i (by omega) _ _ _ h)
theorem Rn (c:Bg):Xw c.nodes.l.length (As c):=by
 refine q5r c c.nodes.l 0 _ (by omega) fun r hr p hp=>?_
 rw[xqx hr]at hp;cases hp
theorem q5s (c:Bg):∀ (l:List Nd) (i B:Nat) (rows:List Kt),(∀ x∈l,x.inn.l.length<=16)->RB rows B->RB (H4 c l i rows) (B+16*l.length)
 | [],_,_,_,_,h=>h
 | x::l,i,B,rows,hl,h=>by
  simp only[H4,xq8]
  have h1:=(X2 c i x.inn.l 0 rows B h).2
  have h2:=hl x xqh
  exact(q5s c l (i+1) (B+16) _ (fun y hy=>hl y (xqf _ hy)) (h1.mono (by omega))).mono (by omega)
theorem q3Z (c:Bg) (hn:c.nodes.l.length<=16384) (hi:∀ x∈c.nodes.l,x.inn.l.length<=16):RB (As c) 262144:=by
 refine(q5s c c.nodes.l 0 0 _ hi fun r hr=>?_).mono (by omega)
 rw[xqx hr];simp
structure LS where
 out:List Int
 left:List Int
 rdy:List Int
def By (k:Int):Bool:=decide (1<=k/\k<=13)
def Ad (c:Bg) (j:Nat):Int:=(c.nodes.l.getD j Nd.d).k
def Dv (c:Bg) (n:Nat) (s:LS) (p:Int×Int):LS :=
 if By (Ad c p.1.toNat) then
  ⟨s.out.set p.1.toNat (max (s.out.getD p.1.toNat 0) (s.out.getD n 0+1)),s.left.set p.1.toNat (s.left.getD p.1.toNat 0-1),if s.left.getD p.1.toNat 0-1=0 then s.rdy++[p.1]else s.rdy⟩
 else s
def E7 (c:Bg) (n:Nat):Kt:=(As c).getD n []
def Jg (c:Bg):Nat->Nat->LS->Nat×LS
 | 0,d,s=>(d,s)
 | f+1,d,s=>if d<s.rdy.length then Jg c f (d+1) ((E7 c (s.rdy.getD d 0).toNat).foldl (Dv c (s.rdy.getD d 0).toNat) s) else(d,s)
def leftOf (x:Nd):Int:=if By x.k then x.inn.l.length else 0
def Du:List Nd->Nat->List Int
 | [],_=>[]
 | x::l,i=>if leftOf x=0 then(i:Int)::Du l (i+1)else Du l (i+1)
def Gp (c:Bg):LS:=⟨List.replicate c.nodes.l.length 0,c.nodes.l.map leftOf,Du c.nodes.l 0⟩
def H6 (c:Bg):Nat×LS:=Jg c (c.nodes.l.length+1) 0 (Gp c)
structure LI (N M:Nat) (s:LS):Prop where
 lo:s.out.length=N
 ll:s.left.length=N
 rd:∀ j∈s.rdy,∃ i:Nat,i<N/\j=i/\s.left.getD i 0<=0
 nd:s.rdy.Nodup
 bo:∀ i,0<=s.out.getD i 0/\s.out.getD i 0<=M
 bl:∀ i,-(M:Int)<=s.left.getD i 0/\s.left.getD i 0<=1000
theorem q8z {N:Nat} {l:List Int} (h:l.Nodup) (hb:∀ j∈l,∃ i:Nat,i<N/\j=i):l.length<=N:=by
 have h1:(l.map Int.toNat).Nodup:=by
  rw[List.nodup_iff_pairwise_ne]at h ⊢
  rw[List.pairwise_map]
  refine h.imp_of_mem fun{a b} ha hb' hne e=>hne ?_
  obtain⟨i,_,rfl⟩:=hb a ha
  obtain⟨j,_,rfl⟩:=hb b hb'
  have:i=j:=by simpa using e
  rw[this]
 have h2:(l.map Int.toNat) ⊆ List.range N:=by
  intro j hj
  obtain⟨a,ha,rfl⟩:=xqy.1 hj
  obtain⟨i,hi,rfl⟩:=hb a ha
  simpa using hi
 have:=(List.Nodup.length_le_of_subset h1 h2)
 simpa using this
theorem LI.len {N M:Nat} {s:LS} (h:LI N M s):s.rdy.length<=N:=q8z h.nd fun j hj=>by obtain⟨i,h1,h2,_⟩:=h.rd j hj;exact⟨i,h1,h2⟩
theorem Fj {l:List Int} {j i:Nat} {v:Int} (hj:j<l.length):(l.set j v).getD i 0=if i=j then v else l.getD i 0:=by
 simp only[List.getD,xzb]
 by_cases h:j=i
 ·subst h;simp[hj]
 ·simp[h,Ne.symm h]
theorem LI.step {N M:Nat} {c:Bg} {s:LS} {n i:Nat} {k:Int} (h:LI N M s) (hi:i<N):LI N (M+1) (Dv c n s (i,k)):=by
 unfold Dv
 simp only[xzl]
 split
 case isFalse=>exact⟨h.lo,h.ll,h.rd,h.nd,fun j=>⟨(h.bo j).1,by have:=(h.bo j).2;omega⟩,fun j=>⟨by have:=(h.bl j).1;omega,(h.bl j).2⟩⟩
 refine⟨by simp[h.lo],by simp[h.ll],?_,?_,?_,?_⟩
 ·intro j hj
  have old:∀ j∈s.rdy,∃ i0:Nat,i0<N/\j=i0/\(s.left.set i (s.left.getD i 0-1)).getD i0 0<=0:=by
   intro j hj
   obtain⟨i0,h1,h2,h3⟩:=h.rd j hj
   refine⟨i0,h1,h2,?_⟩
   rw[Fj (by rw[h.ll];exact hi)]
   split
   ·rename_i e;subst e;omega
   ·exact h3
  split at hj
  ·rename_i hz
   rcases xzg.1 hj with hj|hj
   ·exact old j hj
   ·simp at hj;subst hj
    refine⟨i,hi,rfl,?_⟩
    rw[Fj (by rw[h.ll];exact hi),if_pos rfl];omega
  ·exact old j hj
 ·split
  ·rename_i hz
   rw[List.nodup_append]
   refine⟨h.nd,by simp,?_⟩
   intro a ha b hb e
   simp at hb;subst hb;subst e
   obtain⟨i0,h1,h2,h3⟩:=h.rd _ ha
   have:i=i0:=by omega
   subst this
   omega
  ·exact h.nd
 ·intro j
  rw[Fj (by rw[h.lo];exact hi)]
  have h1:=h.bo j
  have h2:=h.bo i
  have h3:=h.bo n
  split
  ·rename_i e
   omega
  ·omega
 ·intro j
  rw[Fj (by rw[h.ll];exact hi)]
  have h1:=h.bl j
  have h2:=h.bl i
  split<;>omega
theorem LI.fold {N:Nat} {c:Bg} {n:Nat}:∀ {r:Kt} {s:LS} {M:Nat},LI N M s->(∀ p∈r,∃ i:Nat,i<N/\p.1=i)->LI N (M+r.length) (r.foldl (Dv c n) s)
 | [],_,_,h,_=>h
 | p::r,s,M,h,hr=>by
  obtain⟨i,hi,he⟩:=hr p xqh
  obtain⟨p1,p2⟩:=p
  simp only at he;subst he
  have:=LI.fold (c:=c) (n:=n) (h.step (c:=c) (n:=n) (k:=p2) hi) fun q hq=>hr q (xqf _ hq)
  simp only[xz4,xq8]
  rw[show M+(r.length+1)=M+1+r.length by omega]
  exact this
theorem q3a:∀ (l:List Nd) (i:Nat),(∀ j∈Du l i,∃ a:Nat,i<=a/\a<i+l.length/\j=a/\(l.map leftOf).getD (a-i) 0=0)/\(Du l i).Nodup
 | [],_=>⟨fun j h=>(by cases h),List.nodup_nil⟩
 | x::l,i=>by
  obtain⟨h1,h2⟩:=q3a l (i+1)
  have h3:∀ j∈Du l (i+1),∃ a:Nat,i<=a/\a<i+(l.length+1)/\j=a/\((x::l).map leftOf).getD (a-i) 0=0:=by
   intro j hj
   obtain⟨a,e1,e2,e3,e4⟩:=h1 j hj
   refine⟨a,by omega,by omega,e3,?_⟩
   rw[show a-i=(a-(i+1))+1 by omega]
   simpa using e4
  simp only[Du,xq8]
  split
  ·rename_i hz
   refine⟨fun j hj=>?_,?_⟩
   ·rcases xqv.1 hj with rfl|hj
    ·exact⟨i,by omega,by omega,rfl,by simp[hz]⟩
    ·exact h3 j hj
   ·rw[xzj]
    refine⟨fun hm=>?_,h2⟩
    obtain⟨a,e1,_,e3,_⟩:=h1 _ hm
    omega
  ·exact⟨h3,h2⟩
theorem qAg (c:Bg) (hi:∀ x∈c.nodes.l,x.inn.l.length<=16):LI c.nodes.l.length 0 (Gp c):=by
 obtain⟨h1,h2⟩:=q3a c.nodes.l 0
 refine⟨by simp[Gp],by simp[Gp],fun j hj=>?_,h2,fun i=>?_,fun i=>?_⟩
 ·obtain⟨a,_,e2,e3,e4⟩:=h1 j hj
  exact⟨a,by omega,e3,by simp only[Nat.sub_zero]at e4;simp only[Gp];omega⟩
 ·simp only[Gp,List.getD,xz3]
  split<;>simp
 ·simp only[Gp,List.getD,xqr]
  cases hx:c.nodes.l[i]? with
  | none=>simp
  | some x =>
   have:=hi x (xqp hx)
   simp only[xql,xzy,leftOf]
   split<;>simp<;>omega
end Go.Lg
namespace Go.Lg
open Go Go.Proofs
variable {Γ:Tables}
theorem q4H {α:Type} {f:α->T} {l:List α} {j:Nat} {x:α} (h:j<l.length):(An f (l.set j x))[j]?.getD []=[f x]:=by simp[An,h]
theorem qHD {r:Kt} {i:Nat} (h:i<r.length):(Bo tLn r)[i]?.getD []=tLn r[i]:=by simp[Bo,h]
def lsH (s:LS):List (Nat×Aw):=[(23,.sl 3 1 (Av s.out)),(27,.sl 3 1 (Av s.left)),(53,.sl 3 1 (Av s.rdy))]
theorem q3b {Q:AX->St->Prop} (c:Bg) (hc:CirOk c) (hn:c.nodes.l.length<=16384) (n:Nat) (hnn:n<c.nodes.l.length) (d:Int) (r:Kt) (nl:Option Bool) (hr:r.length<=262144) (hin:∀ p∈r,∃ i:Nat,i<c.nodes.l.length/\p.1=i) (Um:T) (S:LS)
  (h0:Q (.exit 4) ⟨[(1,.t (.ip (tC c) 0)),(5,.ls 23 0 c.nodes.l.length none),(6,.ls 27 0 c.nodes.l.length none),(7,.ls 53 0 S.rdy.length none),(10,.t Um),(11,.t (tI d)),(12,.t (tI n)),(76,.t (.sl (Bo tLn r) (some r.length) nl)),(77,.t (tI r.length)),(78,.t (tI r.length)),(79,.t (tB false))],lsH S⟩) :
  ∀ (kk k:Nat) (s:LS) (M:Nat),kk+k=r.length->LI c.nodes.l.length M s->M+kk<=4611686018427387904->(r.drop k).foldl (Dv c n) s=S ->
  run Tryz.prog Γ Ix Q ⟨[(1,.t (.ip (tC c) 0)),(5,.ls 23 0 c.nodes.l.length none),(6,.ls 27 0 c.nodes.l.length none),(7,.ls 53 0 s.rdy.length none),(10,.t Um),(11,.t (tI d)),(12,.t (tI n)),(76,.t (.sl (Bo tLn r) (some r.length) nl)),(77,.t (tI r.length)),(78,.t (tI k))],lsH s⟩
 | 0,k,s,M,h,hI,hM,hS=>by
  refine Pv fun K hK=>?_
  have h2:¬ k<r.length:=by omega
  have h3:k=r.length:=by omega
  simp[h2,lsH]
  subst h3
  rw[xq2 (xzo _)]at hS
  simp only[List.foldl_nil]at hS
  subst hS
  exact h0
 | kk+1,k,s,M,h,hI,hM,hS=>by
  refine Pv fun K hK=>?_
  have h2:k<r.length:=by omega
  rw[xqq h2]at hS
  simp only[xz4]at hS
  obtain⟨j,hj,hpj⟩:=hin _ (xqj h2)
  have hstep:=hI.step (c:=c) (n:=n) (k:=r[k].2) hj
  have hpair:r[k]=((j:Int),r[k].2):=by rw[<- hpj]
  rw[hpair]at hS
  generalize r[k].2=q at hS hstep hpair
  have e:=Z7 (Γ:=Γ) c.nodes.l[j].k
  have hkind:Ad c j=c.nodes.l[j].k:=by simp[Ad,hj]
  simp(disch:=omega) [h2,lsH,Ab,qHD h2,q0N,hpair,tLn,tC,A9,Eb Nd.d,Bj,E3,B8,hj]
  refine A4 e rfl ?_
  by_cases hcb:By c.nodes.l[j].k=true
  case neg =>
   have hcb':decide (1<=c.nodes.l[j].k/\c.nodes.l[j].k<=13)=false:=by simpa[By]using hcb
   have hcb2:By (Ad c j)=false:=by rw[hkind];exact hcb'
   have hst:Dv c n s ((j:Int),q)=s:=by unfold Dv;simp[hcb2]
   rw[hst]at hS hstep
   rw[hcb']
   simp(disch:=omega) [A6]
   rw[hK]
   have:=q3b c hc hn n hnn d r nl hr hin Um S h0 kk (k+1) s (M+1) (by omega) hstep (by omega) hS
   simpa[lsH,tC,A9,B8]using this
  have hcb':decide (1<=c.nodes.l[j].k/\c.nodes.l[j].k<=13)=true:=by simpa[By]using hcb
  have hcb2:By (Ad c j)=true:=by rw[hkind];exact hcb'
  rw[hcb']
  have ho:=hI.lo
  have hll:=hI.ll
  have b1:=hI.bo n
  have b2:=hI.bo j
  have b3:=hI.bl j
  have hrl:=hI.len
  have hst:Dv c n s ((j:Int),q)=⟨s.out.set j (max (s.out.getD j 0) (s.out.getD n 0+1)),s.left.set j (s.left.getD j 0-1),if s.left.getD j 0-1=0 then s.rdy++[(j:Int)]else s.rdy⟩:=by
   unfold Dv;simp[hcb2]
  have hw:Es 1 [[tI (j:Int)]]:=by intro e he;simp at he;subst he;rfl
  have hmax:max (s.out.getD j 0) (s.out.getD n 0+1)=if s.out.getD j 0<s.out.getD n 0+1 then s.out.getD n 0+1 else s.out.getD j 0:=by
   split<;>omega
  have ih:=fun S2 (e:S2=Dv c n s ((j:Int),q))=>q3b c hc hn n hnn d r nl hr hin Um S h0 kk (k+1) S2 (M+1) (by omega) (e ▸ hstep) (by omega) (e ▸ hS)
  have ljo:j<s.out.length:=by omega
  have lno:n<s.out.length:=by omega
  have ljl:j<s.left.length:=by omega
  simp only[List.getD,xqg ljo,xqg lno,xqg ljl,xzy]at b1 b2 b3 hst hmax
  have b1a:=b1.1
  have b1b:=b1.2
  have b2a:=b2.1
  have b2b:=b2.2
  have b3a:=b3.1
  have b3b:=b3.2
  simp(disch:=omega) [A6,A5,Cm (0:Int),Aa,I8,ljo,lno,ljl,hj,hnn]
  rw[show(if s.out[j]<s.out[n]+1 then s.out[n]+1 else s.out[j])=max s.out[j] (s.out[n]+1) from hmax.symm]
  by_cases hz:s.left[j]-1=0
  ·rw[if_pos hz]at hst
   have ih':=ih _ hst.symm
   simp(disch:=omega) [hz,A6,A5,Aa,hw,q4H]
   refine⟨by omega,?_⟩
   rw[hK]
   rw[Gy (f:=tI) (x:=(j:Int))]
   simpa[lsH,tC,A9,B8,hz]using ih'
  ·rw[if_neg hz]at hst
   have ih':=ih _ hst.symm
   simp(disch:=omega) [hz,A6,q4H,Aa]
   rw[hK]
   simpa[lsH,tC,A9,B8]using ih'
theorem q90 {Q:AX->St->Prop} (c:Bg) (hc:CirOk c) (hn:c.nodes.l.length<=16384) (hi:∀ x∈c.nodes.l,x.inn.l.length<=16) (R:Nat×LS)
  (h0:Q (.exit 2) ⟨[(1,.t (.ip (tC c) 0)),(5,.ls 23 0 c.nodes.l.length none),(6,.ls 27 0 c.nodes.l.length none),(7,.ls 53 0 R.2.rdy.length none),(10,.t (q10 (As c))),(11,.t (tI R.1)),(60,.t (tB false))],lsH R.2⟩) :
  ∀ (f d:Nat) (s:LS) (M:Nat),f+d=c.nodes.l.length+1->LI c.nodes.l.length M s->M=d*262144->Jg c f d s=R ->
  run Tryz.prog Γ Iy Q ⟨[(1,.t (.ip (tC c) 0)),(5,.ls 23 0 c.nodes.l.length none),(6,.ls 27 0 c.nodes.l.length none),(7,.ls 53 0 s.rdy.length none),(10,.t (q10 (As c))),(11,.t (tI d))],lsH s⟩
 | 0,d,s,M,h,hI,hM,hR=>by
  refine Px fun K hK=>?_
  have hlen:=hI.len
  have h2:¬ d<s.rdy.length:=by omega
  simp[h2,lsH]
  simp only[Jg]at hR
  subst hR
  exact h0
 | f+1,d,s,M,h,hI,hM,hR=>by
  refine Px fun K hK=>?_
  have hlen:=hI.len
  by_cases h2:d<s.rdy.length
  case neg =>
   simp[h2,lsH]
   simp only[Jg,h2,↓reduceIte]at hR
   subst hR
   exact h0
  simp only[Jg,h2,↓reduceIte]at hR
  obtain⟨j,hj,he,hz⟩:=hI.rd _ (xqj h2)
  have hgd:s.rdy.getD d 0=(j:Int):=by simp[h2,he]
  rw[hgd]at hR
  simp only[xzl]at hR
  have hfr:=H5 c
  have hrl:E7 c j∈As c:=by
   have e:E7 c j=(As c)[j]'(by omega):=by simp[E7,hfr,hj]
   rw[e];exact xqj _
  have hin:=Rn c _ hrl
  have hrb:=q3Z c hn hi _ hrl
  have hfold:=hI.fold (c:=c) (n:=j) hin
  have hel:(As c)[j]? = some (E7 c j):=by
   have hlt:j<(As c).length:=by omega
   simp[E7,hlt]
  have hrt:Gn (E7 c j)=.sl (Bo tLn (E7 c j)) (some (E7 c j).length) (if E7 c j=[]then some true else none):=rfl
  have hg1:(An Gn (As c))[j]?.getD []=[Gn (E7 c j)]:=by simp[An,hel]
  have hM2:LI c.nodes.l.length ((d+1)*262144) ((E7 c j).foldl (Dv c j) s):=⟨hfold.lo,hfold.ll,hfold.rd,hfold.nd,fun i=>⟨(hfold.bo i).1,by have:=(hfold.bo i).2;omega⟩,fun i=>⟨by have:=(hfold.bl i).1;omega,(hfold.bl i).2⟩⟩
  have ih:=q90 c hc hn hi R h0 f (d+1) _ _ (by omega) hM2 rfl hR
  have hrdy:(s.rdy)[d]?.getD 0=(j:Int):=by simpa using hgd
  simp(disch:=omega) [h2,lsH,A5,Cm (0:Int),Aa,A6,he,q10,hfr,hj,hg1,hrt,Ab]
  by_cases hr0:(E7 c j).length=0
  ·have hr0':E7 c j=[]:=xqo hr0
   simp[hr0',Bm]
   rw[hK]
   rw[hr0']at ih
   simp only[List.foldl_nil,q10,hfr,lsH]at ih
   exact_mod_cast ih
  ·have hr0':¬ E7 c j=[]:=fun e=>hr0 (by simp[e])
   simp(disch:=omega) [Bm,hr0',lsH,A5,Cm (0:Int),Aa,A6,he,q10,hfr,hj,hg1,hrt,Ab]
   refine q3b c hc hn j hj ((d:Int)+1) (E7 c j) _ (by omega) hin _ _ ?_ (E7 c j).length 0 s M (by omega) hI (by omega) rfl
   simp[lsH]
   rw[hK]
   simp only[q10,hfr,lsH]at ih
   exact_mod_cast ih
theorem q4I (x:Nd):∀ (l:List Nd) (i:Nat),Du (l++[x]) i=if leftOf x=0 then Du l i++[((i+l.length:Nat):Int)]else Du l i
 | [],i=>by simp[Du]
 | y::l,i=>by
  have:=q4I x l (i+1)
  simp only[List.cons_append,Du,this,xq8]
  rw[show i+1+l.length=i+(l.length+1)by omega]
  split<;>split<;>rfl
theorem q5t:∀ (l:List Nd) (i:Nat),(Du l i).length<=l.length
 | [],_=>by simp[Du]
 | x::l,i=>by
  have:=q5t l (i+1)
  simp only[Du]
  split<;>simp<;>omega
def Lc (c:Bg) (i:Nat):List Int:=(c.nodes.l.take i).map leftOf++List.replicate (c.nodes.l.length-i) 0
theorem q7O {c:Bg} {i:Nat} (h:i<=c.nodes.l.length):(Lc c i).length=c.nodes.l.length:=by simp[Lc];omega
theorem q3c {c:Bg} {i:Nat} (h:i<c.nodes.l.length):(Lc c i).set i (leftOf c.nodes.l[i])=Lc c (i+1):=by
 unfold Lc
 have e1:((c.nodes.l.take i).map leftOf).length=i:=by simp;omega
 rw[List.set_append_right _ _ (by rw[e1];exact xzo i),e1,xjb]
 rw[show c.nodes.l.length-i=(c.nodes.l.length-(i+1))+1 by omega,List.replicate_succ,List.set_cons_zero]
 have e3:(c.nodes.l.map leftOf).take (i+1)=(c.nodes.l.map leftOf).take i++[leftOf c.nodes.l[i]]:=by rw[xz7];simp[h]
 simp[e3]
theorem qAh {c:Bg} {i:Nat} (h:i<c.nodes.l.length) (h0:leftOf c.nodes.l[i]=0):Lc c i=Lc c (i+1):=by
 unfold Lc
 rw[show c.nodes.l.length-i=(c.nodes.l.length-(i+1))+1 by omega,List.replicate_succ]
 have e3:(c.nodes.l.map leftOf).take (i+1)=(c.nodes.l.map leftOf).take i++[leftOf c.nodes.l[i]]:=by rw[xz7];simp[h]
 simp[e3,h0]
theorem q91 {Q:AX->St->Prop} (c:Bg) (hn:c.nodes.l.length<=16384) (hi:∀ x∈c.nodes.l,x.inn.l.length<=16) (out:List Int)
  (h0:Q (.exit 0) ⟨[(1,.t (.ip (tC c) 0)),(5,.ls 23 0 c.nodes.l.length none),(6,.ls 27 0 c.nodes.l.length none),(7,.ls 53 0 (Du c.nodes.l 0).length none),(29,.t (A9 c.nodes)),(30,.t (tI c.nodes.l.length)),(31,.t (tI c.nodes.l.length)),(32,.t (tB false))],[(23,.sl 3 1 (Av out)),(27,.sl 3 1 (Av (c.nodes.l.map leftOf))),(53,.sl 3 1 (Av (Du c.nodes.l 0)))]⟩) :
  ∀ (kk i:Nat),kk+i=c.nodes.l.length ->
  run Tryz.prog Γ Iw Q ⟨[(1,.t (.ip (tC c) 0)),(5,.ls 23 0 c.nodes.l.length none),(6,.ls 27 0 c.nodes.l.length none),(7,.ls 53 0 (Du (c.nodes.l.take i) 0).length none),(29,.t (A9 c.nodes)),(30,.t (tI c.nodes.l.length)),(31,.t (tI i))],[(23,.sl 3 1 (Av out)),(27,.sl 3 1 (Av (Lc c i))),(53,.sl 3 1 (Av (Du (c.nodes.l.take i) 0)))]⟩
 | 0,i,h=>by
  refine Pq fun K hK=>?_
  have h2:¬ i<c.nodes.l.length:=by omega
  have h3:i=c.nodes.l.length:=by omega
  simp[h2]
  subst h3
  simpa[Lc]using h0
 | kk+1,i,h=>by
  refine Pq fun K hK=>?_
  have h2:i<c.nodes.l.length:=by omega
  have hx:=hi _ (xqj h2)
  have ht:c.nodes.l.take (i+1)=c.nodes.l.take i++[c.nodes.l[i]]:=by rw[xz7];simp[h2]
  have htl:(c.nodes.l.take i).length=i:=by simp;omega
  have hrl:=q5t (c.nodes.l.take i) 0
  have hll:=q7O (c:=c) (i:=i) (by omega)
  have hll1:=q7O (c:=c) (i:=i+1) (by omega)
  have hsn:=q4I c.nodes.l[i] (c.nodes.l.take i) 0
  rw[<- ht,htl,xjc]at hsn
  have e:=Z7 (Γ:=Γ) c.nodes.l[i].k
  have ih:=q91 c hn hi out h0 kk (i+1) (by omega)
  have hw:Es 1 [[tI (i:Int)]]:=by intro e he;simp at he;subst he;rfl
  simp(disch:=omega) [h2,Ab,Eb Nd.d,Bj,A9,E3,B8,-Fh]
  refine A4 e rfl ?_
  have tail:∀ (lf:List Int),lf=Lc c (i+1)->run Tryz.prog Γ (.seq (.reg Fh [.keep [1,5,6,7,8,29,30,31,49] [23,27,53]]) (.cond (.tmp 49) (.reg N6 [.keep [1,5,6,7,29,30,31] [23,27,53]]) .skip))
    (N5 1 (B0 (run Tryz.prog Γ (.reg N7 [.keep [1,5,6,7,29,30,31] [23,27,53]]) (B0 (fun s=>B0 K Q .normal (ghs [.keep [1,5,6,7,29,30,31] [23,27,53]] s)) (B0 K Q))) (B0 (fun s=>B0 K Q .normal (ghs [.keep [1,5,6,7,29,30,31] [23,27,53]] s)) (B0 K Q))))
    ⟨[(1,.t (.ip (tC c) 0)),(5,.ls 23 0 c.nodes.l.length none),(6,.ls 27 0 c.nodes.l.length none),(7,.ls 53 0 (Du (c.nodes.l.take i) 0).length none),(8,.t (tI i)),(29,.t (A9 c.nodes)),(30,.t (tI c.nodes.l.length)),(31,.t (tI i))],[(23,.sl 3 1 (Av out)),(27,.sl 3 1 (Av lf)),(53,.sl 3 1 (Av (Du (c.nodes.l.take i) 0)))]⟩:=by
   rintro lf rfl
   have hget:(Lc c (i+1))[i]?.getD 0=leftOf c.nodes.l[i]:=by
    rw[<- q3c h2]
    simp[hll,h2]
   have hge:=hget
   rw[xqg (by rw[hll1];exact h2),xzy]at hge
   by_cases hz:leftOf c.nodes.l[i]=0
   ·rw[if_pos hz]at hsn
    simp(disch:=omega) [h2,A5,Cm (0:Int),Aa,hll1,hge,hz,hw,A6]
    refine⟨by omega,?_⟩
    rw[hK]
    rw[hsn]at ih
    rw[Gy (f:=tI) (x:=(i:Int))]
    simpa using ih
   ·rw[if_neg hz]at hsn
    simp(disch:=omega) [h2,A5,Cm (0:Int),Aa,hll1,hge,hz,A6]
    rw[hK]
    rw[hsn]at ih
    exact_mod_cast ih
  by_cases hcb:By c.nodes.l[i].k=true
  ·have hcb':decide (1<=c.nodes.l[i].k/\c.nodes.l[i].k<=13)=true:=by simpa[By]using hcb
   have hlo:leftOf c.nodes.l[i]=c.nodes.l[i].inn.l.length:=by simp[leftOf,hcb]
   rw[hcb']
   have:=tail ((Lc c i).set i c.nodes.l[i].inn.l.length) (by rw[<- hlo];exact q3c h2)
   simp(disch:=omega) [h2,A5,Aa,hll,I8,-Fh]
   exact this
  ·have hcb':decide (1<=c.nodes.l[i].k/\c.nodes.l[i].k<=13)=false:=by simpa[By]using hcb
   have hlo:leftOf c.nodes.l[i]=0:=by simp[leftOf,hcb]
   rw[hcb',qAh h2 hlo]
   rw[if_pos hlo]at hsn
   have hge:(Lc c (i+1))[i]'(by rw[hll1];exact h2)=0:=by
    have hget:(Lc c (i+1))[i]?.getD 0=leftOf c.nodes.l[i]:=by
     rw[<- q3c h2]
     simp[hll,h2]
    rw[xqg (by rw[hll1];exact h2),xzy]at hget
    rw[hget,hlo]
   simp(disch:=omega) [h2,A5,Cm (0:Int),Aa,hll1,hge,hw,A6]
   refine⟨by omega,?_⟩
   rw[hK]
   rw[hsn]at ih
   rw[Gy (f:=tI) (x:=(i:Int))]
   simpa[A9]using ih
def D3 (c:Bg):Int:=if E4 c≠0 then E4 c else if(H6 c).1<c.nodes.l.length then 6 else 0
theorem qJL (k:Int):(Um k).2<=16:=by
 unfold Um
 split
 ·decide
 ·have:∀ n:Nat,(q7F.getD n (0,0)).2<=16:=by
   intro n
   by_cases h:n<16
   ·have:n=0\/n=1\/n=2\/n=3\/n=4\/n=5\/n=6\/n=7\/n=8\/n=9\/n=10\/n=11\/n=12\/n=13\/n=14\/n=15:=by omega
    rcases this with rfl|rfl|rfl|rfl|rfl|rfl|rfl|rfl|rfl|rfl|rfl|rfl|rfl|rfl|rfl|rfl<;>decide
   ·rw[List.getD,List.getElem?_eq_none (by simp[q7F];omega)];decide
  exact this _
theorem Yq {α:Type} {f:α->Int}:∀ {l:List α},Ds (l.map f)=0->∀ x∈l,f x=0
 | [],_,x,h=>by cases h
 | y::l,h,x,hx=>by
  simp only[xqm,Ds]at h
  split at h
  ·rename_i hy;exact absurd h hy
  ·rename_i hy
   rcases xqv.1 hx with rfl|hx
   ·simpa using hy
   ·exact Yq h x hx
theorem Ig {c:Bg} (h:E4 c=0):c.nodes.l.length<=16384/\(∀ x∈c.nodes.l,x.inn.l.length<=16)/\(∀ x∈c.nodes.l,E6 c x=0)/\c.mems.l.length<=16:=by
 unfold E4 at h
 split at h
 ·cases h
 rename_i h1
 split at h
 ·cases h
 split at h
 ·rename_i h2;exact absurd h h2
 rename_i h2
 have h3:=Yq (by simpa using h2)
 refine⟨by omega,fun x hx=>?_,h3,by omega⟩
 have h4:=h3 x hx
 have h5:=qJL x.k
 unfold E6 at h4
 split at h4
 ·cases h4
 split at h4
 ·cases h4
 rename_i h6
 omega
theorem q5u (hΓ:GOk Γ) (c:Bg) (hc:CirOk c) (ha:∀ s∈c.names.l,∀ b∈s,b<128) :
  A7 Tryz.prog Γ 40 [.agg (tC c)] (.tup [if D3 c=0 then .sl (Av (H6 c).2.out) none none else .sl [] (some 0) (some true),tI (D3 c)]):=by
 refine Ac q2U rfl ?_
 have e1:=qC2 hΓ c hc ha
 simp[Wp,tC,A9,Ah,Ap,B8]
 refine A4 e1 rfl ?_
 by_cases h1:E4 c=0
 case neg =>
  have:D3 c=E4 c:=by unfold D3;rw[if_pos h1]
  simp[h1,Iz,this]
 obtain⟨hn,hi,_⟩:=Ig h1
 have e2:=q5q (Γ:=Γ) c hn hi
 have hl0:D3 c=if(H6 c).1<c.nodes.l.length then 6 else 0:=by unfold D3;rw[if_neg (show ¬ (E4 c≠0)by simp[h1])]
 simp(disch:=omega) [h1,Ab,A6]
 refine⟨by omega,?_⟩
 have e0:List.replicate c.nodes.l.length [T.v (Value.int .i64 0)]=Av (List.replicate c.nodes.l.length 0):=by simp[An]
 rw[e0]
 have hl:=fun Q h0=>q91 (Γ:=Γ) (Q:=Q) c hn hi (List.replicate c.nodes.l.length 0) h0 c.nodes.l.length 0 (by omega)
 have el0:Lc c 0=List.replicate c.nodes.l.length 0:=by simp[Lc]
 simp only[el0,Du,List.take_zero,xq9]at hl
 refine hl _ ?_
 simp[tC,A9,Ah,Ap,B8]
 refine B6 e2 rfl ?_
 have hI:=qAg c hi
 have hm:=fun Q h0=>q90 (Γ:=Γ) (Q:=Q) c hc hn hi (H6 c) h0 (c.nodes.l.length+1) 0 (Gp c) 0 (by omega) hI (by omega) rfl
 simp
 refine hm _ ?_
 have hend:(H6 c).1<c.nodes.l.length↔((H6 c).1:Int)<c.nodes.l.length:=by omega
 have hol:(H6 c).2.out.length=c.nodes.l.length:=by
  have:∀ (f d:Nat) (s:LS),s.out.length=c.nodes.l.length->(Jg c f d s).2.out.length=c.nodes.l.length:=by
   intro f
   induction f with
   | zero=>intro d s h;exact h
   | succ f ih =>
    intro d s h
    simp only[Jg]
    split
    ·refine ih _ _ ?_
     have:∀ (r:Kt) (n:Nat) (s:LS),s.out.length=c.nodes.l.length->(r.foldl (Dv c n) s).out.length=c.nodes.l.length:=by
      intro r n
      induction r with
      | nil=>intro s h;exact h
      | cons p r ih2 =>
       intro s h
       rw[xz4]
       refine ih2 _ ?_
       unfold Dv
       split
       ·simp[h]
       ·exact h
     exact this _ _ _ h
    ·exact h
  exact this _ _ _ hI.lo
 by_cases h2:(H6 c).1<c.nodes.l.length
 ·rw[if_pos h2]at hl0
  have h2':=hend.1 h2
  simp[lsH,tC,A9,Ab,h2',Iz,hl0]
 ·rw[if_neg h2]at hl0
  have h2':¬ ((H6 c).1:Int)<c.nodes.l.length:=fun h=>h2 (hend.2 h)
  have ht:(Av (H6 c).2.out).take c.nodes.l.length=Av (H6 c).2.out:=by rw[<- hol];simp
  simp[lsH,tC,A9,Ab,h2,h2',Iz,hl0,ht]
structure COk (c:Bg):Prop extends CirOk c where
 asc:∀ s∈c.names.l,∀ b∈s,b<128
theorem qNi (hΓ:GOk Γ) (c:Bg) (hc:COk c):A7 Tryz.prog Γ 133 [.agg (tC c)] (tI (D3 c)):=by
 refine Ac qNJ rfl ?_
 have e:=q5u hΓ c hc.toCirOk hc.asc
 simp[qMt,tC,A9,Ah,Ap,B8]
 refine A4 e rfl ?_
 simp
 simp[qMu]
def Ba (c:Bg):List Int:=Rl [14] c.nodes.l 0
def mems (c:Bg):List Int:=Rl [15] c.nodes.l 0
theorem qC3 (c:Bg) (hc:COk c) (k:Int):A7 Tryz.prog Γ 102 [.agg (tC c),.sl [[tK k]] (some 1) (some false)] (.sl (Av (Rl [k] c.nodes.l 0)) (some (Rl [k] c.nodes.l 0).length) none):=by
 have:=qH8 (Γ:=Γ) c hc.toCirOk [k] (some 1) (some false) (by simp)
 simpa[An]using this
theorem Tt (c:Bg) (hc:COk c):B9 Tryz.prog Γ 39 [.agg (tC c)] (.sl (Av (Ba c)) (some (Ba c).length) none):=by
 refine Cc q2T rfl ?_
 simp[Wi,tC,A9,Ah,Ap,B8]
 refine A4 (qC3 c hc 14) rfl ?_
 simp[Wj,Ba]
def q7P (c:Bg):Int:=if D3 c≠0 then D3 c else if 0<c.mems.l.length\/0<(mems c).length then 7 else 0
end Go.Lg
namespace Go.Lg
open Go Go.Proofs
def Sl.d:Sl Int:=⟨[],none,none⟩
def Xx (l:List Int) (a b:Nat):List Int:=(l.set a (l.getD b 0)).set b (l.getD a 0)
theorem q5I {l:List Int} {a b:Nat}:(Xx l a b).length=l.length:=by simp[Xx]
theorem Bn {l:List Int} {i:Nat} (h:i<l.length):l.getD i 0=l[i]:=by simp[xqe,h]
theorem qED {l:List Int} {a b q:Nat} (ha:a<l.length) (hb:b<l.length) (hq:q<l.length):(Xx l a b).getD q 0=if q=b then l.getD a 0 else if q=a then l.getD b 0 else l.getD q 0:=by
 unfold Xx
 rw[Fj (by simp;exact hb)]
 split
 ·rfl
 ·rw[Fj ha]
theorem q7Q {l:List Int} {a b:Nat} (ha:a<l.length) (hb:b<l.length):(Xx l a b).Perm l:=by
 unfold Xx
 rw[Bn ha,Bn hb]
 exact List.set_set_perm ha hb
theorem Lr (ks:List Int):∀ (l:List Nd) (i:Nat),(∀ j∈Rl ks l i,(i:Int)<=j)/\(Rl ks l i).Nodup
 | [],_=>⟨fun j h=>(by cases h),List.nodup_nil⟩
 | x::l,i=>by
  obtain⟨h1,h2⟩:=Lr ks l (i+1)
  simp only[Rl]
  split
  ·refine⟨fun j hj=>?_,xzj.2 ⟨fun hm=>?_,h2⟩⟩
   ·rcases xqv.1 hj with rfl|hj
    ·omega
    ·have:=h1 j hj;omega
   ·have:=h1 _ hm;omega
  ·exact⟨fun j hj=>by have:=h1 j hj;omega,h2⟩
theorem q4J (ks:List Int):∀ (l:List Nd) (i:Nat),∀ n∈Rl ks l i,(i:Int)<=n/\n<i+l.length/\ks.contains (l.getD (n.toNat-i) Nd.d).k=true
 | [],_,n,h=>by cases h
 | x::l,i,n,h=>by
  have tail:n∈Rl ks l (i+1)->(i:Int)<=n/\n<i+(x::l).length/\ks.contains ((x::l).getD (n.toNat-i) Nd.d).k=true:=fun h=>by
   obtain⟨h1,h2,h3⟩:=q4J ks l (i+1) n h
   refine⟨by omega,by simp only[xq8];omega,?_⟩
   have e:n.toNat-i=(n.toNat-(i+1))+1:=by omega
   rw[e,List.getD_cons_succ]
   exact h3
  simp only[Rl]at h
  split at h
  ·rename_i hk
   rcases xqv.1 h with rfl|h
   ·refine⟨by omega,by simp only[xq8];omega,?_⟩
    have e:((i:Int).toNat-i)=0:=by omega
    rw[e,List.getD_cons_zero]
    exact hk
   ·exact tail h
  ·exact tail h
end Go.Lg
namespace Go.Lg
open Go
section
variable {P:Program} {Γ:Tables} {Q:AX->St->Prop} {s:St}
/- (probecard/probecardlaw03.C).Of (function 10) -/
abbrev q2k:IC:=.gh (.seq (.seq (.reg [om 13 4,od 14 (fa 0 1),od 15 (ld 1 14),od 16 (.bin .rem (tm 15) (ku 4)),od 17 (.conv .i64 (tm 16)),od 18 (.bin .leq (tm 13) (tm 17))] [kp [1,2,3,4,18] [2,3,25,144,168]]) (.cond (tm 18) .skip
 (.exit 0))) (.seq (.block 1 (.reg [od 21 (fa 0 3),od 22 (ld 1 21),od 23 (.build [(1,(ku 0)),(1,kN),(1,(ki 0)),(1,(ki 0))]),od 24 (.bsl true 50 4 [(tm 23)]),od 25 (.app false 50 4 (tm 22) (tm 24)),od 26 (fa 0 3),on
 (.store 1 (tm 26) (tm 25))] [kp [1,2,3,4] [2,3,25,144,168]])) (.reg [om 19 4,od 20 (.bin .add (tm 19) (ki 1)),om 4 20] [kp [1,2,3,4] [2,3,25,144,168]]))) [kp [1,2,3,4] [2,3,25,144,168]]
def Si:IC:=.loop q2k
abbrev q2l:IC:=.gh (.seq (.seq (.reg [om 34 7,om 35 6,od 36 (.bin .lss (tm 34) (tm 35))] [kp [1,2,3,5,6,7,36] [2,3,25,144,168]]) (.cond (tm 36) .skip (.exit 2))) (.seq (.block 3 (.reg [od 39 (fa 0 3),od 40 (ld 1 39),od 41 (.bsl true
 3 1 [(ki 0)]),od 42 (.build [(1,(ku 14)),(1,(tm 41)),(1,(ki 0)),(1,(ki 0))]),od 43 (.bsl true 50 4 [(tm 42)]),oz 44 (.app false 50 4 (tm 40) (tm 43)) 25,od 45 (fa 0 3),on (.store 1 (tm 45) (tm 44))] [kp [1,2,3,5,6,
 7] [2,3,25,144,168]])) (.reg [om 37 7,od 38 (.bin .add (tm 37) (ki 1)),om 7 38] [kp [1,2,3,5,6,7] [2,3,25,144,168]]))) [kp [1,2,3,5,6,7] [2,3,25,144,168]]
def Sj:IC:=.loop q2l
abbrev q2m:IC:=.gh (.seq (.seq (.reg [om 55 8,od 56 (fa 10 1),od 57 (ld 1 56),od 58 (le 0 57),od 59 (.bin .lss (tm 55) (tm 58)),om 60 59,oT 61 (.mv (tm 8)) 60,oT 62 (.bin .lss (tm 61) (ki 8)) 60,od 63 (.pick (tm 60) (tm 62) kF)] [kp [1,
 2,3,5,6,8,63] [2,3,25,144,168]]) (.cond (tm 63) .skip (.exit 4))) (.seq (.block 5 (.reg [od 66 (fa 0 3),od 67 (.ldR 3 1 false (tm 66)),od 68 (.ldT 12 true (tm 1)),od 69 (fa 10 1),od 70 (.ldT 1 false (tm 69)),om 71 8,
 od 72 (ia 4 70 71),od 73 (.ldT 4 true (tm 72)),od 74 (fa 0 3),od 75 (.ldR 3 1 false (tm 74)),od 76 (.call 35 [(tm 68),(tm 73),(tm 75)]),od 77 (.bsl true 50 4 [(tm 76)]),oz 78 (.app false 50 4 (tm 67) (tm 77)) 25,od 79 (fa
 0 3),on (.stR 3 1 (tm 79) (tm 78))] [kp [1,2,3,5,6,8] [2,3,25,144,168]])) (.reg [om 64 8,od 65 (.bin .add (tm 64) (ki 1)),om 8 65] [kp [1,2,3,5,6,8] [2,3,25,144,168]]))) [kp [1,2,3,5,6,8] [2,3,25,144,
 168]]
def Sr:IC:=.loop q2m
abbrev q2n:IC:=.gh (.seq (.seq (.reg [om 83 10,om 84 6,od 85 (.bin .lss (tm 83) (tm 84))] [kp [1,2,3,5,6,9,10,85] [2,3,25,144,168]]) (.cond (tm 85) .skip (.exit 6))) (.seq (.block 7 (.reg [od 88 (fa 0 3),od 89 (.ldR 3 1 false (tm
 88)),om 90 5,om 91 10,od 92 (.bin .add (tm 90) (tm 91)),om 93 10,od 94 (fa 2 1),od 95 (.iadrA 2 1 (tm 94) (tm 93)),od 96 (.ldT 1 false (tm 95)),od 97 (.conv .i64 (tm 96)),om 98 9,od 99 (.bin .rem (tm 97) (tm 98)),od 100
 (.bsl true 3 1 [(tm 99)]),od 101 (ia 4 89 92),od 102 (fa 1 101),on (.store 1 (tm 102) (tm 100))] [kp [1,2,3,5,6,9,10] [2,3,25,144,168]])) (.reg [om 86 10,od 87 (.bin .add (tm 86) (ki 1)),om 10 87] [kp [1,2,3,5,6,
 9,10] [2,3,25,144,168]]))) [kp [1,2,3,5,6,9,10] [2,3,25,144,168]]
def Ss:IC:=.loop q2n
abbrev q2o:IC:=.gh (.seq (.seq (.reg [om 134 11,om 135 9,od 136 (.bin .lss (tm 134) (tm 135))] [kp [1,2,3,9,11,136] [2,3,25,144,168]]) (.cond (tm 136) .skip (.exit 8))) (.seq (.block 9 (.reg [od 139 (fa 1 3),od 140 (.ldR 3 1 false (tm
 139)),om 141 11,od 142 (.call 36 [(tm 141)]),od 143 (.bsl true 9 1 [(tm 142)]),od 144 (.app false 9 1 (tm 140) (tm 143)),od 145 (fa 1 3),on (.stR 3 1 (tm 145) (tm 144))] [kp [1,2,3,9,11] [2,3,25,144,168]])) (.reg [om
 137 11,od 138 (.bin .add (tm 137) (ki 1)),om 11 138] [kp [1,2,3,9,11] [2,3,25,144,168]]))) [kp [1,2,3,9,11] [2,3,25,144,168]]
def Su:IC:=.loop q2o
abbrev q1a:IC:=.gh (.seq (.seq (.reg [om 146 12,od 147 (fa 11 1),od 148 (ld 1 147),od 149 (le 0 148),od 150 (.bin .lss (tm 146) (tm 149)),om 151 150,oT 152 (.mv (tm 12)) 151,oT 153 (.bin .lss (tm 152) (ki 3)) 151,od 154 (.pick (tm 151)
 (tm 153) kF)] [kp [1,2,3,9,12,154] [2,3,25,144,168]]) (.cond (tm 154) .skip (.exit 10))) (.seq (.block 11 (.reg [od 157 (fa 3 3),od 158 (.ldR 3 1 false (tm 157)),od 159 (fa 11 1),od 160 (.ldT 1 false (tm 159)),om 161
 12,od 162 (ia 1 160 161),od 163 (.ldT 1 false (tm 162)),od 164 (.conv .i64 (tm 163)),om 165 9,od 166 (.bin .rem (tm 164) (tm 165)),od 167 (.bsl true 3 1 [(tm 166)]),od 168 (.app false 3 1 (tm 158) (tm 167)),od 169 (fa 3 3),
 on (.stR 3 1 (tm 169) (tm 168))] [kp [1,2,3,9,12] [2,3,25,144,168]])) (.reg [om 155 12,od 156 (.bin .add (tm 155) (ki 1)),om 12 156] [kp [1,2,3,9,12] [2,3,25,144,168]]))) [kp [1,2,3,9,12] [2,3,25,144,168]]
def Q3:IC:=.loop q1a
abbrev q2p:IC:=(.seq (.reg [od 1 (.box true (tm 0)),od 2 (.alloc false [(.slice none 0 0),(.slice none 0 0),(.slice none 0 0),(.slice none 0 0)])] [kp [1,2] [2,25,144,168]]) (.seq (.reg [od 3 (.alloc false [(.slice none 0 0),(.slice none
 0 0),(.slice none 0 0),(.slice none 0 0)])] [.nlb 3 0 25 50 4,.nlb 3 1 144 9 1,.nlb 3 3 168 3 1,kp [1,2,3] [2,3,25,144,168]]) (.seq (.seq (.reg [od 4 (.mv (ki 0))] [kp [1,2,3,4] [2,3,25,144,168]]) (.block 0
 Si)) (.seq (.reg [od 27 (fa 0 3),od 28 (ld 1 27),od 29 (le 0 28),om 5 29] [kp [1,2,3,5] [2,3,25,144,168]]) (.seq (.reg [od 30 (fa 1 1),od 31 (ld 1 30),od 32 (.bin .rem (tm 31) (ku 3)),od 33 (.conv .i64 (tm
 32)),om 6 33] [kp [1,2,3,5,6] [2,3,25,144,168]]) (.seq (.seq (.reg [od 7 (.mv (ki 0))] [kp [1,2,3,5,6,7] [2,3,25,144,168]]) (.block 2 Sj)) (.seq (.seq (.reg [od 46 (fa 5 1),od 47 (ld 1 46)] [kp [1,2,
 3,5,6,47] [2,3,25,144,168]]) (.cond (tm 47) (.reg [od 48 (fa 0 3),od 49 (ld 1 48),od 50 (.build [(1,(ku 15)),(1,kN),(1,(ki 0)),(1,(ki 0))]),od 51 (.build [(1,(ku 15)),(1,kN),(1,(ki 0)),(1,(ki 1))]),od 52
 (.bsl true 50 4 [(tm 50),(tm 51)]),oz 53 (.app false 50 4 (tm 49) (tm 52)) 25,od 54 (fa 0 3),on (.store 1 (tm 54) (tm 53))] [kp [1,2,3,5,6] [2,3,25,144,168]]) .skip)) (.seq (.seq (.reg [od 8 (.mv (ki 0))] [kp [1,2,3,
 5,6,8] [2,3,25,144,168]]) (.block 4 Sr)) (.seq (.reg [od 80 (fa 0 3),od 81 (ld 1 80),od 82 (le 0 81),om 9 82] [kp [1,2,3,5,6,9] [2,3,25,144,168]]) (.seq (.seq (.reg [od 10 (.mv (ki 0))] [kp [1,2,3,5,
 6,9,10] [2,3,25,144,168]]) (.block 6 Ss)) (.seq (.seq (.reg [od 103 (fa 5 1),od 104 (ld 1 103)] [kp [1,2,3,9,104] [2,3,25,144,168]]) (.cond (tm 104) (.reg [od 105 (fa 6 1),od 106 (.iadrA 4 1 (tm 105) (ki
 0)),od 107 (.ldT 1 false (tm 106)),od 108 (.conv .i64 (tm 107)),om 109 9,od 110 (.bin .rem (tm 108) (tm 109)),od 111 (.bsl true 3 1 [(tm 110)]),od 112 (fa 6 1),od 113 (.iadrA 4 1 (tm 112) (ki 1)),od 114 (.ldT 1 false (tm
 113)),od 115 (.conv .i64 (tm 114)),om 116 9,od 117 (.bin .rem (tm 115) (tm 116)),od 118 (fa 6 1),od 119 (.iadrA 4 1 (tm 118) (ki 2)),od 120 (.ldT 1 false (tm 119)),od 121 (.conv .i64 (tm 120)),om 122 9,od 123 (.bin .rem
 (tm 121) (tm 122)),od 124 (.bsl true 3 1 [(tm 117),(tm 123)]),od 125 (fa 6 1),od 126 (.iadrA 4 1 (tm 125) (ki 3)),od 127 (.ldT 1 false (tm 126)),od 128 (.conv .i64 (tm 127)),om 129 9,od 130 (.bin .rem (tm 128) (tm 129)),od
 131 (.build [(1,(tm 111)),(1,(tm 124)),(1,(tm 130))]),od 132 (.bsl true 102 3 [(tm 131)]),od 133 (fa 2 3),on (.stR 3 1 (tm 133) (tm 132))] [kp [1,2,3,9] [2,3,25,144,168]]) .skip)) (.seq (.seq (.reg [od 11 (.mv (ki
 0))] [kp [1,2,3,9,11] [2,3,25,144,168]]) (.block 8 Su)) (.seq (.seq (.reg [od 12 (.mv (ki 0))] [kp [1,2,3,9,12] [2,3,25,144,168]]) (.block 10 Q3)) (.seq (.reg [od 170 (fa 3 3),od 171 (ld 1
 170),om 172 9,od 173 (.bin .sub (tm 172) (ki 1)),od 174 (.bsl true 3 1 [(tm 173)]),oz 175 (.app false 3 1 (tm 171) (tm 174)) 168,od 176 (fa 3 3),on (.store 1 (tm 176) (tm 175))] [kp [2,3] [2,3,25,144,168]]) (.seq (.reg
 [od 177 (lG 4 3),on (.store 4 (tm 2) (tm 177))] [kp [2] [2,25,144,168]]) .ret)))))))))))))))
theorem Xy (h:∀ K:St->Prop,K=run P Γ Si Q->run P Γ q2k (B0 K Q) s):run P Γ Si Q s:=Am h
theorem Xz (h:∀ K:St->Prop,K=run P Γ Sj Q->run P Γ q2l (B0 K Q) s):run P Γ Sj Q s:=Am h
theorem Y0 (h:∀ K:St->Prop,K=run P Γ Sr Q->run P Γ q2m (B0 K Q) s):run P Γ Sr Q s:=Am h
theorem Y1 (h:∀ K:St->Prop,K=run P Γ Ss Q->run P Γ q2n (B0 K Q) s):run P Γ Ss Q s:=Am h
theorem Y2 (h:∀ K:St->Prop,K=run P Γ Su Q->run P Γ q2o (B0 K Q) s):run P Γ Su Q s:=Am h
theorem X3 (h:∀ K:St->Prop,K=run P Γ Q3 Q->run P Γ q1a (B0 K Q) s):run P Γ Q3 Q s:=Am h
def Hh:List RV:=[.cell 2 4 true]
/- (probecard/probecardlaw03.C).gate (function 35) -/
abbrev q0j:IC:=.gh (.seq (.seq (.reg [om 37 12,om 38 7,od 39 (.bin .lss (tm 37) (tm 38))] [kp [2,3,4,6,7,8,9,10,11,12,39] [6,51,70,79,86,94,105,126,142,156]]) (.cond (tm 39) .skip (.exit 0))) (.seq (.block 1 (.seq (.reg [om
 42 2,om 43 12,od 44 (ia 4 42 43),od 45 (fa 0 44),od 46 (ld 1 45),od 47 (.bin .eql (tm 46) (ku 12))] [kp [2,3,4,6,7,8,9,10,11,12,47] [6,51,70,79,86,94,105,126,142,156]]) (.cond (tm 47) (.reg [om 48 11,om 49
 12,od 50 (.bsl true 3 1 [(tm 49)]),od 51 (.app false 3 1 (tm 48) (tm 50)),om 11 51] [kp [2,3,4,6,7,8,9,10,11,12] [6,51,70,79,86,94,105,126,142,156]]) .skip))) (.reg [om 40 12,od 41 (.bin .add (tm 40) (ki 1)),
 om 12 41] [kp [2,3,4,6,7,8,9,10,11,12] [6,51,70,79,86,94,105,126,142,156]]))) [kp [2,3,4,6,7,8,9,10,11,12] [6,51,70,79,86,94,105,126,142,156]]
def Nx:IC:=.loop q0j
abbrev q0k:IC:=(.seq (.reg [od 3 (.box true (tm 0)),od 4 (.box true (tm 1)),od 6 (.alloc false [(.int .u8 0),(.slice none 0 0),(.int .i64 0),(.int .i64 0)])] [kp [2,3,4,6] [6,70,79,86,94,105,126,142,156]]) (.seq (.reg [om 17 2,od
 18 (le 0 17),om 7 18] [kp [2,3,4,6,7] [6,70,79,86,94,105,126,142,156]]) (.seq (.reg [od 19 (fa 1 4),od 20 (.iadrA 3 1 (tm 19) (ki 0)),od 21 (ld 1 20),od 22 (.conv .i64 (tm 21)),om 23 7,od 24 (.bin .rem (tm 22) (tm
 23)),od 25 (fa 1 4),od 26 (.iadrA 3 1 (tm 25) (ki 1)),od 27 (ld 1 26),od 28 (.conv .i64 (tm 27)),om 29 7,od 30 (.bin .rem (tm 28) (tm 29)),od 31 (fa 1 4),od 32 (.iadrA 3 1 (tm 31) (ki 2)),od 33 (ld 1 32),od 34 (.conv .i64
 (tm 33)),om 35 7,od 36 (.bin .rem (tm 34) (tm 35)),om 8 24,om 9 30,om 10 36] [kp [2,3,4,6,7,8,9,10] [6,70,79,86,94,105,126,142,156]]) (.seq (.reg [od 11 (.mv kN)] [.nl 11 51 3 1,kp [2,3,4,6,7,8,9,10,11]
 [6,51,70,79,86,94,105,126,142,156]]) (.seq (.seq (.reg [od 12 (.mv (ki 0))] [kp [2,3,4,6,7,8,9,10,11,12] [6,51,70,79,86,94,105,126,142,156]]) (.block 0 Nx)) (.seq (.reg [od 52 (fa 0 4),od 53
 (ld 1 52),od 54 (.bin .rem (tm 53) (ku 9)),od 55 (.conv .i64 (tm 54)),om 13 55] [kp [3,4,6,8,9,10,11,13] [6,51,70,79,86,94,105,126,142,156]]) (.seq (.seq (.reg [od 56 (fa 4 3),od 57 (ld 1 56)] [kp [4,6,8,9,
 10,11,13,57] [6,51,70,79,86,94,105,126,142,156]]) (.cond (tm 57) (.reg [od 58 (fa 0 4),od 59 (ld 1 58),od 60 (.bin .rem (tm 59) (ku 13)),od 61 (.conv .i64 (tm 60)),om 13 61] [kp [4,6,8,9,10,11,13] [6,51,70,
 79,86,94,105,126,142,156]]) .skip)) (.seq (.block 2 (.seq (.reg [om 63 13,od 64 (.bin .lss (tm 63) (ki 6)),om 62 64] [kp [4,6,8,9,10,11,13,62] [6,51,70,79,86,94,105,126,142,156]]) (.cond (tm 62) (.seq (.reg
 [om 65 13,od 66 (.conv .u8 (tm 65)),od 67 (.bin .add (ku 5) (tm 66)),om 68 8,om 69 9,od 70 (.bsl false 3 1 [(tm 68),(tm 69)]),od 71 (.build [(1,(tm 67)),(1,(tm 70)),(1,(ki 0)),(1,(ki 0))]),od 14 (.alloc false [(.int
 .u8 0),(.slice none 0 0),(.int .i64 0),(.int .i64 0)]),on (.store 4 (tm 14) (tm 71))] [kp [4,6,10,14] [6,14,70,79,86,94,105,126,142,156]]) (.seq (.seq (.reg [od 72 (fa 0 4),od 73 (ld 1 72),od 74 (.bin .geq (tm 73)
 (ku 128))] [kp [6,10,14,74] [6,14,70,79,86,94,105,126,142,156]]) (.cond (tm 74) (.reg [od 75 (fa 1 14),od 76 (ld 1 75),om 77 10,od 78 (.bsl true 3 1 [(tm 77)]),od 79 (.app false 3 1 (tm 76) (tm 78)),od 80 (fa 1
 14),on (.store 1 (tm 80) (tm 79))] [kp [6,14] [6,14,70,79,86,94,105,126,142,156]]) .skip)) (.seq (.reg [od 81 (lG 4 14),on (.store 4 (tm 6) (tm 81))] [kp [6] [6,70,79,86,94,105,126,142,156]]) .ret))) (.seq (.reg
 [om 83 13,od 84 (.bin .eql (tm 83) (ki 6)),om 82 84] [kp [4,6,8,9,10,11,13,82] [6,51,70,79,86,94,105,126,142,156]]) (.cond (tm 82) (.seq (.reg [om 85 8,od 86 (.bsl false 3 1 [(tm 85)]),od 87 (.build [(1,(ku
 4)),(1,(tm 86)),(1,(ki 0)),(1,(ki 0))]),on (.store 4 (tm 6) (tm 87))] [kp [6] [6,70,79,86,94,105,126,142,156]]) .ret) (.seq (.reg [om 89 13,od 90 (.bin .eql (tm 89) (ki 7)),om 88 90] [kp [4,6,8,9,10,11,13,
 88] [6,51,70,79,86,94,105,126,142,156]]) (.cond (tm 88) (.seq (.reg [om 91 8,om 92 9,om 93 10,od 94 (.bsl false 3 1 [(tm 91),(tm 92),(tm 93)]),od 95 (.build [(1,(ku 11)),(1,(tm 94)),(1,(ki 0)),(1,(ki 0))]),on
 (.store 4 (tm 6) (tm 95))] [kp [6] [6,70,79,86,94,105,126,142,156]]) .ret) (.seq (.reg [om 97 13,od 98 (.bin .eql (tm 97) (ki 9)),om 99 98,oF 100 (.mv (tm 13)) 99,oF 101 (.bin .eql (tm 100) (ki 10)) 99,od 102 (.pick
 (tm 99) kT (tm 101)),om 96 102] [kp [4,6,8,9,11,13,96] [6,51,70,79,86,94,105,126,142,156]]) (.cond (tm 96) (.seq (.reg [om 103 8,om 104 9,od 105 (.bsl false 3 1 [(tm 103),(tm 104)]),od 106 (.build [(1,(ku 12)),
 (1,(tm 105)),(1,(ki 0)),(1,(ki 0))]),on (.store 4 (tm 6) (tm 106))] [kp [6] [6,70,79,86,94,105,126,142,156]]) .ret) (.seq (.reg [om 108 13,od 109 (.bin .gtr (tm 108) (ki 10)),om 110 109,oT 111 (.mv (tm 11)) 110,oT
 112 (le 0 111) 110,oT 113 (.bin .gtr (tm 112) (ki 0)) 110,od 114 (.pick (tm 110) (tm 113) kF),om 107 114] [kp [4,6,8,11,107] [6,51,70,79,86,94,105,126,142,156]]) (.cond (tm 107) (.seq (.reg [od 115 (fa 1 4),od 116
 (.iadrA 3 1 (tm 115) (ki 0)),od 117 (ld 1 116),od 118 (.conv .i64 (tm 117)),om 119 11,od 120 (le 0 119),od 121 (.bin .rem (tm 118) (tm 120)),om 15 121] [kp [6,11,15] [6,51,70,79,86,94,105,126,142,156]]) (.seq (.reg
 [om 122 11,om 123 15,od 124 (ia 1 122 123),od 125 (ld 1 124),od 126 (.bsl false 3 1 [(tm 125)]),od 127 (.build [(1,(ku 13)),(1,(tm 126)),(1,(ki 0)),(1,(ki 0))]),od 16 (.alloc false [(.int .u8 0),(.slice none 0 0),
 (.int .i64 0),(.int .i64 0)]),on (.store 4 (tm 16) (tm 127))] [kp [6,11,15,16] [6,16,51,70,79,86,94,105,126,142,156]]) (.seq (.seq (.reg [om 128 11,od 129 (le 0 128),od 130 (.bin .gtr (tm 129) (ki 1))] [kp [6,11,
 15,16,130] [6,16,51,70,79,86,94,105,126,142,156]]) (.cond (tm 130) (.reg [od 131 (fa 1 16),od 132 (.ldR 16 1 false (tm 131)),om 133 11,om 134 15,od 135 (.bin .add (tm 134) (ki 1)),om 136 11,od 137 (le 0 136),od
 138 (.bin .rem (tm 135) (tm 137)),od 139 (ia 1 133 138),od 140 (.ldR 51 1 false (tm 139)),od 141 (.bsl true 3 1 [(tm 140)]),od 142 (.app false 3 1 (tm 132) (tm 141)),od 143 (fa 1 16),on (.stR 16 1 (tm 143) (tm 142))] [kp [6,
 16] [6,16,70,79,86,94,105,126,142,156]]) .skip)) (.seq (.reg [od 144 (lG 4 16),on (.store 4 (tm 6) (tm 144))] [kp [6] [6,70,79,86,94,105,126,142,156]]) .ret)))) (.seq (.reg [od 146 (fa 0 4),od 147 (ld 1 146),od
 148 (.bin .gtr (tm 147) (ku 240)),om 145 148] [kp [4,6,8,145] [6,70,79,86,94,105,126,142,156]]) (.cond (tm 145) (.seq (.reg [od 149 (fa 1 4),od 150 (.iadrA 3 1 (tm 149) (ki 0)),od 151 (ld 1 150),od 152 (.bin .rem (tm
 151) (ku 2)),od 153 (.bin .add (ku 1) (tm 152)),od 154 (.build [(1,(tm 153)),(1,kN),(1,(ki 0)),(1,(ki 0))]),on (.store 4 (tm 6) (tm 154))] [kp [6] [6,70,79,86,94,105,126,142,156]]) .ret) .skip))))))))))))) (.seq
 (.reg [om 155 8,od 156 (.bsl false 3 1 [(tm 155)]),od 157 (.build [(1,(ku 3)),(1,(tm 156)),(1,(ki 0)),(1,(ki 0))]),on (.store 4 (tm 6) (tm 157))] [kp [6] [6,70,79,86,94,105,126,142,156]]) .ret)))))))))
theorem V0 (h:∀ K:St->Prop,K=run P Γ Nx Q->run P Γ q0j (B0 K Q) s):run P Γ Nx Q s:=Am h
def B5:List RV:=[.cell 6 4 true]
/- probecard/probecardlaw03.name (function 36) -/
abbrev q2q:IC:=(.seq (.reg [od 2 (.mv (.const (sV [])))] [kp [0] []]) (.seq (.reg [om 3 0,od 4 (.bin .quo (tm 3) (ki 10)),od 5 (.bin .add (ki 48) (tm 4)),od 6 (.conv .u8 (tm 5)),om 7 0,od 8 (.bin .rem (tm 7) (ki 10)),od 9 (.bin .add (ki 48)
 (tm 8)),od 10 (.conv .u8 (tm 9)),od 11 (.bsl true 5 1 [(ku 110),(tm 6),(tm 10)]),od 12 (.bytesStr (tm 11)),om 2 12] [kp [2] []]) .ret))
def q2r:List RV:=[.tmp 2]
end
end Go.Lg
namespace Go.Lg
open Go Go.Proofs
theorem q7R:Bc Tryz.prog 10 q2p 178 1 Hh=true:=by kernel_rfl
theorem q5J:Bc Tryz.prog 35 q0k 158 3 B5=true:=by kernel_rfl
theorem q7S:Bc Tryz.prog 36 q2q 13 1 q2r=true:=by kernel_rfl
end Go.Lg
namespace Go.Lg
open Go Go.Proofs
variable {Γ:Tables}
structure Gd where
 k:Int
 a:Int
 b:Int
 d:Int
def tGd (g:Gd):List T:=[tK g.k,tK g.a,tK g.b,tK g.d]
structure CD where
 i:Int
 f:Int
 d0:Int
 d1:Int
 bus:Bool
 mem:Bool
 p0:Int
 p1:Int
 p2:Int
 p3:Int
 gates:Sl Gd
 outs:Sl Int
def Ny (x:CD):List T:=[tK x.i,tK x.f,tK x.d0,tK x.d1,tB x.bus,tB x.mem,tK x.p0,tK x.p1,tK x.p2,tK x.p3,.sl (Bo tGd x.gates.l) x.gates.cap x.gates.nl,.sl (An tK x.outs.l) x.outs.cap x.outs.nl]
def Byt (n:Int):Prop:=0<=n/\n<=255
def q9j (g:Gd):Prop:=Byt g.k/\Byt g.a/\Byt g.b/\Byt g.d
def Z9 (i:Nat):List UInt8:=[110,UInt8.ofNat (48+i / 10),UInt8.ofNat (48+i % 10)]
theorem qEE (i:Nat) (hi:i<100):A7 Tryz.prog Γ 36 [tI i] (tS (Z9 i)):=by
 refine Ac q7S rfl ?_
 have h1:(i:Int).tdiv 10=((i / 10:Nat):Int):=by rw[Int.tdiv_eq_ediv_of_nonneg (by omega)];omega
 have h2:(i:Int).tmod 10=((i % 10:Nat):Int):=by rw[Int.tmod_eq_emod_of_nonneg (by omega)];omega
 have h3:i / 10<10:=by omega
 have h4:i % 10<10:=by omega
 generalize hq:i / 10=q at *
 generalize hr:i % 10=r at *
 have e1:(48+(q:Int)).toNat=48+q:=by omega
 have e2:(48+(r:Int)).toNat=48+r:=by omega
 simp(disch:=omega) [q2q,sV,h1,h2,A6,Bw,Ns]
 simp[q2r,Z9,hq,hr,tS,sV,e1,e2]
def q3d (nodes:List Nd):List Int:=Rl [12] nodes 0
def q92 (bus:Bool) (g:Gd) (a b d:Int) (t:List Int):Nd :=
 let kind:=if bus then g.k.tmod 13 else g.k.tmod 9
 if kind<6 then⟨5+kind,if 128<=g.k then⟨[a,b,d],none,none⟩ else⟨[a,b],none,none⟩,0,0⟩
 else if kind=6 then⟨4,⟨[a],none,none⟩,0,0⟩
 else if kind=7 then⟨11,⟨[a,b,d],none,none⟩,0,0⟩
 else if kind=9\/kind=10 then⟨12,⟨[a,b],none,none⟩,0,0⟩
 else if 10<kind/\0<t.length then
  let k:=g.a.tmod t.length
  ⟨13,if 1<t.length then⟨[t.getD k.toNat 0,t.getD ((k+1).tmod t.length).toNat 0],none,none⟩ else⟨[t.getD k.toNat 0],none,none⟩,0,0⟩
 else if 240<g.k then⟨1+g.a.tmod 2,⟨[],some 0,some true⟩,0,0⟩
 else⟨3,⟨[a],none,none⟩,0,0⟩
def q1b (bus:Bool) (g:Gd) (nodes:List Nd):Nd:=q92 bus g (g.a.tmod nodes.length) (g.b.tmod nodes.length) (g.d.tmod nodes.length) (q3d nodes)
theorem q93 {Q:AX->St->Prop} (nodes:List Nd) (cap:Option Nat) (nl:Option Bool) (hl:nodes.length<=100) (a3 a4 a8 a9 a10:T) (r6:List T)
  (h0:Q (.exit 0) ⟨[(2,.t (.sl (Bo E3 nodes) cap nl)),(3,.t a3),(4,.t a4),(6,.lp 6 0 0),(7,.t (tI nodes.length)),(8,.t a8),(9,.t a9),(10,.t a10),(11,.ls 51 0 (q3d nodes).length none),(12,.t (tI nodes.length)),(39,.t (tB false))],[(6,.bx (r6.map AV.t)),(51,.sl 3 1 (Av (q3d nodes)))]⟩):∀ (k i:Nat),k+i=nodes.length ->
  run Tryz.prog Γ Nx Q ⟨[(2,.t (.sl (Bo E3 nodes) cap nl)),(3,.t a3),(4,.t a4),(6,.lp 6 0 0),(7,.t (tI nodes.length)),(8,.t a8),(9,.t a9),(10,.t a10),(11,.ls 51 0 (q3d (nodes.take i)).length none),(12,.t (tI i))],[(6,.bx (r6.map AV.t)),(51,.sl 3 1 (Av (q3d (nodes.take i))))]⟩
 | 0,i,h=>by
  refine V0 fun K hK=>?_
  have h2:¬ i<nodes.length:=by omega
  have h3:i=nodes.length:=by omega
  simp[h2]
  subst h3
  simpa using h0
 | k+1,i,h=>by
  refine V0 fun K hK=>?_
  have h2:i<nodes.length:=by omega
  have ht:nodes.take (i+1)=nodes.take i++[nodes[i]]:=by rw[xz7];simp[h2]
  have hlen:=q0M [12] (nodes.take i) 0
  have htl:(nodes.take i).length=i:=by simp;omega
  have hal:q3d (nodes.take (i+1))=if nodes[i].k=12 then q3d (nodes.take i)++[(i:Int)]else q3d (nodes.take i):=by
   simp only[q3d]
   rw[ht,q4E,htl]
   simp only[Rl,xjc,List.contains_cons,List.contains_nil,Bool.or_false,qH6,xqu]
   split<;>simp
  have ih:=q93 nodes cap nl hl a3 a4 a8 a9 a10 r6 h0 k (i+1) (by omega)
  rw[hal]at ih
  simp only[q3d]at ih ⊢
  by_cases h5:nodes[i].k=12
  ·rw[if_pos h5]at ih
   have hw:Es 1 [[tI (i:Int)]]:=by intro e he;simp at he;subst he;rfl
   simp(disch:=omega) [h2,Ab,Eb Nd.d,Bj,E3,B8,h5,A6,A5,Aa,hw]
   rw[hK]
   simp at ih
   rw[Gy (f:=tI) (x:=(i:Int))]
   exact⟨by omega,ih⟩
  ·rw[if_neg h5]at ih
   simp(disch:=omega) [h2,Ab,Eb Nd.d,Bj,E3,B8,h5,A6]
   rw[hK]
   simpa using ih
theorem Db {a:Int} {n:Nat} (h0:0<=a) (h1:0<n):0<=a.tmod n/\a.tmod n<n:=by
 rw[Int.tmod_eq_emod_of_nonneg h0]
 exact⟨Int.emod_nonneg _ (by omega),Int.emod_lt_of_pos _ (by omega)⟩
theorem D4 {ty s:Nat} {es:List (List T)}:S9 (.sl ty s es)=∀ e∈es,∀ t∈e,Ar t=true:=rfl
set_option maxHeartbeats 4000000 in
theorem qEF (x:CD) (g:Gd) (hg:q9j g) (nodes:List Nd) (cap:Option Nat) (nl:Option Bool) (h0:1<=nodes.length) (h1:nodes.length<=100) :
  A7 Tryz.prog Γ 35 [.agg (Ny x),.agg (tGd g),.sl (Bo E3 nodes) cap nl] (.agg (E3 (q1b x.bus g nodes))):=by
 refine Ac q5J rfl ?_
 obtain⟨⟨hk0,hk1⟩,⟨ha0,ha1⟩,⟨hb0,hb1⟩,⟨hd0,hd1⟩⟩:=hg
 have hn0:¬ (nodes.length:Int)=0:=by omega
 have hn1:(nodes.length:Int)≠0:=by omega
 have hne:¬ nodes=[]:=fun e=>by subst e;simp at h0
 have hlp:=fun Q a3 a4 a8 a9 a10 r6 h0=>q93 (Γ:=Γ) (Q:=Q) nodes cap nl h1 a3 a4 a8 a9 a10 r6 h0 nodes.length 0 (by omega)
 have ht:=q0M [12] nodes 0
 simp only[q3d,List.take_zero,Rl,xq9,Pn]at hlp
 simp(disch:=omega) [q0k,Ny,tGd,Ab,A6,hn0]
 refine⟨hne,hlp _ _ _ _ _ _ [_,_,_,_] ?_⟩
 clear hlp
 unfold q1b
 simp only[q3d]
 generalize Rl [12] nodes 0=t at *
 have m13:0<=g.k.tmod 13/\g.k.tmod 13<13:=Db (n:=13) hk0 (by omega)
 have m9:0<=g.k.tmod 9/\g.k.tmod 9<9:=Db (n:=9) hk0 (by omega)
 have ma:0<=g.a.tmod 2/\g.a.tmod 2<2:=Db (n:=2) ha0 (by omega)
 generalize g.a.tmod nodes.length=a
 generalize g.b.tmod nodes.length=b
 generalize g.d.tmod nodes.length=d
 unfold q92
 cases x.bus
 ·generalize hkk:g.k.tmod 9=kk at *
  by_cases k1:kk<6
  ·by_cases k2:128<=g.k
   ·simp(disch:=omega) [hkk,k1,k2,A6,Bw,Bm,B5,E3,B8,An,Es,Aj,D4]
   ·simp(disch:=omega) [hkk,k1,k2,A6,Bw,Bm,B5,E3,B8,An,Es,Aj,D4]
  by_cases k3:kk=6
  ·simp(disch:=omega) [hkk,k1,k3,A6,Bw,Bm,B5,E3,B8,An,Es,Aj,D4]
  by_cases k4:kk=7
  ·simp(disch:=omega) [hkk,k1,k4,A6,Bw,Bm,B5,E3,B8,An,Es,Aj,D4]
  have k5:kk=8:=by omega
  by_cases k6:240<g.k
  ·simp(disch:=omega) [hkk,k5,k6,A6,Bw,Bm,B5,E3,B8,An,Es,Aj,D4]
  ·simp(disch:=omega) [hkk,k5,k6,A6,Bw,Bm,B5,E3,B8,An,Es,Aj,D4]
 ·generalize hkk:g.k.tmod 13=kk at *
  by_cases k1:kk<6
  ·by_cases k2:128<=g.k
   ·simp(disch:=omega) [hkk,k1,k2,A6,Bw,Bm,B5,E3,B8,An,Es,Aj,D4]
   ·simp(disch:=omega) [hkk,k1,k2,A6,Bw,Bm,B5,E3,B8,An,Es,Aj,D4]
  by_cases k3:kk=6
  ·simp(disch:=omega) [hkk,k1,k3,A6,Bw,Bm,B5,E3,B8,An,Es,Aj,D4]
  by_cases k4:kk=7
  ·simp(disch:=omega) [hkk,k1,k4,A6,Bw,Bm,B5,E3,B8,An,Es,Aj,D4]
  by_cases k8:kk=9
  ·simp(disch:=omega) [hkk,k8,A6,Bw,Bm,B5,E3,B8,An,Es,Aj,D4]
  by_cases k9:kk=10
  ·simp(disch:=omega) [hkk,k9,A6,Bw,Bm,B5,E3,B8,An,Es,Aj,D4]
  by_cases k10:10<kk/\0<t.length
  ·obtain⟨k11,k10⟩:=k10
   have htn:¬ (t.length:Int)=0:=by omega
   have htne:¬ t=[]:=fun e=>by subst e;simp at k10
   have htp:(0:Int)<t.length:=by omega
   have mt:=Db (n:=t.length) ha0 k10
   generalize hq:g.a.tmod t.length=q at *
   have mt2:=Db (a:=q+1) (n:=t.length) (by omega) k10
   have hq0:q.toNat<t.length:=by omega
   generalize hq2:(q+1).tmod t.length=q2 at *
   have hq20:q2.toNat<t.length:=by omega
   have e1:=Cm (f:=tI) 0 hq0
   have e2:=Cm (f:=tI) 0 hq20
   by_cases k12:1<t.length
   ·have k12':(1:Int)<t.length:=by omega
    simp(disch:=omega) [hkk,k1,k3,k4,k8,k9,k11,k10,htp,htn,k12,k12',hq,hq2,e1,e2,hq0,hq20,mt.1,mt.2,mt2.1,mt2.2,htne,A5,Aa,A6,Bw,Bm,E3,B8,Aj,D4,B5]
    simp[Es,An]
   ·have k12':¬ (1:Int)<t.length:=by omega
    simp(disch:=omega) [hkk,k1,k3,k4,k8,k9,k11,k10,htp,htn,k12,k12',hq,hq2,e1,e2,hq0,hq20,mt.1,mt.2,mt2.1,mt2.2,htne,A5,Aa,A6,Bw,Bm,E3,B8,Aj,D4,B5]
    simp[Es,An]
  ·by_cases k11:10<kk
   ·have k10':t=[]:=xqo (by omega)
    subst k10'
    by_cases k6:240<g.k
    ·simp(disch:=omega) [hkk,k1,k3,k4,k8,k9,k11,k6,A6,Bw,Bm,B5,E3,B8,An,Es,Aj,D4]
    ·simp(disch:=omega) [hkk,k1,k3,k4,k8,k9,k11,k6,A6,Bw,Bm,B5,E3,B8,An,Es,Aj,D4]
   ·have k5:kk=8:=by omega
    by_cases k6:240<g.k
    ·simp(disch:=omega) [hkk,k5,k6,A6,Bw,Bm,B5,E3,B8,An,Es,Aj,D4]
    ·simp(disch:=omega) [hkk,k5,k6,A6,Bw,Bm,B5,E3,B8,An,Es,Aj,D4]
def q12:T:=.sl [] (some 0) (some true)
def Ro (nodes:List Nd) (names:List (List UInt8)) (m:T) (outs:List Int):List (Nat×Aw) :=
 [(2,.bx [.t q12,.t q12,.t q12,.t q12]),(3,.bx [.ls 25 0 nodes.length none,.ls 144 0 names.length none,.t m,.ls 168 0 outs.length none]),(25,.sl 50 4 (Bo E3 nodes)),(144,.sl 9 1 (An tS names)),(168,.sl 3 1 (Av outs))]
def q6E:Nd:=⟨0,⟨[],some 0,some true⟩,0,0⟩
def q5K (l:Int):Nd:=⟨14,⟨[l],some 1,some false⟩,0,0⟩
def q3e (b:Int):Nd:=⟨15,⟨[],some 0,some true⟩,0,b⟩
theorem q94 {Q:AX->St->Prop} (x:CD) (hx:Byt x.i) (R:List Nd)
  (h0:Q (.exit 0) ⟨[(1,.t (.ip (Ny x) 0)),(2,.lp 2 0 0),(3,.lp 3 0 0),(4,.t (tI (x.i.tmod 4+1))),(18,.t (tB false))],Ro R [] q12 []⟩):∀ (k:Nat) (i:Int) (ns:List Nd),k+i=x.i.tmod 4+1->ns++List.replicate k q6E=R->ns.length+k<=100 ->
  run Tryz.prog Γ Si Q ⟨[(1,.t (.ip (Ny x) 0)),(2,.lp 2 0 0),(3,.lp 3 0 0),(4,.t (tI i))],Ro ns [] q12 []⟩
 | 0,i,ns,h,hR,hl=>by
  refine Xy fun K hK=>?_
  have m4:0<=x.i.tmod 4/\x.i.tmod 4<4:=Db (n:=4) hx.1 (by omega)
  have h2:¬ i<=x.i.tmod 4:=by omega
  have h3:i=x.i.tmod 4+1:=by omega
  simp only[List.replicate_zero,List.append_nil]at hR
  subst hR
  simp(disch:=omega) [h2,Ny,Ro,A6,Bw]
  subst h3
  simpa[Ny,Ro]using h0
 | k+1,i,ns,h,hR,hl=>by
  refine Xy fun K hK=>?_
  have m4:0<=x.i.tmod 4/\x.i.tmod 4<4:=Db (n:=4) hx.1 (by omega)
  have h2:i<=x.i.tmod 4:=by omega
  have ih:=q94 x hx R h0 k (i+1) (ns++[q6E]) (by omega) (by rw[<- hR];simp[List.replicate_succ]) (by simp;omega)
  have q:Bo E3 ns++[[tK 0,.sl [] (some 0) (some true),tI 0,tI 0]]=Bo E3 (ns++[q6E]):=q2M (f:=E3) (x:=q6E)
  have hw4:Es 4 [[tK 0,.sl [] (some 0) (some true),tI 0,tI 0]]:=by intro e he;simp at he;subst he;rfl
  have ht:(Bo E3 ns).take ns.length=Bo E3 ns:=xqw (by simp[Bo])
  simp(disch:=omega) [h2,Ny,Ro,A6,Bw,Ab,hw4,Bj,ht,q]
  rw[hK]
  simp[Ny,Ro]at ih
  exact⟨by omega,ih⟩
theorem qCz {Q:AX->St->Prop} (x:CD) (hx:Byt x.f) (first:Int) (R:List Nd)
  (h0:Q (.exit 2) ⟨[(1,.t (.ip (Ny x) 0)),(2,.lp 2 0 0),(3,.lp 3 0 0),(5,.t (tI first)),(6,.t (tI (x.f.tmod 3))),(7,.t (tI (x.f.tmod 3))),(36,.t (tB false))],Ro R [] q12 []⟩):∀ (k:Nat) (i:Int) (ns:List Nd),k+i=x.f.tmod 3->ns++List.replicate k (q5K 0)=R->ns.length+k<=100 ->
  run Tryz.prog Γ Sj Q ⟨[(1,.t (.ip (Ny x) 0)),(2,.lp 2 0 0),(3,.lp 3 0 0),(5,.t (tI first)),(6,.t (tI (x.f.tmod 3))),(7,.t (tI i))],Ro ns [] q12 []⟩
 | 0,i,ns,h,hR,hl=>by
  refine Xz fun K hK=>?_
  have m3:0<=x.f.tmod 3/\x.f.tmod 3<3:=Db (n:=3) hx.1 (by omega)
  have h2:¬ i<x.f.tmod 3:=by omega
  have h3:i=x.f.tmod 3:=by omega
  simp only[List.replicate_zero,List.append_nil]at hR
  subst hR
  simp(disch:=omega) [h2,Ny,Ro,A6,Bw]
  subst h3
  simpa[Ny,Ro]using h0
 | k+1,i,ns,h,hR,hl=>by
  refine Xz fun K hK=>?_
  have m3:0<=x.f.tmod 3/\x.f.tmod 3<3:=Db (n:=3) hx.1 (by omega)
  have h2:i<x.f.tmod 3:=by omega
  have ih:=qCz x hx first R h0 k (i+1) (ns++[q5K 0]) (by omega) (by rw[<- hR];simp[List.replicate_succ]) (by simp;omega)
  have q:Bo E3 ns++[[tK 14,.sl [[tI 0]] (some 1) (some false),tI 0,tI 0]]=Bo E3 (ns++[q5K 0]):=q2M (f:=E3) (x:=q5K 0)
  have hw4:Es 4 [[tK 14,.sl [[tI 0]] (some 1) (some false),tI 0,tI 0]]:=by intro e he;simp at he;subst he;rfl
  have ht:(Bo E3 ns).take ns.length=Bo E3 ns:=xqw (by simp[Bo])
  simp(disch:=omega) [h2,Ny,Ro,A6,Bw,Ab,hw4,Bj,ht,q]
  rw[hK]
  simp[Ny,Ro]at ih
  exact⟨by omega,ih⟩
def Oa (bus:Bool):List Gd->List Nd->List Nd
 | [],ns=>ns
 | g::l,ns=>Oa bus l (ns++[q1b bus g ns])
theorem qHE {l:List Gd}:Es 4 (Bo tGd l):=q48 fun _=>rfl
def Gd.z:Gd:=⟨0,0,0,0⟩
theorem qAi {Q:AX->St->Prop} (x:CD) (hx:∀ g∈x.gates.l,q9j g) (first dffs:Int) (R:List Nd)
  (h0:Q (.exit 4) ⟨[(1,.t (.ip (Ny x) 0)),(2,.lp 2 0 0),(3,.lp 3 0 0),(5,.t (tI first)),(6,.t (tI dffs)),(8,.t (tI (min x.gates.l.length 8:Nat))),(63,.t (tB false))],Ro R [] q12 []⟩):∀ (k i:Nat) (ns:List Nd),k+i=min x.gates.l.length 8->Oa x.bus ((x.gates.l.take 8).drop i) ns=R->1<=ns.length->ns.length+k<=100 ->
  run Tryz.prog Γ Sr Q ⟨[(1,.t (.ip (Ny x) 0)),(2,.lp 2 0 0),(3,.lp 3 0 0),(5,.t (tI first)),(6,.t (tI dffs)),(8,.t (tI i))],Ro ns [] q12 []⟩
 | 0,i,ns,h,hR,hl1,hl=>by
  refine Y0 fun K hK=>?_
  rw[xq2 (by simp;omega)]at hR
  simp only[Oa]at hR
  subst hR
  have hi:i=min x.gates.l.length 8:=by omega
  by_cases h2:i<x.gates.l.length
  ·have h3:¬ (i:Int)<8:=by omega
   have h3':¬ i<8:=by omega
   simp(disch:=omega) [h2,h3,h3',Ny,Ro,Ab]
   subst hi
   simpa[Ny,Ro]using h0
  ·simp(disch:=omega) [h2,Ny,Ro,Ab]
   subst hi
   simpa[Ny,Ro]using h0
 | k+1,i,ns,h,hR,hl1,hl=>by
  refine Y0 fun K hK=>?_
  have h2:i<x.gates.l.length:=by omega
  have h3:i<8:=by omega
  have h3':(i:Int)<8:=by omega
  rw[xqq (by simp;omega)]at hR
  simp only[Oa,List.getElem_take]at hR
  have ih:=qAi x hx first dffs R h0 k (i+1) (ns++[q1b x.bus x.gates.l[i] ns]) (by omega) hR (by simp) (by simp;omega)
  have hg:=qEF (Γ:=Γ) x x.gates.l[i] (hx _ (xqj h2)) ns none none hl1 (by omega)
  generalize q1b x.bus x.gates.l[i] ns=gn at *
  have q:Bo E3 ns++[E3 gn]=Bo E3 (ns++[gn]):=q2M (f:=E3) (x:=gn)
  have hw4:Es 4 [E3 gn]:=by intro e he;simp at he;subst he;rfl
  have ht:(Bo E3 ns).take ns.length=Bo E3 ns:=xqw (by simp[Bo])
  have hget:=Eb (f:=tGd) Gd.z h2
  simp(disch:=omega) [h2,h3,h3',Ny,Ro,A6,Ab,hget,qHE,tGd]
  refine A4 hg (by simp[Aj,Ny,ht,tGd]) ?_
  simp[E3]at q hw4
  simp(disch:=omega) [E3,A6,Ab,hw4,Bj,ht,q]
  rw[hK]
  simp[Ny,Ro]at ih
  exact⟨rfl,by omega,ih⟩
def ddN (x:CD) (i:Nat):Int:=if i=0 then x.d0 else x.d1
def V1 (ns:List Nd) (j:Nat) (v:Int):List Nd:=ns.set j ⟨(ns.getD j Nd.d).k,⟨[v],some 1,some false⟩,(ns.getD j Nd.d).mem,(ns.getD j Nd.d).bit⟩
def Za (x:CD) (first:Nat):Nat->Nat->List Nd->List Nd
 | 0,_,ns=>ns
 | k+1,i,ns=>Za x first k (i+1) (V1 ns (first+i) ((ddN x i).tmod ns.length))
theorem Ox {ns:List Nd} {j:Nat} {v:Int}:(V1 ns j v).length=ns.length:=by simp[V1]
theorem q5L {x:CD} {f:Nat}:∀ {k i:Nat} {ns:List Nd},(Za x f k i ns).length=ns.length
 | 0,_,_=>rfl
 | k+1,i,ns=>by simp only[Za];rw[q5L,Ox]
theorem qJM {ns:List Nd} {j:Nat} {v:Int} (hj:j<ns.length):(Bo E3 ns).set j (((Bo E3 ns)[j]?.getD []).take 1++T.sl [[tI v]] (some 1) (some false)::((Bo E3 ns)[j]?.getD []).drop 2)=Bo E3 (V1 ns j v):=by
 rw[Eb (f:=E3) Nd.d hj]
 unfold V1 Bo
 rw[List.map_set]
 rfl
theorem qD0 {Q:AX->St->Prop} (x:CD) (h0':Byt x.d0) (h1':Byt x.d1) (first dn n:Nat) (hdn:dn<=2) (hn:1<=n/\n<=100) (hf:first+dn<=n) (R:List Nd)
  (h0:Q (.exit 6) ⟨[(1,.t (.ip (Ny x) 0)),(2,.lp 2 0 0),(3,.lp 3 0 0),(5,.t (tI first)),(6,.t (tI dn)),(9,.t (tI n)),(10,.t (tI dn)),(85,.t (tB false))],Ro R [] q12 []⟩):∀ (k i:Nat) (ns:List Nd),k+i=dn->Za x first k i ns=R->ns.length=n ->
  run Tryz.prog Γ Ss Q ⟨[(1,.t (.ip (Ny x) 0)),(2,.lp 2 0 0),(3,.lp 3 0 0),(5,.t (tI first)),(6,.t (tI dn)),(9,.t (tI n)),(10,.t (tI i))],Ro ns [] q12 []⟩
 | 0,i,ns,h,hR,hl=>by
  refine Y1 fun K hK=>?_
  simp only[Za]at hR
  subst hR
  have h2:¬ i<dn:=by omega
  have h3:i=dn:=by omega
  simp(disch:=omega) [h2,Ny,Ro]
  subst h3
  simpa[Ny,Ro]using h0
 | k+1,i,ns,h,hR,hl=>by
  refine Y1 fun K hK=>?_
  have h2:i<dn:=by omega
  simp only[Za]at hR
  have ih:=qD0 x h0' h1' first dn n hdn hn hf R h0 k (i+1) _ (by omega) hR (by rw[Ox];exact hl)
  have hi:i=0\/i=1:=by omega
  have hj:first+i<ns.length:=by omega
  have hn0:¬ (n:Int)=0:=by omega
  have hget:=Eb (f:=E3) Nd.d hj
  obtain⟨h01,h02⟩:=h0'
  obtain⟨h11,h12⟩:=h1'
  have hs:=fun v=>qJM (v:=v) hj
  have hn':¬ n=0:=by omega
  have hfi:first+i<n:=by omega
  rcases hi with rfl|rfl
  ·have hdd:ddN x 0=x.d0:=rfl
   have h2':(0:Int)<dn:=by omega
   rw[hdd,hl]at ih
   simp only[xzp]at hs hfi ih
   simp(disch:=omega) [h2,h2',Ny,Ro,A6,Ab,Bj,hn0,hl,hs,hn',hfi]
   rw[hK]
   simp[Ny,Ro,Ox,hl]at ih
   exact ih
  ·have hdd:ddN x 1=x.d1:=rfl
   have h2':(1:Int)<dn:=by omega
   rw[hdd,hl]at ih
   have hfn:((first:Int)+1).toNat=first+1:=by omega
   have hfi':(first:Int)+1<n:=by omega
   simp(disch:=omega) [h2,h2',Ny,Ro,A6,Ab,Bj,hn0,hl,hs,hn',hfi,hfn,hfi']
   rw[hK]
   simp[Ny,Ro,Ox,hl]at ih
   exact⟨by omega,ih⟩
theorem qAj {Q:AX->St->Prop} (x:CD) (n:Nat) (hn:n<=100) (ns:List Nd) (m:T) (R:List (List UInt8))
  (h0:Q (.exit 8) ⟨[(1,.t (.ip (Ny x) 0)),(2,.lp 2 0 0),(3,.lp 3 0 0),(9,.t (tI n)),(11,.t (tI n)),(136,.t (tB false))],Ro ns R m []⟩):∀ (k i:Nat) (nms:List (List UInt8)),k+i=n->nms++(List.range' i k).map Z9=R->nms.length=i ->
  run Tryz.prog Γ Su Q ⟨[(1,.t (.ip (Ny x) 0)),(2,.lp 2 0 0),(3,.lp 3 0 0),(9,.t (tI n)),(11,.t (tI i))],Ro ns nms m []⟩
 | 0,i,nms,h,hR,hl=>by
  refine Y2 fun K hK=>?_
  simp only[List.range'_zero,xq3,List.append_nil]at hR
  subst hR
  have h2:¬ i<n:=by omega
  have h3:i=n:=by omega
  simp(disch:=omega) [h2,Ny,Ro]
  subst h3
  simpa[Ny,Ro]using h0
 | k+1,i,nms,h,hR,hl=>by
  refine Y2 fun K hK=>?_
  have h2:i<n:=by omega
  rw[List.range'_succ,xqm]at hR
  have ih:=qAj x n hn ns m R h0 k (i+1) (nms++[Z9 i]) (by omega) (by rw[<- hR];simp) (by simp;omega)
  have e:=qEE (Γ:=Γ) i (by omega)
  have q:An tS nms++[[tS (Z9 i)]]=An tS (nms++[Z9 i]):=Gy
  have ht:(An tS nms).take i=An tS nms:=xqw (by simp[An];omega)
  generalize Z9 i=nm at *
  have hw:Es 1 [[tS nm]]:=by intro e he;simp at he;subst he;rfl
  simp(disch:=omega) [h2,Ny,Ro,A6,hl]
  refine A4 e rfl ?_
  simp only[tS,sV]at q hw
  simp(disch:=omega) [tS,sV,A6,A5,hw,Aa,ht,q,hl]
  rw[hK]
  simp[Ny,Ro,hl]at ih
  exact⟨by omega,ih⟩
theorem qD1 {Q:AX->St->Prop} (x:CD) (hx:∀ b∈x.outs.l,Byt b) (n:Nat) (hn:1<=n/\n<=100) (ns:List Nd) (nms:List (List UInt8)) (m:T) (R:List Int)
  (h0:Q (.exit 10) ⟨[(1,.t (.ip (Ny x) 0)),(2,.lp 2 0 0),(3,.lp 3 0 0),(9,.t (tI n)),(12,.t (tI (min x.outs.l.length 3:Nat))),(154,.t (tB false))],Ro ns nms m R⟩):∀ (k i:Nat) (os:List Int),k+i=min x.outs.l.length 3->os++((x.outs.l.take 3).drop i).map (fun b=>b.tmod n)=R->os.length=i ->
  run Tryz.prog Γ Q3 Q ⟨[(1,.t (.ip (Ny x) 0)),(2,.lp 2 0 0),(3,.lp 3 0 0),(9,.t (tI n)),(12,.t (tI i))],Ro ns nms m os⟩
 | 0,i,os,h,hR,hl=>by
  refine X3 fun K hK=>?_
  rw[xq2 (by simp;omega)]at hR
  simp only[xq3,List.append_nil]at hR
  subst hR
  have hi:i=min x.outs.l.length 3:=by omega
  by_cases h2:i<x.outs.l.length
  ·have h3:¬ (i:Int)<3:=by omega
   have h3':¬ i<3:=by omega
   simp(disch:=omega) [h2,h3,h3',Ny,Ro,A5]
   subst hi
   simpa[Ny,Ro]using h0
  ·simp(disch:=omega) [h2,Ny,Ro,A5]
   subst hi
   simpa[Ny,Ro]using h0
 | k+1,i,os,h,hR,hl=>by
  refine X3 fun K hK=>?_
  have h2:i<x.outs.l.length:=by omega
  have h3:i<3:=by omega
  have h3':(i:Int)<3:=by omega
  rw[xqq (by simp;omega)]at hR
  simp only[xqm,List.getElem_take]at hR
  have hb:=hx _ (xqj h2)
  obtain⟨hb0,hb1⟩:=hb
  have hget:=Cm (f:=tK) 0 h2
  have hg2:x.outs.l[i]?.getD 0=x.outs.l[i]:=by simp[h2]
  rw[hg2]at hget
  generalize x.outs.l[i]=b at *
  have hn0:¬ (n:Int)=0:=by omega
  have hn0':¬ n=0:=by omega
  have ih:=qD1 x hx n hn ns nms m R h0 k (i+1) (os++[b.tmod n]) (by omega) (by rw[<- hR];simp) (by simp;omega)
  have q:An tI os++[[tI (b.tmod n)]]=An tI (os++[b.tmod n]):=Gy
  have ht:(An tI os).take i=An tI os:=xqw (by simp[An];omega)
  have hw:Es 1 [[tI (b.tmod n)]]:=by intro e he;simp at he;subst he;rfl
  simp(disch:=omega) [h2,h3,h3',Ny,Ro,A6,A5,Aa,hget,hn0,hn0',hw,ht,q,hl]
  rw[hK]
  simp[Ny,Ro,hl]at ih
  exact⟨by omega,ih⟩
def Ib (x:CD):List Nd:=List.replicate (x.i.tmod 4+1).toNat q6E
def Fq (x:CD):List Nd:=Ib x++List.replicate (x.f.tmod 3).toNat (q5K 0)
def Ez (x:CD):List Nd:=if x.mem then Fq x++[q3e 0,q3e 1]else Fq x
def D8 (x:CD):List Nd:=Oa x.bus (x.gates.l.take 8) (Ez x)
def Ec (x:CD):List Nd:=Za x (Ib x).length (x.f.tmod 3).toNat 0 (D8 x)
def q7T (x:CD) (n:Int):List Mm:=if x.mem then[⟨⟨[x.p0.tmod n],some 1,some false⟩,⟨[x.p1.tmod n,x.p2.tmod n],some 2,some false⟩,x.p3.tmod n⟩] else[]
def Nz (x:CD):Bg :=
 ⟨⟨Ec x,none,none⟩,⟨(List.range' 0 (D8 x).length).map Z9,none,none⟩,⟨q7T x (D8 x).length,some (if x.mem then 1 else 0),some (!x.mem)⟩,⟨(x.outs.l.take 3).map (fun b=>b.tmod (D8 x).length)++[((D8 x).length:Int)-1],none,none⟩⟩
structure q2Z (x:CD):Prop where
 i:Byt x.i
 f:Byt x.f
 d0:Byt x.d0
 d1:Byt x.d1
 p0:Byt x.p0
 p1:Byt x.p1
 p2:Byt x.p2
 p3:Byt x.p3
 gates:∀ g∈x.gates.l,q9j g
 outs:∀ b∈x.outs.l,Byt b
theorem q0P {bus:Bool}:∀ {l:List Gd} {ns:List Nd},(Oa bus l ns).length=ns.length+l.length
 | [],ns=>rfl
 | g::l,ns=>by simp only[Oa];rw[q0P];simp;omega
set_option maxHeartbeats 4000000 in
theorem qHF (x:CD) (hx:q2Z x):B9 Tryz.prog Γ 10 [.agg (Ny x)] (.agg (tC (Nz x))):=by
 refine Cc q7R rfl ?_
 have m4:0<=x.i.tmod 4/\x.i.tmod 4<4:=Db (n:=4) hx.i.1 (by omega)
 have m3:0<=x.f.tmod 3/\x.f.tmod 3<3:=Db (n:=3) hx.f.1 (by omega)
 have l1:(Ib x).length=(x.i.tmod 4+1).toNat:=by simp[Ib]
 have l2:(Fq x).length=(x.i.tmod 4+1).toNat+(x.f.tmod 3).toNat:=by simp[Fq,Ib]
 have l3:(Fq x).length<=(Ez x).length/\(Ez x).length<=8:=by unfold Ez;split<;>simp<;>omega
 have l4:(D8 x).length=(Ez x).length+min 8 x.gates.l.length:=by unfold D8;rw[q0P];simp
 have l5:(Ec x).length=(D8 x).length:=q5L
 have e1:=fun Q h0=>q94 (Γ:=Γ) (Q:=Q) x hx.i (Ib x) h0 (x.i.tmod 4+1).toNat 0 [] (by omega) rfl (by simp;omega)
 have e2:=fun Q h0=>qCz (Γ:=Γ) (Q:=Q) x hx.f (Ib x).length (Fq x) h0 (x.f.tmod 3).toNat 0 (Ib x) (by omega) rfl (by omega)
 have e3:=fun Q h0=>qAi (Γ:=Γ) (Q:=Q) x hx.gates (Ib x).length (x.f.tmod 3) (D8 x) h0 (min x.gates.l.length 8) 0 (Ez x) (by omega) rfl (by omega) (by omega)
 have e4:=fun Q h0=>qD0 (Γ:=Γ) (Q:=Q) x hx.d0 hx.d1 (Ib x).length (x.f.tmod 3).toNat (D8 x).length (by omega) (by omega) (by omega) (Ec x) h0 (x.f.tmod 3).toNat 0 (D8 x) (by omega) rfl rfl
 have e5:=fun Q m h0=>qAj (Γ:=Γ) (Q:=Q) x (D8 x).length (by omega) (Ec x) m _ h0 (D8 x).length 0 [] (by omega) rfl rfl
 have e6:=fun Q nms m h0=>qD1 (Γ:=Γ) (Q:=Q) x hx.outs (D8 x).length (by omega) (Ec x) nms m _ h0 (min x.outs.l.length 3) 0 [] (by omega) rfl rfl
 have hc:((x.f.tmod 3).toNat:Int)=x.f.tmod 3:=by omega
 rw[hc]at e4
 have hk1:=fun{s:Nat} {e:List (List T)} {n:Nat} (h:e.length<=n)=>xqw h
 have a33:∀ {os:List Int},An tI os++[[tI (((D8 x).length:Int)-1)]]=An tI (os++[((D8 x).length:Int)-1]):=Gy
 have hw1:Es 1 [[tI (((D8 x).length:Int)-1)]]:=by intro e he;simp at he;subst he;rfl
 have hol:((x.outs.l.take 3).map (fun b=>b.tmod ((D8 x).length:Int))).length=min 3 x.outs.l.length:=by simp
 have hnl:((List.range' 0 (D8 x).length).map Z9).length=(D8 x).length:=by simp
 simp only[List.nil_append,xzt]at e5 e6
 generalize hN:D8 x=N4 at *
 generalize hO:(x.outs.l.take 3).map (fun b=>b.tmod (N4.length:Int))=O at *
 generalize hNm:(List.range' 0 N4.length).map Z9=Nm at *
 simp(config:={ maxSteps:=2000000 }) [q2p,Ny]
 refine e1 _ ?_
 simp(config:={ maxSteps:=2000000 }) (disch:=omega) [Ny,Ro,A6,Bw,Ab]
 refine e2 _ ?_
 cases hm:x.mem
 ·have h3:Ez x=Fq x:=by simp[Ez,hm]
  rw[h3]at e3 l3 l4
  simp only[Ny,Ro,hm]at e3 e4 e5 e6
  simp(config:={ maxSteps:=2000000 }) (disch:=omega) [Ny,Ro,A6,Bw,Ab,A5,q1N,Bj,Aa,hm]
  refine e3 _ ?_
  simp(config:={ maxSteps:=2000000 }) (disch:=omega) [Ny,Ro,A6,Bw,Ab,A5,q1N,Bj,Aa,hm]
  refine e4 _ ?_
  simp(config:={ maxSteps:=2000000 }) (disch:=omega) [Ny,Ro,A6,Bw,Ab,A5,q1N,Bj,Aa,hm]
  refine e5 _ _ ?_
  simp(config:={ maxSteps:=2000000 }) (disch:=omega) [Ny,Ro,A6,Bw,Ab,A5,q1N,Bj,Aa,hm]
  refine e6 _ _ _ ?_
  have ht:(An tI O).take O.length=An tI O:=xqw (by simp[An])
  simp(config:={ maxSteps:=2000000 }) (disch:=omega) [Ny,Ro,A6,Bw,Ab,A5,q1N,Bj,Aa,hm,ht,hw1,a33,Hh,Aj,q12]
  have ht2:(An tI (O++[(N4.length:Int)-1])).take (O.length+1)=An tI (O++[(N4.length:Int)-1]):=xqw (by simp[An])
  refine⟨by omega,?_⟩
  rw[ht2]
  simp[tC,Nz,q7T,hm,A9,Ah,Ap,B8,hN,hO,hNm,Bo]
 ·have h3:Ez x=Fq x++[q3e 0,q3e 1]:=by simp[Ez,hm]
  have l3':(Ez x).length=(Fq x).length+2:=by rw[h3];simp
  have q:Bo E3 (Fq x)++[[tK 15,.sl [] (some 0) (some true),tI 0,tI 0],[tK 15,.sl [] (some 0) (some true),tI 0,tI 1]]=Bo E3 (Ez x):=by rw[h3];simp[Bo,q3e,E3,B8,An]
  have hw4:Es 4 [[tK 15,.sl [] (some 0) (some true),tI 0,tI 0],[tK 15,.sl [] (some 0) (some true),tI 0,tI 1]]:=by intro e he;simp at he;rcases he with rfl|rfl<;>rfl
  have ht0:(Bo E3 (Fq x)).take (Fq x).length=Bo E3 (Fq x):=xqw (by simp[Bo])
  have ht:(An tI O).take O.length=An tI O:=xqw (by simp[An])
  have hn0:¬ (N4.length:Int)=0:=by omega
  have hn0':¬ N4=[]:=fun e=>by rw[e]at l4;simp at l4;omega
  obtain⟨b00,b01⟩:=hx.p0
  obtain⟨b10,b11⟩:=hx.p1
  obtain⟨b20,b21⟩:=hx.p2
  obtain⟨b30,b31⟩:=hx.p3
  simp only[Ny,Ro,hm]at e3 e4 e5 e6
  simp(config:={ maxSteps:=2000000 }) (disch:=omega) [Ny,Ro,A6,Bw,Ab,A5,Bj,Aa,hm,ht,ht0,hw1,hw4,q,hn0,hn0',a33,Hh,Aj,q12]
  refine⟨by omega,?_⟩
  rw[<- l3']
  refine e3 _ ?_
  simp(config:={ maxSteps:=2000000 }) (disch:=omega) [Ny,Ro,A6,Bw,Ab,A5,Bj,Aa,hm,ht,ht0,hw1,hw4,q,hn0,hn0',a33,Hh,Aj,q12]
  refine e4 _ ?_
  simp(config:={ maxSteps:=2000000 }) (disch:=omega) [Ny,Ro,A6,Bw,Ab,A5,Bj,Aa,hm,ht,ht0,hw1,hw4,q,hn0,hn0',a33,Hh,Aj,q12]
  refine e5 _ _ ?_
  simp(config:={ maxSteps:=2000000 }) (disch:=omega) [Ny,Ro,A6,Bw,Ab,A5,Bj,Aa,hm,ht,ht0,hw1,hw4,q,hn0,hn0',a33,Hh,Aj,q12]
  refine e6 _ _ _ ?_
  simp(config:={ maxSteps:=2000000 }) (disch:=omega) [Ny,Ro,A6,Bw,Ab,A5,Bj,Aa,hm,ht,ht0,hw1,hw4,q,hn0,hn0',a33,Hh,Aj,q12]
  have ht2:(An tI (O++[(N4.length:Int)-1])).take (O.length+1)=An tI (O++[(N4.length:Int)-1]):=xqw (by simp[An])
  refine⟨by omega,?_⟩
  rw[ht2]
  simp[tC,Nz,q7T,hm,A9,Ah,Ap,B8,hN,hO,hNm,Bo,tMm,An]
def q3f (x:Nd):Prop:=(0<=x.k/\x.k<=255)/\x.inn.l.length<=1000000000
theorem qFK {bus:Bool} {g:Gd} {a b d:Int} {t:List Int} (hg:q9j g):q3f (q92 bus g a b d t):=by
 have m13:0<=g.k.tmod 13/\g.k.tmod 13<13:=Db (n:=13) hg.1.1 (by omega)
 have m9:0<=g.k.tmod 9/\g.k.tmod 9<9:=Db (n:=9) hg.1.1 (by omega)
 have ma:0<=g.a.tmod 2/\g.a.tmod 2<2:=Db (n:=2) hg.2.1.1 (by omega)
 have hk:0<=(if bus then g.k.tmod 13 else g.k.tmod 9)/\(if bus then g.k.tmod 13 else g.k.tmod 9)<13:=by cases bus<;>simp<;>omega
 unfold q92
 simp only
 generalize (if bus=true then g.k.tmod 13 else g.k.tmod 9)=kk at *
 unfold q3f
 split
 ·refine⟨⟨by simp;omega,by simp;omega⟩,?_⟩
  simp only;split<;>simp
 split
 ·simp
 split
 ·simp
 split
 ·simp
 split
 ·simp only;split<;>simp
 split
 ·simp;omega
 ·simp
theorem q95 {bus:Bool}:∀ {l:List Gd} {ns:List Nd},(∀ g∈l,q9j g)->(∀ x∈ns,q3f x)->∀ x∈Oa bus l ns,q3f x
 | [],ns,_,h=>h
 | g::l,ns,hg,h=>by
  simp only[Oa]
  refine q95 (fun y hy=>hg y (xqf _ hy)) fun y hy=>?_
  rcases xzg.1 hy with hy|hy
  ·exact h y hy
  ·simp at hy;subst hy;exact qFK (hg g xqh)
theorem qFL {ns:List Nd} {j:Nat} {v:Int} (h:∀ x∈ns,q3f x):∀ x∈V1 ns j v,q3f x:=by
 intro x hx
 unfold V1 at hx
 rcases xz9 hx with hx|rfl
 ·exact h x hx
 ·refine⟨?_,by simp⟩
  simp only[xqe]
  by_cases hj:j<ns.length
  ·simp only[xqg hj,xzy]
   exact(h _ (xqj hj)).1
  ·simp[List.getElem?_eq_none (Nat.le_of_not_lt hj),Nd.d]
theorem qAk {c:CD} {f:Nat}:∀ {k i:Nat} {ns:List Nd},(∀ x∈ns,q3f x)->∀ x∈Za c f k i ns,q3f x
 | 0,_,_,h=>h
 | k+1,i,ns,h=>by simp only[Za];exact qAk (qFL h)
theorem qEG {x:CD} (hx:q2Z x):∀ n∈Ec x,q3f n:=by
 have h1:∀ n∈Ib x,q3f n:=fun n hn=>by rw[(List.mem_replicate.1 hn).2];simp[q3f,q6E]
 have h2:∀ n∈Fq x,q3f n:=fun n hn=>by
  rcases xzg.1 hn with hn|hn
  ·exact h1 n hn
  ·rw[(List.mem_replicate.1 hn).2];simp[q3f,q5K]
 have h3:∀ n∈Ez x,q3f n:=by
  unfold Ez
  split
  ·intro n hn
   rcases xzg.1 hn with hn|hn
   ·exact h2 n hn
   ·simp at hn;rcases hn with rfl|rfl<;>simp[q3f,q3e]
  ·exact h2
 exact qAk (q95 (fun g hg=>hx.gates g (xz6 hg)) h3)
theorem q0Q {x:CD} (hx:q2Z x):1<=(D8 x).length/\(D8 x).length<=16:=by
 have m4:0<=x.i.tmod 4/\x.i.tmod 4<4:=Db (n:=4) hx.i.1 (by omega)
 have m3:0<=x.f.tmod 3/\x.f.tmod 3<3:=Db (n:=3) hx.f.1 (by omega)
 have l2:(Fq x).length=(x.i.tmod 4+1).toNat+(x.f.tmod 3).toNat:=by simp[Fq,Ib]
 have l3:(Fq x).length<=(Ez x).length/\(Ez x).length<=8:=by unfold Ez;split<;>simp<;>omega
 have l4:(D8 x).length=(Ez x).length+min 8 x.gates.l.length:=by unfold D8;rw[q0P];simp
 omega
theorem q0R {x:CD} (hx:q2Z x):(Ec x).length=(D8 x).length:=q5L
theorem qFM {x:CD} (hx:q2Z x):COk (Nz x):=by
 have l:=q0Q hx
 have l5:=q0R hx
 have hn:=qEG hx
 refine⟨⟨?_,?_,?_,?_,fun n h=>(hn n h).1,fun n h=>(hn n h).2,?_⟩,?_⟩
 ·simp only[Nz];omega
 ·simp[Nz];omega
 ·simp only[Nz,q7T];split<;>simp
 ·simp[Nz];omega
 ·intro m hm
  simp only[Nz,q7T]at hm
  split at hm
  ·simp at hm;subst hm;simp
  ·cases hm
 ·intro s hs b hb
  simp only[Nz]at hs
  obtain⟨i,hi,rfl⟩:=xqy.1 hs
  have:=(List.mem_range'_1.1 hi).2
  have h1:i / 10<10:=by omega
  have h2:i % 10<10:=by omega
  have key:∀ q:Nat,q<10->UInt8.ofNat (48+q)<128:=by decide
  simp only[Z9,xqv,xz2,or_false]at hb
  rcases hb with rfl|rfl|rfl
  ·decide
  ·exact key _ h1
  ·exact key _ h2
end Go.Lg
namespace Go.Lg
open Go Go.Proofs Go.Proofs.YtafhjckfgmcphaaGreatDoor
def G0 (g:Nat):Option (List T):=if g=0 then some qE5 else none
theorem qMT:GOk G0:=rfl
theorem qLP:Tryz.prog.globalNamed "probecard/logic.fanins" = some 0:=by kernel_rfl
theorem qJN:(Tryz.prog.globals[0]?).map (·.type)=some 231:=by kernel_rfl
theorem qJO:Tryz.prog.cellsOf 3=1:=by kernel_rfl
theorem qFN:Tryz.prog.cellsOf 4=1:=by kernel_rfl
theorem q1c:Tryz.prog.cellsOf 5=1:=by kernel_rfl
theorem qD2:Tryz.prog.cellsOf 22=2:=by kernel_rfl
theorem qD3:Tryz.prog.cellsOf 23=4:=by kernel_rfl
theorem qHG:Tryz.prog.cellsOf 24=1:=by kernel_rfl
theorem q9k:Tryz.prog.cellsOf 25=1:=by kernel_rfl
theorem qHH:Tryz.prog.cellsOf 27=12:=by kernel_rfl
theorem qD4:Tryz.prog.cellsOf 98=3:=by kernel_rfl
theorem qAl:Tryz.prog.cellsOf 100=4:=by kernel_rfl
theorem qFO:Tryz.prog.cellsOf 230=2:=by kernel_rfl
theorem qFP:Tryz.prog.cellsOf 231=32:=by kernel_rfl
theorem qEH {W:World} (h:laidMet Tryz.prog [("probecard/logic.fanins",Rows.laid_probecard_logic_fanins)] W):∀ j,j<32->W.cell? ⟨0,j,none⟩=(q7F.flatMap fun x=>[Value.int .i64 x.1,Value.int .i64 x.2])[j]? := by
 obtain⟨ps,⟨g',t',cs,fuel,p,q,hg',ht',hvar,hd,_,_⟩,_⟩:=h
 obtain rfl:=Option.some.inj (qLP.symm.trans hg')
 obtain rfl:=Option.some.inj (qJN.symm.trans ht')
 have hc:=qBw (l:=q7F) Tryz.underlying231 Tryz.underlying230 Tryz.underlying3 qJO qFO qFP hd
 intro j hj
 have:=World.var?_cell qLP hvar j
 rw[this,<- hc]
 simp
theorem qJP {W:World} (h:laidMet Tryz.prog [("probecard/logic.fanins",Rows.laid_probecard_logic_fanins)] W):Gl G0 W (Old W):=by
 have hc:=qEH h
 intro g cs hg
 unfold G0 at hg
 split at hg
 case isFalse=>cases hg
 rename_i h0;subst h0
 simp only[xqa]at hg
 subst hg
 have hlen:(q7F.flatMap fun x=>[Value.int .i64 x.1,Value.int .i64 x.2]).length=32:=rfl
 have hfc:qE5=(q7F.flatMap fun x=>[Value.int .i64 x.1,Value.int .i64 x.2]).map T.v:=rfl
 have hfl:qE5.length=32:=rfl
 refine .ip qE5 0 0 0 (fun j=>(q7F.flatMap fun x=>[Value.int .i64 x.1,Value.int .i64 x.2])[j]?.getD .nilFunc) ?_ ?_ ?_ ?_
 ·intro j hj
  rw[xjc,hc j (by omega)]
  rw[xqg (by omega)];rfl
 ·intro j t ht
  rw[hfc,xqr,xqb]at ht
  obtain⟨v,hv,rfl⟩:=ht
  simp only[hv,xzy]
  exact .v v
 ·intro j t ht
  rw[hfc,xqr,xqb]at ht
  obtain⟨v,hv,rfl⟩:=ht
  have hm:=xqp hv
  obtain⟨x,_,hx⟩:=List.mem_flatMap.1 hm
  simp at hx
  rcases hx with rfl|rfl<;>rfl
 ·have:=hc 0 (by omega)
  rw[xqg (by omega)]at this
  exact qCv this
theorem qJQ {n:Int} (h:(Lit.int .u8 n).wf=true):Byt n:=by
 simp[Lit.wf,IntKind.min,IntKind.max,IntKind.signed,IntKind.bits]at h
 exact⟨h.1,by omega⟩
theorem qAm:Rd Tryz.prog 5 fun ts=>∃ n,ts=[tK n]/\Byt n:=(qJH Tryz.underlying5).mono fun ts ⟨n,h,hw⟩=>⟨n,h,qJQ hw⟩
theorem q6Y {α:Type} {f:α->List T} {Q:α->Prop}:∀ {es:List (List T)},(∀ x∈es,∃ a,x=f a/\Q a)->∃ l:List α,es=l.map f/\∀ a∈l,Q a
 | [],_=>⟨[],rfl,by simp⟩
 | e::es,h=>by
  obtain⟨a,ha,hq⟩:=h e xqh
  obtain⟨l,hl,hql⟩:=q6Y fun x hx=>h x (xqf _ hx)
  exact⟨a::l,by rw[ha,hl];rfl,fun b hb=>by rcases xqv.1 hb with rfl|hb;exact hq;exact hql b hb⟩
theorem qMP:Rd Tryz.prog 100 fun ts=>∃ g,ts=tGd g/\q9j g:=by
 refine(q5D (l:=[(1,fun ts=>∃ n,ts=[tK n]/\Byt n),(3,q5n (List.replicate 3 (1,fun ts=>∃ n,ts=[tK n]/\Byt n)))]) Tryz.underlying100 qAl (.cons rfl q1c qAm (.cons rfl qD4 (q7C Tryz.underlying98 q1c qD4 qAm) (.nil _)))).mono fun ts h=>?_
 obtain⟨_,_,rfl,⟨k,rfl,hk⟩,_,_,rfl,⟨_,_,rfl,⟨a,rfl,ha⟩,_,_,rfl,⟨b,rfl,hb⟩,_,_,rfl,⟨d,rfl,hd⟩,rfl⟩,rfl⟩:=h
 exact⟨⟨k,a,b,d⟩,rfl,hk,ha,hb,hd⟩
theorem qMQ:Rd Tryz.prog 27 fun ts=>∃ x,ts=Ny x/\q2Z x:=by
 refine(q5D (l:=[(1,fun ts=>∃ n,ts=[tK n]/\Byt n),(1,fun ts=>∃ n,ts=[tK n]/\Byt n),(2,q5n (List.replicate 2 (1,fun ts=>∃ n,ts=[tK n]/\Byt n))),(1,fun ts=>∃ b,ts=[tB b]),(1,fun ts=>∃ b,ts=[tB b]),(4,q5n (List.replicate 4 (1,fun ts=>∃ n,ts=[tK n]/\Byt n))),(1,_),(1,_)]) Tryz.underlying27 qHH
  (.cons rfl q1c qAm (.cons rfl q1c qAm (.cons rfl qD2 (q7C Tryz.underlying22 q1c qD2 qAm) (.cons rfl qFN (qCw Tryz.underlying4) (.cons rfl qFN (qCw Tryz.underlying4) (.cons rfl qD3 (q7C Tryz.underlying23 q1c qD3 qAm)
   (.cons rfl qHG (q7B Tryz.underlying24 qAl (by decide) qMP) (.cons rfl q9k (q7B Tryz.underlying25 q1c (by decide) qAm) (.nil _)))))))))).mono fun ts h=>?_
 obtain⟨_,_,rfl,⟨i,rfl,hi⟩,_,_,rfl,⟨f,rfl,hf⟩,_,_,rfl,⟨_,_,rfl,⟨d0,rfl,hd0⟩,_,_,rfl,⟨d1,rfl,hd1⟩,rfl⟩,_,_,rfl,⟨bus,rfl⟩,_,_,rfl,⟨mem,rfl⟩,_,_,rfl,
  ⟨_,_,rfl,⟨p0,rfl,h0⟩,_,_,rfl,⟨p1,rfl,h1⟩,_,_,rfl,⟨p2,rfl,h2⟩,_,_,rfl,⟨p3,rfl,h3⟩,rfl⟩,_,_,rfl,⟨es,cap,nl,rfl,_,hes⟩,_,_,rfl,⟨os,cap2,nl2,rfl,_,hos⟩,rfl⟩:=h
 obtain⟨gs,rfl,hgs⟩:=q6Y (f:=tGd) (Q:=q9j) fun x hx=>(hes x hx).1
 obtain⟨ol,rfl,hol⟩:=q6Y (f:=fun n=>[tK n]) (Q:=Byt) fun x hx=>(hos x hx).1
 exact⟨⟨i,f,d0,d1,bus,mem,p0,p1,p2,p3,⟨gs,cap,nl⟩,⟨ol,cap2,nl2⟩⟩,rfl,⟨hi,hf,hd0,hd1,h0,h1,h2,h3,hgs,hol⟩⟩
end Go.Lg
namespace Go.Proofs.YtafhjckfgmcphaaGreatDoor
open Go Go.Lg Go.ChangeShapes Go.WideShapes Go.ChangeAt Go.RowKit
theorem own:ownKnob Tryz.prog.godebug=none:=by kernel_rfl
theorem qMD:laidOutB Tryz.prog=true:=by kernel_rfl
theorem qMU {W:World} (h:laidMetH Tryz.prog [("probecard/logic.fanins",Rows.laid_probecard_logic_fanins)] W):Gl G0 W (Old W):=by
 rw[MakeChecks.laidMetH_plain _ _ _ (by kernel_rfl)]at h
 exact qJP h
theorem qME {H:Type} {enc:TypeId×Value->H} {W:World} {base:Nat} {v:Value} {d:DataW H} {p:List MemPlace} (hval:Value.okWide Tryz.prog W .any base 27 v) (h:DataW.Trod enc Tryz.prog W 0 (fun _=>true) true 27 v d p):∃ x,q2Z x/\TR W (Old W) (.agg (Ny x)) v:=by
 simp only[Value.okWide,Tryz.underlying27]at hval
 obtain⟨cs,rfl,_,_⟩:=hval
 obtain⟨fuel,hf⟩:=h
 obtain⟨ts,⟨x,rfl,hx⟩,htr,ho⟩:=qMQ H enc W true fuel _ _ hf
 exact⟨x,hx,qFD htr ho⟩
noncomputable def qKZ (os:Os):World :=
 { World.holding Tryz.prog os ⟨#[],#[],[]⟩with heap:=(World.holding Tryz.prog os ⟨#[],#[],[]⟩).heap.modify 0 fun
   | .cells _ t frozen=>.cells (q7F.flatMap fun x=>[Value.int .i64 x.1,Value.int .i64 x.2]).toArray t frozen
   | o=>o }
def c0:Value:=.agg #[.int .u8 0,.int .u8 0,.int .u8 0,.int .u8 0,.bool false,.bool false,.int .u8 0,.int .u8 0,.int .u8 0,.int .u8 0,.slice none 0 0,.slice none 0 0]
def d0 {H:Type}:DataW H:=.agg [.lit (.int .u8 0),.lit (.int .u8 0),.agg [.lit (.int .u8 0),.lit (.int .u8 0)],.lit (.bool false),.lit (.bool false),.agg [.lit (.int .u8 0),.lit (.int .u8 0),.lit (.int .u8 0),.lit (.int .u8 0)],.nil,.nil]
end Go.Proofs.YtafhjckfgmcphaaGreatDoor
namespace Go.Lg
open Go Go.Proofs
def X4 (v:Int):Int:=if v<2 then v else 2
def Ft (v:Int):Int:=if 3<v then 2 else v
def q3g (v:Int):Bool:=decide (v<=1)
def qFQ (a b:Int):Bool:=decide (Ft a=Ft b\/Ft a=2)
def Yr (v:Int):Int:=if v<=1 then 1-v else 2
def Nl (low high:Int):Int->List Int->Int
 | out,[]=>out
 | out,v::l=>if v=low then low else if v≠high then Nl low high 2 l else Nl low high out l
def qFR (a b:Int):Int:=if a=b then 0 else 1
def q1d:Int->List Int->Int
 | out,[]=>out
 | out,v::l=>if v<=1 then q1d (qFR out v) l else 2
def q8L (s a b:Int):Int:=if s=0 then X4 a else if s=1 then X4 b else if a=b then X4 a else 2
def q9l (e d:Int):Int:=if e=0 then 3 else if e=1 then X4 d else 2
def q5M (l:List Int):Bool:=l.contains 0&&l.contains 1
def qEI (v:Int):Bool:=decide (Ft v=2)
def qFS (v:Int):Bool:=decide (v≠3)
def q7U (l:List Int):Int:=match l.findIdx? qFS with
 | none=>3
 | some i=>if q5M l=true\/l.any qEI=true then 2 else l.getD i 0
def G4 (k:Int) (l:List Int):Int :=
 if k=1 then 0 else if k=2 then 1 else if k=3 then X4 (l.getD 0 0)else if k=4 then Yr (l.getD 0 0) else
 if k=5 then Nl 0 1 1 l else if k=6 then Yr (Nl 0 1 1 l)else if k=7 then Nl 1 0 0 l else if k=8 then Yr (Nl 1 0 0 l) else
 if k=9 then q1d 0 l else if k=10 then Yr (q1d 0 l)else if k=11 then q8L (l.getD 0 0) (l.getD 1 0) (l.getD 2 0) else
 if k=12 then q9l (l.getD 0 0) (l.getD 1 0)else if k=13 then q7U l else 2
def q7V (k:Int) (n:Nat):Bool:=decide ((n:Int)<(Um k).1\/(Um k).2<(n:Int))
def Ih (k:Int) (l:List Int):Int:=if q7V k l.length=true then 2 else G4 k l
theorem qEJ (R:Int->Int->Prop) {k:Int} {l m:List Int} (h1:k=1->R (0) (0)) (h2:k=2->R (1) (1)) (h3:k=3->R (X4 (l.getD 0 0)) (X4 (m.getD 0 0))) (h4:k=4->R (Yr (l.getD 0 0)) (Yr (m.getD 0 0))) (h5:k=5->R (Nl 0 1 1 l) (Nl 0 1 1 m)) (h6:k=6->R (Yr (Nl 0 1 1 l)) (Yr (Nl 0 1 1 m))) (h7:k=7->R (Nl 1 0 0 l) (Nl 1 0 0 m)) (h8:k=8->R (Yr (Nl 1 0 0 l)) (Yr (Nl 1 0 0 m))) (h9:k=9->R (q1d 0 l) (q1d 0 m)) (h10:k=10->R (Yr (q1d 0 l)) (Yr (q1d 0 m))) (h11:k=11->R (q8L (l.getD 0 0) (l.getD 1 0) (l.getD 2 0)) (q8L (m.getD 0 0) (m.getD 1 0) (m.getD 2 0))) (h12:k=12->R (q9l (l.getD 0 0) (l.getD 1 0)) (q9l (m.getD 0 0) (m.getD 1 0))) (h13:k=13->R (q7U l) (q7U m)) (h0:k<1\/13<k->R 2 2):R (G4 k l) (G4 k m):=by
 by_cases e1:k=1
 ·subst e1;exact h1 rfl
 by_cases e2:k=2
 ·subst e2;exact h2 rfl
 by_cases e3:k=3
 ·subst e3;exact h3 rfl
 by_cases e4:k=4
 ·subst e4;exact h4 rfl
 by_cases e5:k=5
 ·subst e5;exact h5 rfl
 by_cases e6:k=6
 ·subst e6;exact h6 rfl
 by_cases e7:k=7
 ·subst e7;exact h7 rfl
 by_cases e8:k=8
 ·subst e8;exact h8 rfl
 by_cases e9:k=9
 ·subst e9;exact h9 rfl
 by_cases e10:k=10
 ·subst e10;exact h10 rfl
 by_cases e11:k=11
 ·subst e11;exact h11 rfl
 by_cases e12:k=12
 ·subst e12;exact h12 rfl
 by_cases e13:k=13
 ·subst e13;exact h13 rfl
 unfold G4
 rw[if_neg e1,if_neg e2,if_neg e3,if_neg e4,if_neg e5,if_neg e6,if_neg e7,if_neg e8,if_neg e9,if_neg e10,if_neg e11,if_neg e12,if_neg e13]
 rw[if_neg e1,if_neg e2,if_neg e3,if_neg e4,if_neg e5,if_neg e6,if_neg e7,if_neg e8,if_neg e9,if_neg e10,if_neg e11,if_neg e12,if_neg e13]
 exact h0 (by omega)
def V4 (v:Int):Prop:=0<=v/\v<=3
theorem q4K {v:Int} (h:V4 v):V4 (X4 v):=by unfold X4 V4 at *;split<;>omega
theorem q9m {v:Int} (h:V4 v):V4 (Yr v):=by unfold Yr V4 at *;split<;>omega
theorem Zb {low high:Int}:∀ {l:List Int} {out:Int},out=2\/out=high->Nl low high out l=if low∈l then low else if out=high/\∀ v∈l,v=high then high else 2
 | [],out,h=>by
  simp only[Nl,xz2,if_false]
  by_cases ho:out=high
  ·simp[ho]
  ·simp[ho];omega
 | v::l,out,h=>by
  simp only[Nl]
  by_cases h1:v=low
  ·subst h1;simp
  have h1':¬ low=v:=fun e=>h1 e.symm
  by_cases h2:v=high
  ·subst h2
   rw[if_neg h1,if_neg (by simp),Zb h]
   simp[h1']
  ·rw[if_neg h1,if_pos h2,Zb (.inl rfl)]
   by_cases hl:low∈l
   ·simp[hl]
   ·have:¬ (out=high/\∀ u∈v::l,u=high):=fun⟨_,h⟩=>h2 (h v xqh)
    have hlv:¬ low∈v::l:=by simp[h1',hl]
    rw[if_neg hl,if_neg hlv,if_neg this]
    split
    ·rename_i h3;exact h3.1.symm
    ·rfl
theorem qC4:∀ {l:List Int} {out:Int},V4 out->(∀ v∈l,V4 v)->V4 (q1d out l)
 | [],out,h,_=>h
 | v::l,out,h,hl=>by
  simp only[q1d]
  split
  ·exact qC4 (by unfold qFR;split<;>simp[V4]) fun u hu=>hl u (xqf _ hu)
  ·simp[V4]
theorem q1e {l:List Int} (h:∀ v∈l,V4 v) (i:Nat):V4 (l.getD i 0):=by
 rw[xqe]
 by_cases hi:i<l.length
 ·rw[xqg hi];exact h _ (xqj hi)
 ·rw[List.getElem?_eq_none (Nat.le_of_not_lt hi)];simp[V4]
theorem q9n {k:Int} {l:List Int} (h:∀ v∈l,V4 v):V4 (Ih k l):=by
 have g:=q1e h
 have d1:V4 (Nl 0 1 1 l):=by rw[Zb (.inr rfl)];split;simp[V4];split<;>simp[V4]
 have d2:V4 (Nl 1 0 0 l):=by rw[Zb (.inr rfl)];split;simp[V4];split<;>simp[V4]
 have x:=qC4 (out:=0) (by simp[V4]) h
 unfold Ih
 by_cases hw:q7V k l.length=true
 ·rw[if_pos hw];simp[V4]
 rw[if_neg hw]
 refine qEJ (fun a _=>V4 a) (l:=l) (m:=l) (fun _=>by simp[V4]) (fun _=>by simp[V4]) (fun _=>q4K (g 0)) (fun _=>q9m (g 0)) (fun _=>d1) (fun _=>q9m d1) (fun _=>d2) (fun _=>q9m d2) (fun _=>x) (fun _=>q9m x) (fun _=>?_) (fun _=>?_) (fun _=>?_) (fun _=>by simp[V4])
 ·unfold q8L;split
  ·exact q4K (g 1)
  split
  ·exact q4K (g 2)
  split
  ·exact q4K (g 1)
  ·simp[V4]
 ·unfold q9l;split
  ·simp[V4]
  split
  ·exact q4K (g 1)
  ·simp[V4]
 ·unfold q7U;split
  ·simp[V4]
  split
  ·simp[V4]
  ·exact g _
def Blw (a b:Int):Prop:=a=b\/a=2
def q8M (l m:List Int):Prop:=l.length=m.length/\∀ i,Blw (l.getD i 0) (m.getD i 0)
theorem Blw.refl (a:Int):Blw a a:=.inl rfl
theorem q8M.cons {a b:Int} {l m:List Int} (h:q8M (a::l) (b::m)):Blw a b/\q8M l m :=
 ⟨by simpa using h.2 0,by simpa using h.1,fun i=>by simpa using h.2 (i+1)⟩
theorem q8M.eq:∀ {l m:List Int},q8M l m->(2:Int)∉l->l=m
 | [],[],_,_=>rfl
 | [],_::_,h,_=>by have:=h.1;simp at this
 | _::_,[],h,_=>by have:=h.1;simp at this
 | a::l,b::m,h,h2=>by
  obtain⟨hab,hlm⟩:=h.cons
  rcases hab with rfl|rfl
  ·rw[q8M.eq hlm fun hm=>h2 (xqf _ hm)]
  ·exact absurd xqh h2
def Pe (i:Nat) (r:Kt):Nat:=r.countP fun p=>decide (p.1=(i:Int))
theorem qFT {i:Nat} {r q:Kt}:Pe i (r++q)=Pe i r+Pe i q:=by simp[Pe]
theorem qC5 {rows:List Kt} {n m i:Nat} {p:Int×Int} (hn:n<rows.length):Pe i ((Ia rows n p).getD m [])=Pe i (rows.getD m [])+if m=n/\p.1=(i:Int)then 1 else 0:=by
 unfold Ia
 simp only[xqe,xzb]
 by_cases h:n=m
 ·subst h
  simp only[hn,if_true,xzy,qFT,true_and]
  congr 1
  by_cases h2:p.1=(i:Int)<;>simp[Pe,h2]
 ·have h':¬ m=n:=fun e=>h e.symm
  simp[h,h']
theorem q5v (c:Bg) (j i m:Nat):∀ (l:List Int) (k:Nat) (rows:List Kt),rows.length=c.nodes.l.length->(∀ p∈l,0<=p/\p<c.nodes.l.length)->(Jw c j l k rows).length=c.nodes.l.length/\Pe i ((Jw c j l k rows).getD m [])=Pe i (rows.getD m [])+if j=i then l.count (m:Int)else 0
 | [],k,rows,hl,_=>⟨hl,by simp[Jw]⟩
 | n::l,k,rows,hl,hp=>by
  have hn:=hp n xqh
  have ho:Q2 c n=false:=by simp[Q2];omega
  simp only[Jw,ho,xqn,if_false]
  obtain⟨h1,h2⟩:=q5v c j i m l (k+1) (Ia rows n.toNat (j,k)) (by rw[q3X];exact hl) (fun p h=>hp p (xqf _ h))
  refine⟨h1,?_⟩
  rw[h2,qC5 (by omega)]
  by_cases hji:j=i
  ·subst hji
   simp only[and_true,if_true,List.count_cons]
   by_cases hm:(m:Int)=n
   ·have h5:m=n.toNat:=by omega
    have h6:(n==(m:Int))=true:=by rw[hm];simp
    rw[if_pos h5,h6]
    simp only[if_true];omega
   ·have h5:¬ m=n.toNat:=by omega
    have h6:(n==(m:Int))=false:=by simp;omega
    rw[if_neg h5,h6]
    simp only[xqn,if_false];omega
  ·have:¬ ((j:Int)=i):=by omega
   simp[hji,this]
theorem q4L (c:Bg) (i m:Nat):∀ (l:List Nd) (s:Nat) (rows:List Kt),rows.length=c.nodes.l.length->(∀ x∈l,∀ p∈x.inn.l,0<=p/\p<c.nodes.l.length) ->
  Pe i ((H4 c l s rows).getD m [])=Pe i (rows.getD m [])+if s<=i then((l.map fun x=>x.inn.l.count (m:Int)).getD (i-s) 0)else 0
 | [],s,rows,hl,_=>by simp[H4]
 | x::l,s,rows,hl,hp=>by
  obtain⟨h1,h2⟩:=q5v c s i m x.inn.l 0 rows hl (hp x xqh)
  simp only[H4]
  rw[q4L c i m l (s+1) _ h1 (fun y hy=>hp y (xqf _ hy)),h2]
  by_cases hsi:s=i
  ·subst hsi
   have:¬ s+1<=s:=by omega
   simp[this]
  ·by_cases hlt:s<=i
   ·have e:i-s=(i-(s+1))+1:=by omega
    have h3:s+1<=i:=by omega
    simp[hsi,hlt,h3,e]
   ·have h3:¬ s+1<=i:=by omega
    simp[hsi,hlt,h3]
def Bz (c:Bg) (i:Nat):List Int:=(c.nodes.l.getD i Nd.d).inn.l
theorem Zc (c:Bg) (hp:∀ x∈c.nodes.l,∀ p∈x.inn.l,0<=p/\p<c.nodes.l.length) (i m:Nat) (hi:i<c.nodes.l.length):Pe i (E7 c m)=(Bz c i).count (m:Int):=by
 unfold E7 As
 rw[q4L c i m c.nodes.l 0 _ (by simp) hp]
 have h0:Pe i ((List.replicate c.nodes.l.length ([]:Kt)).getD m [])=0:=by
  simp only[xqe,xz3]
  split<;>rfl
 rw[h0]
 simp[Bz,hi]
theorem qD5 (c:Bg) {i:Nat} (hi:i<c.nodes.l.length):(c.nodes.l.map leftOf).getD i 0=if By (Ad c i) then((Bz c i).length:Int)else 0:=by
 simp[Ad,Bz,leftOf,hi]
theorem q5N {N M:Nat} {c:Bg} {n:Nat}:∀ {r:Kt} {s:LS},s.left.length=N->(∀ p∈r,∃ i:Nat,i<N/\p.1=i)->(∀ i:Nat,i<N->s.left.getD i 0<=0->(i:Int)∈s.rdy) ->
  (∃ e,(r.foldl (Dv c n) s).rdy=s.rdy++e)/\(r.foldl (Dv c n) s).left.length=N/\(∀ i:Nat,i<N->(r.foldl (Dv c n) s).left.getD i 0=s.left.getD i 0-if By (Ad c i) then(Pe i r:Int)else 0)/\(∀ i:Nat,i<N->(r.foldl (Dv c n) s).left.getD i 0<=0->(i:Int)∈(r.foldl (Dv c n) s).rdy)
 | [],s,hl,_,hb=>⟨⟨[],by simp⟩,hl,fun i hi=>by simp[Pe],hb⟩
 | (p1,p2)::r,s,hl,hr,hb=>by
  obtain⟨j,hj,he⟩:=hr (p1,p2) xqh
  simp only at he;subst he
  have key:(∃ e,(Dv c n s (j,p2)).rdy=s.rdy++e)/\(Dv c n s (j,p2)).left.length=N/\(∀ i:Nat,i<N->(Dv c n s (j,p2)).left.getD i 0=s.left.getD i 0-if By (Ad c i) then(if j=i then 1 else 0:Int)else 0)/\(∀ i:Nat,i<N->(Dv c n s (j,p2)).left.getD i 0<=0->(i:Int)∈(Dv c n s (j,p2)).rdy):=by
   unfold Dv
   simp only[xzl]
   by_cases hc:By (Ad c j)=true
   ·simp only[hc,if_true]
    refine⟨?_,by simp[hl],fun i hi=>?_,fun i hi h0=>?_⟩
    ·split
     ·exact⟨_,rfl⟩
     ·exact⟨[],by simp⟩
    ·rw[Fj (by omega)]
     by_cases hij:i=j
     ·subst hij;simp[hc]
     ·have:¬ j=i:=fun e=>hij e.symm
      simp[hij,this]
    ·rw[Fj (by omega)]at h0
     by_cases hij:i=j
     ·subst hij
      simp only[if_true]at h0
      by_cases h1:s.left.getD i 0-1=0
      ·rw[if_pos h1];simp
      ·rw[if_neg h1]
       exact hb i hi (by omega)
     ·simp only[hij,if_false]at h0
      have:=hb i hi h0
      split
      ·exact List.mem_append_left _ this
      ·exact this
   ·simp only[hc]
    refine⟨⟨[],by simp⟩,hl,fun i hi=>?_,hb⟩
    by_cases hij:j=i
    ·subst hij;simp[hc]
    ·simp[hij]
  obtain⟨⟨e1,h1⟩,h2,h3,h4⟩:=key
  obtain⟨⟨e2,g1⟩,g2,g3,g4⟩:=q5N (M:=M) (n:=n) (r:=r) h2 (fun q hq=>hr q (xqf _ hq)) h4
  simp only[xz4]
  refine⟨⟨e1++e2,by rw[g1,h1,List.append_assoc]⟩,g2,fun i hi=>?_,g4⟩
  rw[g3 i hi,h3 i hi]
  by_cases hc:By (Ad c i)=true
  ·simp only[hc,if_true]
   have:Pe i ((↑j,p2)::r)=Pe i r+if j=i then 1 else 0:=by
    by_cases hij:j=i
    ·subst hij;simp[Pe]
    ·have:¬ ((j:Int)=i):=by omega
     simp[Pe,hij,this]
   rw[this]
   split<;>omega
  ·simp[hc]
structure JI (c:Bg) (d:Nat) (s:LS):Prop where
 li:∃ M,LI c.nodes.l.length M s
 le:d<=s.rdy.length
 a:∀ i:Nat,i<c.nodes.l.length->s.left.getD i 0=(c.nodes.l.map leftOf).getD i 0-if By (Ad c i) then(((s.rdy.take d).map fun x=>(Bz c i).count x).sum:Int)else 0
 b:∀ i:Nat,i<c.nodes.l.length->s.left.getD i 0<=0->(i:Int)∈s.rdy
theorem JI.next {c:Bg} (hp:∀ x∈c.nodes.l,∀ p∈x.inn.l,0<=p/\p<c.nodes.l.length) {d:Nat} {s:LS} (h:JI c d s) (hd:d<s.rdy.length):JI c (d+1) ((E7 c (s.rdy.getD d 0).toNat).foldl (Dv c (s.rdy.getD d 0).toNat) s):=by
 obtain⟨M,hli⟩:=h.li
 have hg:s.rdy.getD d 0=s.rdy[d]:=by simp[hd]
 rw[hg]
 obtain⟨n,hn,he,_⟩:=hli.rd _ (xqj hd)
 rw[he]
 simp only[xzl]
 have hr:∀ p∈E7 c n,∃ i:Nat,i<c.nodes.l.length/\p.1=i:=by
  intro p hpp
  have hl:=H5 c
  have e:E7 c n=(As c)[n]'(by omega):=by simp[E7,List.getD,xqg (show n<(As c).length by omega)]
  rw[e]at hpp
  exact Rn c _ (xqj _) p hpp
 obtain⟨⟨e,h1⟩,h2,h3,h4⟩:=q5N (M:=M) (c:=c) (n:=n) (r:=E7 c n) hli.ll hr h.b
 refine⟨⟨_,hli.fold hr⟩,by rw[h1];simp;omega,fun i hi=>?_,h4⟩
 rw[h3 i hi,h.a i hi,h1]
 by_cases hc:By (Ad c i)=true
 ·simp only[hc,if_true]
  have ht:(s.rdy++e).take (d+1)=s.rdy.take d++[(n:Int)]:=by
   rw[List.take_append_of_le_length (by omega),xz7,xqg hd,he]
   rfl
  rw[ht,Zc c hp i n hi]
  simp
  omega
 ·simp[hc]
theorem q4M {c:Bg} (hp:∀ x∈c.nodes.l,∀ p∈x.inn.l,0<=p/\p<c.nodes.l.length):∀ (f d:Nat) (s:LS),JI c d s->c.nodes.l.length<f+d->JI c (Jg c f d s).1 (Jg c f d s).2/\(Jg c f d s).2.rdy.length<=(Jg c f d s).1
 | 0,d,s,h,hf=>by
  obtain⟨M,hli⟩:=h.li
  have:=hli.len
  exact⟨h,by simp only[Jg];omega⟩
 | f+1,d,s,h,hf=>by
  simp only[Jg]
  split
  ·rename_i hd
   exact q4M hp f (d+1) _ (h.next hp hd) (by omega)
  ·exact⟨h,by simp only;omega⟩
theorem q96:∀ (L R:List Int),(∀ p∈L,p∈R)->L.length<=(R.map fun x=>L.count x).sum
 | [],R,_=>by simp
 | p::L,R,h=>by
  have ih:=q96 L R fun q hq=>h q (xqf _ hq)
  have hpR:=h p xqh
  have key:∀ R:List Int,(R.map fun x=>(p::L).count x).sum=(R.map fun x=>L.count x).sum+R.count p:=by
   intro R
   induction R with
   | nil=>rfl
   | cons a R ihR =>
    simp only[xqm,List.sum_cons]
    rw[ihR,List.count_cons,List.count_cons]
    by_cases hpa:p=a
    ·subst hpa;simp only[BEq.rfl,if_true];omega
    ·have h1:(p==a)=false:=by simpa using hpa
     have h2:(a==p)=false:=by simpa using fun e=>hpa e.symm
     rw[h1,h2];simp only[xqn,if_false];omega
  rw[key]
  have:=List.count_pos_iff.2 hpR
  simp only[xq8];omega
theorem q1f:∀ (l:List Nd) (s i:Nat),s<=i->i<s+l.length->(l.map leftOf).getD (i-s) 0<=0->(i:Int)∈Du l s
 | [],s,i,h1,h2,_=>by simp at h2;omega
 | x::l,s,i,h1,h2,h3=>by
  simp only[xq8]at h2
  by_cases hsi:i=s
  ·subst hsi
   simp only[xjb,xqm,List.getD_cons_zero]at h3
   have h4:0<=leftOf x:=by unfold leftOf;split<;>omega
   have h5:leftOf x=0:=by omega
   simp[Du,h5]
  ·have e:i-s=(i-(s+1))+1:=by omega
   rw[e,xqm,List.getD_cons_succ]at h3
   have:=q1f l (s+1) i (by omega) (by omega) h3
   simp only[Du]
   split
   ·exact xqf _ this
   ·exact this
theorem qAn (c:Bg) (h16:∀ x∈c.nodes.l,x.inn.l.length<=16) (hp:∀ x∈c.nodes.l,∀ p∈x.inn.l,0<=p/\p<c.nodes.l.length) (ht:∀ i:Nat,i<c.nodes.l.length->By (Ad c i)=true->∀ p∈Bz c i,p<i):¬ (H6 c).1<c.nodes.l.length:=by
 have h0:JI c 0 (Gp c):=by
  refine⟨⟨0,?_⟩,by simp,fun i hi=>?_,fun i hi h=>?_⟩
  ·obtain⟨r1,r2⟩:=q3a c.nodes.l 0
   refine⟨by simp[Gp],by simp[Gp],?_,r2,fun i=>?_,fun i=>?_⟩
   ·intro j hj
    obtain⟨a,_,h2,h3,h4⟩:=r1 j hj
    exact⟨a,by omega,h3,by simp only[Gp];simp only[Nat.sub_zero]at h4;omega⟩
   ·simp only[Gp,xqe,xz3]
    split<;>simp
   ·simp only[Gp]
    by_cases hi:i<c.nodes.l.length
    ·have:=h16 _ (xqj hi)
     simp[hi,leftOf]
     split<;>omega
    ·simp[hi]
  ·simp[Gp]
  ·simp only[Gp]at h
   exact q1f c.nodes.l 0 i (by omega) (by omega) (by simpa using h)
 obtain⟨hJ,hle⟩:=q4M hp (c.nodes.l.length+1) 0 (Gp c) h0 (by omega)
 show ¬ (Jg c (c.nodes.l.length+1) 0 (Gp c)).1<c.nodes.l.length
 generalize (Jg c (c.nodes.l.length+1) 0 (Gp c)).1=d at *
 generalize (Jg c (c.nodes.l.length+1) 0 (Gp c)).2=s at *
 have all:∀ i:Nat,i<c.nodes.l.length->(i:Int)∈s.rdy:=by
  intro i
  induction i using Nat.strongRecOn with
  | ind i ih =>
   intro hi
   refine hJ.b i hi ?_
   rw[hJ.a i hi,qD5 c hi]
   by_cases hc:By (Ad c i)=true
   ·simp only[hc,if_true]
    rw[xqw hle]
    have hm:Bz c i∈c.nodes.l.map fun x=>x.inn.l:=by
     simp only[Bz,xqe,xqg hi,xzy]
     exact xzk (xqj hi)
    obtain⟨y,hy,hye⟩:=xqy.1 hm
    have:=q96 (Bz c i) s.rdy fun p hpp=>by
     have h1:=ht i hi hc p hpp
     have h2:=(hp y hy p (by rw[hye];exact hpp)).1
     obtain⟨j,rfl⟩:∃ j:Nat,p=j:=⟨p.toNat,by omega⟩
     exact ih j (by omega) (by omega)
    omega
   ·simp[hc]
 have hnd:((List.range c.nodes.l.length).map fun i:Nat=>(i:Int)).Nodup:=by
  rw[List.nodup_iff_pairwise_ne,List.pairwise_map]
  exact(List.nodup_iff_pairwise_ne.1 List.nodup_range).imp fun h e=>h (by omega)
 have hsub:((List.range c.nodes.l.length).map fun i:Nat=>(i:Int)) ⊆ s.rdy:=by
  intro x hx
  obtain⟨i,hi,rfl⟩:=xqy.1 hx
  exact all i (List.mem_range.1 hi)
 have:=List.Nodup.length_le_of_subset hnd hsub
 simp at this
 omega
theorem q1g (p:Int) (L:List Int):∀ R:List Int,(R.map fun x=>(p::L).count x).sum=(R.map fun x=>L.count x).sum+R.count p
 | []=>rfl
 | a::R=>by
  simp only[xqm,List.sum_cons]
  rw[q1g p L R,List.count_cons,List.count_cons]
  by_cases hpa:p=a
  ·subst hpa;simp only[BEq.rfl,if_true];omega
  ·have h1:(p==a)=false:=by simpa using hpa
   have h2:(a==p)=false:=by simpa using fun e=>hpa e.symm
   rw[h1,h2];simp only[xqn,if_false];omega
theorem q4N:∀ (L R:List Int),R.Nodup->(R.map fun x=>L.count x).sum<=L.length
 | [],R,_=>by
  have:∀ R:List Int,(R.map fun x=>([]:List Int).count x).sum=0:=by
   intro R
   induction R with
   | nil=>rfl
   | cons a R ih=>rw[xqm,List.sum_cons,ih,List.count_nil]
  rw[this];omega
 | p::L,R,h=>by
  have ih:=q4N L R h
  have h1:=List.nodup_iff_count.1 h p
  rw[q1g]
  simp only[xq8];omega
theorem qFU {N n:Nat} {c:Bg}:∀ {r:Kt} {s:LS},s.out.length=N->s.left.length=N->(∀ p∈r,∃ i:Nat,i<N/\p.1=i)->(∀ i:Nat,i<N->By (Ad c i)=true->(Pe i r:Int)<=s.left.getD i 0)->s.left.getD n 0<=0 ->
  (∀ i:Nat,i<N->s.left.getD i 0<=0->(r.foldl (Dv c n) s).out.getD i 0=s.out.getD i 0)/\(∀ i:Nat,i<N->s.out.getD i 0<=(r.foldl (Dv c n) s).out.getD i 0)/\(∀ i:Nat,i<N->By (Ad c i)=true->0<Pe i r->s.out.getD n 0+1<=(r.foldl (Dv c n) s).out.getD i 0)
 | [],s,ho,hl,_,_,_=>⟨fun _ _ _=>rfl,fun _ _=>Int.le_refl _,fun i _ _ h=>by simp[Pe]at h⟩
 | (p1,p2)::r,s,ho,hl,hr,hc,hn=>by
  obtain⟨j,hj,he⟩:=hr (p1,p2) xqh
  simp only at he;subst he
  have cnt:∀ i:Nat,Pe i ((↑j,p2)::r)=Pe i r+if j=i then 1 else 0:=fun i=>by
   by_cases hij:j=i
   ·subst hij;simp[Pe]
   ·have:¬ ((j:Int)=i):=by omega
    simp[Pe,hij,this]
  simp only[xz4]
  by_cases hcj:By (Ad c j)=true
  case neg =>
   have hs:Dv c n s (↑j,p2)=s:=by unfold Dv;simp[hcj]
   rw[hs]
   obtain⟨a1,a2,a3⟩:=qFU (n:=n) (c:=c) (r:=r) ho hl (fun p hp=>hr p (xqf _ hp)) (fun i hi hci=>by have:=hc i hi hci;rw[cnt]at this;omega) hn
   refine⟨a1,a2,fun i hi hci h=>a3 i hi hci ?_⟩
   rw[cnt]at h
   have:¬ j=i:=fun e=>hcj (e ▸ hci)
   simpa[this]using h
  have hj1:=hc j hj hcj
  rw[cnt,if_pos rfl]at hj1
  have hnj:¬ n=j:=fun e=>by subst e;omega
  have so:∀ i:Nat,(Dv c n s (↑j,p2)).out.getD i 0=if i=j then max (s.out.getD j 0) (s.out.getD n 0+1)else s.out.getD i 0:=fun i=>by
   unfold Dv
   simp only[xzl,hcj,if_true]
   rw[Fj (by omega)]
  have sl:∀ i:Nat,(Dv c n s (↑j,p2)).left.getD i 0=if i=j then s.left.getD j 0-1 else s.left.getD i 0:=fun i=>by
   unfold Dv
   simp only[xzl,hcj,if_true]
   rw[Fj (by omega)]
  have lo:(Dv c n s (↑j,p2)).out.length=N:=by unfold Dv;simp[hcj,ho]
  have ll:(Dv c n s (↑j,p2)).left.length=N:=by unfold Dv;simp[hcj,hl]
  obtain⟨a1,a2,a3⟩:=qFU (n:=n) (c:=c) (r:=r) lo ll (fun p hp=>hr p (xqf _ hp)) (fun i hi hci=>by
   have:=hc i hi hci
   rw[cnt]at this
   rw[sl]
   by_cases hij:i=j
   ·subst hij;simp only[if_true]at this ⊢;omega
   ·have h':¬ j=i:=fun e=>hij e.symm
    simp only[hij,h',if_false]at this ⊢;omega) (by rw[sl,if_neg hnj];exact hn)
  refine⟨fun i hi h0=>?_,fun i hi=>?_,fun i hi hci h=>?_⟩
  ·have hij:¬ i=j:=fun e=>by subst e;omega
   rw[a1 i hi (by rw[sl,if_neg hij];exact h0),so,if_neg hij]
  ·have:=a2 i hi
   rw[so]at this
   split at this
   ·rename_i e;subst e;omega
   ·exact this
  ·by_cases hij:i=j
   ·subst hij
    have:=a2 i hi
    rw[so,if_pos rfl]at this
    omega
   ·have h':¬ j=i:=fun e=>hij e.symm
    rw[cnt,if_neg h']at h
    have:=a3 i hi hci (by omega)
    rw[so,if_neg hnj]at this
    exact this
def KI (c:Bg) (d:Nat) (s:LS):Prop:=∀ i:Nat,i<c.nodes.l.length->By (Ad c i)=true->∀ q:Nat,(q:Int)∈Bz c i->(q:Int)∈s.rdy.take d->s.out.getD q 0+1<=s.out.getD i 0
theorem KI.next {c:Bg} (hp:∀ x∈c.nodes.l,∀ p∈x.inn.l,0<=p/\p<c.nodes.l.length) {d:Nat} {s:LS} (h:JI c d s) (hk:KI c d s) (hd:d<s.rdy.length):KI c (d+1) ((E7 c (s.rdy.getD d 0).toNat).foldl (Dv c (s.rdy.getD d 0).toNat) s):=by
 obtain⟨M,hli⟩:=h.li
 have hg:s.rdy.getD d 0=s.rdy[d]:=by simp[hd]
 rw[hg]
 obtain⟨n,hn,he,hn0⟩:=hli.rd _ (xqj hd)
 rw[he]
 simp only[xzl]
 have hr:∀ p∈E7 c n,∃ i:Nat,i<c.nodes.l.length/\p.1=i:=by
  intro p hpp
  have hl:=H5 c
  have e:E7 c n=(As c)[n]'(by omega):=by simp[E7,List.getD,xqg (show n<(As c).length by omega)]
  rw[e]at hpp
  exact Rn c _ (xqj _) p hpp
 have htk:s.rdy.take (d+1)=s.rdy.take d++[(n:Int)]:=by
  rw[xz7,xqg hd,he];rfl
 have hnd:(s.rdy.take (d+1)).Nodup:=hli.nd.sublist (List.take_sublist _ _)
 have hcnt:∀ i:Nat,i<c.nodes.l.length->By (Ad c i)=true->(Pe i (E7 c n):Int)<=s.left.getD i 0:=by
  intro i hi hci
  have:=q4N (Bz c i) _ hnd
  rw[htk]at this
  simp only[List.map_append,List.sum_append,xqm,xq3,List.sum_cons,List.sum_nil]at this
  rw[h.a i hi,qD5 c hi,Zc c hp i n hi]
  simp only[hci,if_true]
  omega
 obtain⟨⟨e,h1⟩,_,_,_⟩:=q5N (M:=M) (c:=c) (n:=n) (r:=E7 c n) hli.ll hr h.b
 obtain⟨a1,a2,a3⟩:=qFU (n:=n) (c:=c) hli.lo hli.ll hr hcnt hn0
 intro i hi hci q hq hqt
 rw[h1,List.take_append_of_le_length (by omega),htk]at hqt
 rcases xzg.1 hqt with hqt|hqt
 ·obtain⟨q',hq1,hq2,hq3⟩:=hli.rd _ (xz6 hqt)
  have:q=q':=by omega
  subst this
  rw[a1 q hq1 hq3]
  have h4:=hk i hi hci q hq hqt
  have h5:=a2 i hi
  omega
 ·have:q=n:=by simp at hqt;omega
  subst this
  rw[a1 q hn hn0]
  refine a3 i hi hci ?_
  rw[Zc c hp i q hi]
  exact List.count_pos_iff.2 hq
theorem qD6 {c:Bg} (hp:∀ x∈c.nodes.l,∀ p∈x.inn.l,0<=p/\p<c.nodes.l.length):∀ (f d:Nat) (s:LS),JI c d s->KI c d s->KI c (Jg c f d s).1 (Jg c f d s).2
 | 0,d,s,_,hk=>hk
 | f+1,d,s,h,hk=>by
  simp only[Jg]
  split
  ·rename_i hd
   exact qD6 hp f (d+1) _ (h.next hp hd) (hk.next hp h hd)
  ·exact hk
theorem qD7 (c:Bg) (h16:∀ x∈c.nodes.l,x.inn.l.length<=16):JI c 0 (Gp c):=by
 refine⟨⟨0,qAg c h16⟩,by simp,fun i hi=>?_,fun i hi h=>?_⟩
 ·simp[Gp]
 ·simp only[Gp]at h
  exact q1f c.nodes.l 0 i (by omega) (by omega) (by simpa using h)
theorem q1h {c:Bg} (h:E4 c=0):∀ x∈c.nodes.l,∀ p∈x.inn.l,0<=p/\p<c.nodes.l.length:=by
 intro x hx
 have h4:=(Ig h).2.2.1 x hx
 unfold E6 at h4
 split at h4
 ·cases h4
 split at h4
 ·cases h4
 split at h4
 ·cases h4
 rename_i h6
 exact q2N (by simpa using h6)
def G8 (c:Bg) (i:Nat):Int:=(H6 c).2.out.getD i 0
theorem Ii {c:Bg} (h:D3 c=0):E4 c=0/\¬ (H6 c).1<c.nodes.l.length:=by
 unfold D3 at h
 split at h
 ·rename_i h1;exact absurd h h1
 split at h
 ·cases h
 ·rename_i h1 h2;exact⟨by simpa using h1,h2⟩
theorem q3h {c:Bg} (h:D3 c=0):(H6 c).2.out.length=c.nodes.l.length/\(∀ i,0<=G8 c i)/\∀ i:Nat,i<c.nodes.l.length->By (Ad c i)=true->∀ p∈Bz c i,(0<=p/\p<c.nodes.l.length)/\G8 c p.toNat<G8 c i:=by
 obtain⟨hs,hd⟩:=Ii h
 have hp:=q1h hs
 have h16:=(Ig hs).2.1
 have h0:=qD7 c h16
 obtain⟨hJ,hle⟩:=q4M hp (c.nodes.l.length+1) 0 (Gp c) h0 (by omega)
 have hK:=qD6 hp (c.nodes.l.length+1) 0 (Gp c) h0 (fun i _ _ q _ hq=>by simp at hq)
 obtain⟨M,hli⟩:=hJ.li
 refine⟨hli.lo,fun i=>(hli.bo i).1,fun i hi hc p hpi=>?_⟩
 have hin:0<=p/\p<c.nodes.l.length:=by
  simp only[Bz,xqe,xqg hi,xzy]at hpi
  exact hp _ (xqj hi) p hpi
 refine⟨hin,?_⟩
 have hpe:p=(p.toNat:Int):=by omega
 have hall:p∈(H6 c).2.rdy.take (H6 c).1:=by
  have hle':(H6 c).2.rdy.length<=(H6 c).1:=hle
  rw[xqw hle']
  by_cases hm:p∈(H6 c).2.rdy
  ·exact hm
  exfalso
  have:=q8z (N:=c.nodes.l.length) (xzj.2 ⟨hm,hli.nd⟩) fun j hj=>by
   rcases xqv.1 hj with rfl|hj
   ·exact⟨j.toNat,by omega,by omega⟩
   ·obtain⟨i,h1,h2,_⟩:=hli.rd j hj;exact⟨i,h1,h2⟩
  have h3:=hJ.le
  simp only[xq8]at this
  have:(H6 c).1<=(H6 c).2.rdy.length:=h3
  have:(Jg c (c.nodes.l.length+1) 0 (Gp c)).2=(H6 c).2:=rfl
  simp only[this]at *
  omega
 have:=hK i hi hc p.toNat (by rw[<- hpe];exact hpi) (by rw[<- hpe];exact hall)
 show(H6 c).2.out.getD p.toNat 0<(H6 c).2.out.getD i 0
 have e:(Jg c (c.nodes.l.length+1) 0 (Gp c)).2=(H6 c).2:=rfl
 rw[e]at this
 omega
theorem qD8 {c:Bg} (h:D3 c=0) {Q:Nat->Prop} (hq:∀ i:Nat,i<c.nodes.l.length->(By (Ad c i)=true->∀ p∈Bz c i,(0<=p/\p<c.nodes.l.length)/\Q p.toNat)->Q i):∀ i:Nat,i<c.nodes.l.length->Q i:=by
 obtain⟨_,h0,h1⟩:=q3h h
 have:∀ (k:Nat) (i:Nat),i<c.nodes.l.length->(G8 c i).toNat=k->Q i:=by
  intro k
  induction k using Nat.strongRecOn with
  | ind k ih =>
   intro i hi hk
   refine hq i hi fun hc p hp=>?_
   obtain⟨h2,h3⟩:=h1 i hi hc p hp
   have:=h0 p.toNat
   exact⟨h2,ih (G8 c p.toNat).toNat (by omega) p.toNat (by omega) rfl⟩
 exact fun i hi=>this _ i hi rfl
def q7W (lt:Int->Int->Bool):Nat->List Int->List Int
 | 0,l=>l
 | j+1,l=>if lt (l.getD (j+1) 0) (l.getD j 0)then q7W lt j (Xx l (j+1) j)else l
def q1i (lt:Int->Int->Bool):Nat->Nat->List Int->List Int
 | 0,_,l=>l
 | f+1,i,l=>q1i lt f (i+1) (q7W lt i l)
theorem q2P {lt:Int->Int->Bool}:∀ {j:Nat} {l:List Int},j<l.length->(q7W lt j l).Perm l
 | 0,l,_=>List.Perm.refl l
 | j+1,l,h=>by
  simp only[q7W]
  split
  ·exact(q2P (by rw[q5I];omega)).trans (q7Q h (by omega))
  ·exact List.Perm.refl l
def q1j (key:Int->Int) (l:List Int) (n:Nat):Prop:=∀ a b,a<b->b<n->key (l.getD a 0)<=key (l.getD b 0)
theorem q5w (key:Int->Int) (i:Nat):∀ (j:Nat) (l:List Int),j<=i->i<l.length->(∀ a b,a<b->b<=i->a≠j->b≠j->key (l.getD a 0)<=key (l.getD b 0))->(∀ b,j<b->b<=i->key (l.getD j 0)<=key (l.getD b 0)) ->
  q1j key (q7W (fun a b=>decide (key a<key b)) j l) (i+1)
 | 0,l,hj,hi,h1,h2=>by
  intro a b hab hb
  simp only[q7W]
  by_cases ha:a=0
  ·subst ha;exact h2 b hab (by omega)
  ·exact h1 a b hab (by omega) ha (by omega)
 | j+1,l,hj,hi,h1,h2=>by
  simp only[q7W]
  split
  ·rename_i hlt
   have hlt':key (l.getD (j+1) 0)<key (l.getD j 0):=by simpa using hlt
   have g:∀ q,q<l.length->(Xx l (j+1) j).getD q 0=if q=j then l.getD (j+1) 0 else if q=j+1 then l.getD j 0 else l.getD q 0:=fun q hq=>qED (by omega) (by omega) hq
   refine q5w key i j _ (by omega) (by rw[q5I];exact hi) (fun a b hab hb ha hb'=>?_) (fun b hb hbi=>?_)
   ·rw[g a (by omega),g b (by omega),if_neg ha,if_neg hb']
    by_cases ha1:a=j+1
    ·rw[if_pos ha1,if_neg (by omega)]
     exact h1 j b (by omega) hb (by omega) (by omega)
    ·rw[if_neg ha1]
     by_cases hb1:b=j+1
     ·rw[if_pos hb1]
      exact h1 a j (by omega) (by omega) ha1 (by omega)
     ·rw[if_neg hb1]
      exact h1 a b hab hb ha1 hb1
   ·rw[g j (by omega),g b (by omega),if_pos rfl,if_neg (by omega)]
    by_cases hb1:b=j+1
    ·rw[if_pos hb1];omega
    ·rw[if_neg hb1]
     exact h2 b (by omega) hbi
  ·rename_i hlt
   have hlt':key (l.getD j 0)<=key (l.getD (j+1) 0):=by simpa using hlt
   intro a b hab hb
   by_cases ha1:a=j+1
   ·subst ha1;exact h2 b hab (by omega)
   ·by_cases hb1:b=j+1
    ·subst hb1
     by_cases haj:a=j
     ·subst haj;exact hlt'
     ·have:=h1 a j (by omega) (by omega) ha1 (by omega)
      omega
    ·exact h1 a b hab (by omega) ha1 hb1
theorem qD9 (key:Int->Int):∀ (f i:Nat) (l:List Int),i+f=l.length->q1j key l i->(q1i (fun a b=>decide (key a<key b)) f i l).Perm l/\q1j key (q1i (fun a b=>decide (key a<key b)) f i l) l.length
 | 0,i,l,h,hs=>⟨List.Perm.refl l,by have:i=l.length:=(by omega);subst this;exact hs⟩
 | f+1,i,l,h,hs=>by
  simp only[q1i]
  have hp:=q2P (lt:=fun a b=>decide (key a<key b)) (show i<l.length by omega)
  have hss:=q5w key i i l (xzo _) (by omega) (fun a b hab hb ha hb'=>hs a b hab (by omega)) (fun b h1 h2=>by omega)
  obtain⟨a1,a2⟩:=qD9 key f (i+1) _ (by rw[hp.length_eq];omega) hss
  rw[hp.length_eq]at a2
  exact⟨a1.trans hp,a2⟩
def rng (n:Nat):List Int:=(List.range n).map fun i:Nat=>(i:Int)
theorem O0 {n:Nat}:(rng n).length=n:=by simp[rng]
theorem Q4 {n:Nat} {x:Int}:x∈rng n↔0<=x/\x<n:=by
 simp only[rng,xqy,List.mem_range]
 constructor
 ·rintro⟨i,hi,rfl⟩;omega
 ·intro h;exact⟨x.toNat,by omega,by omega⟩
theorem q97 {n:Nat}:(rng n).Nodup:=by
 rw[rng,List.nodup_iff_pairwise_ne,List.pairwise_map]
 exact(List.nodup_iff_pairwise_ne.1 List.nodup_range).imp fun h e=>h (by omega)
def qDA (c:Bg) (a b:Int):Bool:=decide (G8 c a.toNat<G8 c b.toNat)
def Rq (c:Bg):List Int:=q1i (qDA c) (c.nodes.l.length-1) 1 (rng c.nodes.l.length)
theorem Zd (c:Bg):(Rq c).Perm (rng c.nodes.l.length)/\q1j (fun a=>G8 c a.toNat) (Rq c) c.nodes.l.length:=by
 by_cases h:c.nodes.l.length=0
 ·unfold Rq
  rw[h]
  exact⟨List.Perm.refl _,fun a b hab hb=>by omega⟩
 ·have:=qD9 (fun a=>G8 c a.toNat) (c.nodes.l.length-1) 1 (rng c.nodes.l.length) (by rw[O0];omega) (fun a b hab hb=>by omega)
  rw[O0]at this
  exact this
def G9 (c:Bg) (nets:List Int) (i:Nat):List Int:=(Bz c i).map fun k=>nets.getD k.toNat 0
def V2 (c:Bg) (nets:List Int) (n:Int):List Int:=if By (Ad c n.toNat)then nets.set n.toNat (Ih (Ad c n.toNat) (G9 c nets n.toNat))else nets
def q6F (c:Bg) (order init:List Int):List Int:=order.foldl (V2 c) init
theorem q5O {c:Bg} {nets:List Int} {n:Int}:(V2 c nets n).length=nets.length:=by unfold V2;split<;>simp
theorem q4O {c:Bg}:∀ {o nets:List Int},(q6F c o nets).length=nets.length
 | [],nets=>rfl
 | n::o,nets=>by
  show(q6F c o (V2 c nets n)).length=_
  rw[q4O,q5O]
def qFV (c:Bg) (init f:List Int):Prop:=f.length=c.nodes.l.length/\∀ i:Nat,i<c.nodes.l.length->f.getD i 0=if By (Ad c i)then Ih (Ad c i) (G9 c f i)else init.getD i 0
theorem qDB {c:Bg}:∀ {o nets:List Int},nets.length=c.nodes.l.length->o.Nodup->(∀ n∈o,0<=n/\n<c.nodes.l.length)->o.Pairwise (fun x y=>By (Ad c x.toNat)=true->y∉Bz c x.toNat)->(∀ x∈o,By (Ad c x.toNat)=true->x∉Bz c x.toNat/\∀ p∈Bz c x.toNat,0<=p) ->
  (∀ i:Nat,(i:Int)∉o->(q6F c o nets).getD i 0=nets.getD i 0)/\(∀ i:Nat,(i:Int)∈o->(q6F c o nets).getD i 0=if By (Ad c i)then Ih (Ad c i) (G9 c (q6F c o nets) i)else nets.getD i 0)
 | [],nets,_,_,_,_,_=>⟨fun i _=>rfl,fun i h=>by cases h⟩
 | n::o,nets,hl,hnd,hin,hpw,hself=>by
  obtain⟨hn1,hn2⟩:=xzj.1 hnd
  obtain⟨hp1,hp2⟩:=List.pairwise_cons.1 hpw
  have hnr:=hin n xqh
  have hne:n=(n.toNat:Int):=by omega
  have key:∀ i:Nat,i≠n.toNat->(V2 c nets n).getD i 0=nets.getD i 0:=fun i hi=>by
   unfold V2
   split
   ·rw[Fj (by omega),if_neg hi]
   ·rfl
  obtain⟨a1,a2⟩:=qDB (o:=o) (nets:=V2 c nets n) (by rw[q5O];exact hl) hn2 (fun m hm=>hin m (xqf _ hm)) hp2 (fun x hx=>hself x (xqf _ hx))
  have hrun:q6F c (n::o) nets=q6F c o (V2 c nets n):=rfl
  rw[hrun]
  refine⟨fun i hi=>?_,fun i hi=>?_⟩
  ·have h1:¬ i=n.toNat:=fun e=>hi (by rw[e,<- hne];exact xqh)
   rw[a1 i fun hm=>hi (xqf _ hm),key i h1]
  ·by_cases hio:(i:Int)∈o
   ·have h1:¬ i=n.toNat:=fun e=>hn1 (by rw[hne,<- e];exact hio)
    rw[a2 i hio,key i h1]
   ·have h1:i=n.toNat:=by
     rcases xqv.1 hi with h|h
     ·omega
     ·exact absurd h hio
    subst h1
    rw[a1 _ hio]
    by_cases hc:By (Ad c n.toNat)=true
    ·have h2:(V2 c nets n).getD n.toNat 0=Ih (Ad c n.toNat) (G9 c nets n.toNat):=by
      unfold V2
      rw[if_pos hc,Fj (by omega),if_pos rfl]
     rw[h2,if_pos hc]
     congr 1
     unfold G9
     refine xq1 fun p hp=>?_
     obtain⟨hs1,hs2⟩:=hself n xqh hc
     have hp0:=hs2 p hp
     have hpe:p=(p.toNat:Int):=by omega
     have hpo:((p.toNat:Nat):Int)∉o:=fun hm=>hp1 _ hm hc (by rw[<- hpe];exact hp)
     have hpn:¬ p.toNat=n.toNat:=fun e=>by
      have h9:p=n:=by omega
      rw[h9]at hp
      exact hs1 hp
     rw[a1 _ hpo,key _ hpn]
    ·rw[if_neg hc]
     unfold V2
     rw[if_neg hc]
theorem qHI {c:Bg} (h:D3 c=0) {o init:List Int} (hp:o.Perm (rng c.nodes.l.length)) (hs:q1j (fun a=>G8 c a.toNat) o c.nodes.l.length) (hi:init.length=c.nodes.l.length):qFV c init (q6F c o init):=by
 obtain⟨_,h0,h1⟩:=q3h h
 have hlen:o.length=c.nodes.l.length:=by rw[hp.length_eq,O0]
 have hmem:∀ n,n∈o↔0<=n/\n<c.nodes.l.length:=fun n=>by rw[hp.mem_iff,Q4]
 have hpw:o.Pairwise (fun x y=>By (Ad c x.toNat)=true->y∉Bz c x.toNat):=by
  rw[List.pairwise_iff_getElem]
  intro i j hi hj hij hc hm
  have hx:=(hmem o[i]).1 (xqj hi)
  obtain⟨_,h3⟩:=h1 o[i].toNat (by omega) hc _ hm
  have h4:=hs i j hij (by omega)
  simp only[Bn hi,Bn hj]at h4
  omega
 obtain⟨_,a2⟩:=qDB (c:=c) (o:=o) (nets:=init) hi (hp.nodup_iff.2 q97) (fun n hn=>(hmem n).1 hn) hpw (fun x hx hc=>by
  have hx':=(hmem x).1 hx
  refine⟨fun hm=>?_,fun p hpp=>(h1 x.toNat (by omega) hc p hpp).1.1⟩
  have:=(h1 x.toNat (by omega) hc x hm).2
  omega)
 exact⟨by rw[q4O];exact hi,fun i hi=>a2 i ((hmem i).2 (by omega))⟩
theorem qC6 {c:Bg} (h:D3 c=0) {init f g:List Int} (hf:qFV c init f) (hg:qFV c init g):f=g:=by
 have key:=qD8 h (Q:=fun i=>f.getD i 0=g.getD i 0) fun i hi hc=>by
  rw[hf.2 i hi,hg.2 i hi]
  split
  ·rename_i hcb
   congr 1
   unfold G9
   exact xq1 fun p hp=>(hc hcb p hp).2
  ·rfl
 refine List.ext_getElem (by rw[hf.1,hg.1]) fun i h1 h2=>?_
 have:=key i (by rw[hf.1]at h1;exact h1)
 rwa [Bn h1,Bn h2]at this
def Ge:List Int->List Int->List Int->List Int
 | n::ns,v::vs,nets=>Ge ns vs (nets.set n.toNat v)
 | _,_,nets=>nets
theorem Rr:∀ {ns vs nets:List Int},(Ge ns vs nets).length=nets.length
 | [],vs,nets=>by cases vs<;>rfl
 | _::_,[],nets=>rfl
 | n::ns,v::vs,nets=>by simp only[Ge];rw[Rr];simp
theorem Oy:∀ {ns vs nets:List Int} {i:Nat},(∀ n∈ns,0<=n)->(i:Int)∉ns->(Ge ns vs nets).getD i 0=nets.getD i 0
 | [],vs,nets,i,_,_=>by cases vs<;>rfl
 | _::_,[],nets,i,_,_=>rfl
 | n::ns,v::vs,nets,i,h0,h=>by
  simp only[Ge]
  rw[Oy (fun m hm=>h0 m (xqf _ hm)) fun hm=>h (xqf _ hm)]
  have h1:¬ n.toNat=i:=fun e=>h (by have:=h0 n xqh;rw[<- e,Int.toNat_of_nonneg this];exact xqh)
  simp[xqe,xzb,h1]
theorem X5:∀ {ns vs nets:List Int} {j:Nat},ns.Nodup->(∀ n∈ns,0<=n/\n<nets.length)->ns.length=vs.length->(h:j<ns.length)->(Ge ns vs nets).getD (ns[j]).toNat 0=vs.getD j 0
 | n::ns,v::vs,nets,j,hnd,hr,hl,h=>by
  obtain⟨h1,h2⟩:=xzj.1 hnd
  have hn:=hr n xqh
  simp only[Ge]
  cases j with
  | zero =>
   simp only[List.getElem_cons_zero,List.getD_cons_zero]
   rw[Oy (fun m hm=>(hr m (xqf _ hm)).1) (by rw[Int.toNat_of_nonneg hn.1];exact h1),Fj (by omega),if_pos rfl]
  | succ j =>
   simp only[List.getElem_cons_succ,List.getD_cons_succ]
   exact X5 h2 (fun m hm=>by have:=hr m (xqf _ hm);simpa using this) (by simpa using hl) (by simpa using h)
 | [],vs,nets,j,_,_,_,h=>by simp at h
 | _::_,[],nets,j,_,_,hl,h=>by simp at hl
def Be (c:Bg):List Int:=Rl [0] c.nodes.l 0
def Y3 (c:Bg) (pin pst:List Int):List Int:=Ge (Ba c) pst (Ge (Be c) pin (List.replicate c.nodes.l.length 0))
def C9 (c:Bg) (pin pst:List Int):List Int:=q6F c (Rq c) (Y3 c pin pst)
theorem Ze {c:Bg} {pin pst:List Int}:(Y3 c pin pst).length=c.nodes.l.length:=by unfold Y3;rw[Rr,Rr];simp
theorem q4P {c:Bg} (h:D3 c=0) (pin pst:List Int):qFV c (Y3 c pin pst) (C9 c pin pst):=qHI h (Zd c).1 (Zd c).2 Ze
def q0l (k:Int) (c:Bg) (i:Nat):Nat:=(Rl [k] (c.nodes.l.take i) 0).length
theorem q98 {k:Int} {c:Bg} {i:Nat} (hi:i<c.nodes.l.length) (hk:Ad c i=k):Rl [k] c.nodes.l 0=Rl [k] (c.nodes.l.take i) 0++(i:Int)::Rl [k] (c.nodes.l.drop (i+1)) (i+1):=by
 have e:c.nodes.l=c.nodes.l.take i++c.nodes.l[i]::c.nodes.l.drop (i+1):=by rw[List.getElem_cons_drop,List.take_append_drop]
 have hk':c.nodes.l[i].k=k:=by simpa[Ad,hi]using hk
 have hm:(c.nodes.l.take i).length=i:=by rw[xzf];omega
 conv=>lhs;rw[e,q4E,hm]
 simp[Rl,hk']
theorem qDC {k:Int} {c:Bg} {i:Nat} (hi:i<c.nodes.l.length) (hk:Ad c i=k):q0l k c i<(Rl [k] c.nodes.l 0).length/\(Rl [k] c.nodes.l 0).getD (q0l k c i) 0=i:=by
 have e:=q98 hi hk
 constructor
 ·rw[e];simp[q0l]
 ·rw[e];simp[q0l,xqe]
theorem Hi {k:Int} {c:Bg}:∀ n∈Rl [k] c.nodes.l 0,0<=n/\n<c.nodes.l.length/\Ad c n.toNat=k:=by
 intro n hn
 obtain⟨a,b,h⟩:=q4J [k] c.nodes.l 0 n hn
 refine⟨by omega,by omega,?_⟩
 simpa[Ad]using h
theorem q4Q {k:Int} {c:Bg} {i:Nat} (hi:i<c.nodes.l.length):(i:Int)∈Rl [k] c.nodes.l 0↔Ad c i=k:=by
 constructor
 ·intro h
  have:=(Hi _ h).2.2
  simpa using this
 ·intro h
  rw[q98 hi h]
  simp
theorem qDD {c:Bg} {pin pst:List Int} (h1:pin.length=(Be c).length) (h2:pst.length=(Ba c).length) {i:Nat} (hi:i<c.nodes.l.length) :
  (Y3 c pin pst).getD i 0=if Ad c i=0 then pin.getD (q0l 0 c i) 0 else if Ad c i=14 then pst.getD (q0l 14 c i) 0 else 0:=by
 have n0:=(Lr [0] c.nodes.l 0).2
 have n14:=(Lr [14] c.nodes.l 0).2
 have r14:∀ n∈Ba c,0<=n:=fun n hn=>(Hi n hn).1
 have r0:∀ n∈Be c,0<=n:=fun n hn=>(Hi n hn).1
 unfold Y3
 by_cases hk:Ad c i=14
 ·obtain⟨a,b⟩:=qDC hi hk
  have e:(Rl [14] c.nodes.l 0)[q0l 14 c i]=(i:Int):=by rw[<- b,Bn a]
  have:=X5 (ns:=Ba c) (vs:=pst) (nets:=Ge (Be c) pin (List.replicate c.nodes.l.length 0)) (j:=q0l 14 c i) n14 (fun n hn=>by rw[Rr];have:=Hi n hn;simp;omega) h2.symm a
  have e':(Ba c)[q0l 14 c i]=(i:Int):=e
  rw[e']at this
  simp only[xzl]at this
  rw[this,if_neg (by omega),if_pos hk]
 ·have:(i:Int)∉Ba c:=fun hm=>hk ((q4Q hi).1 hm)
  rw[Oy r14 this]
  by_cases hk0:Ad c i=0
  ·obtain⟨a,b⟩:=qDC hi hk0
   have e:(Be c)[q0l 0 c i]'a=(i:Int):=by show(Rl [0] c.nodes.l 0)[q0l 0 c i]=_;rw[<- b,Bn a]
   have:=X5 (ns:=Be c) (vs:=pin) (nets:=List.replicate c.nodes.l.length 0) (j:=q0l 0 c i) n0 (fun n hn=>by have:=Hi n hn;simp;omega) h1.symm a
   rw[e]at this
   simp only[xzl]at this
   rw[this,if_pos hk0]
  ·have:(i:Int)∉Be c:=fun hm=>hk0 ((q4Q hi).1 hm)
   rw[Oy r0 this,if_neg hk0,if_neg hk]
   simp[xqe,xz3]
   split<;>rfl
end Go.Lg
