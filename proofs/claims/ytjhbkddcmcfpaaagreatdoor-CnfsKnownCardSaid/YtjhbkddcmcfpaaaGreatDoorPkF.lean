/- Plain data as trees, and how calls are taken. Conditions: none. -/
import Derived.Test.YtjhbkddcmcfpaaaGreatDoorPkD
import Derived.Test.YtjhbkddcmcfpaaaGreatDoorPkE
import Derived.Test.YtjhbkddcmcfpaaaGreatDoorProg
import Derived.KernelRfl
import Derived.Lib.Bytealg
import Derived.Test.YtjhbkddcmcfpaaaGreatDoorRows
import Derived.Test.YtjhbkddcmcfpaaaGreatDoorCards
import Derived.Test.YtjhbkddcmcfpaaaGreatDoorTie
import Derived.ProofKit
import Derived.Deep.DeepHandedRow
import Derived.SevenTiedAt
import Derived.Test.YtjhbkddcmcfpaaaGreatDoorPkA
set_option linter.unusedSimpArgs false
set_option linter.unusedVariables false
namespace Go.Lg
open Go
attribute [simp] Bi Aw T.one AV.one Value.oneCell' Ek J1 Gx Df Ui ret qAR
@[simp] theorem qMC (a b:Int):(a==b)=decide (a=b):=rfl
@[simp] theorem qMD (a b:Int):(a != b)=!decide (a=b):=rfl
@[simp] theorem qG4 (s:List UInt8):(ByteArray.mk s.toArray).size=s.length:=by simp[ByteArray.size]
def Ak {α:Type} (f:α->T) (l:List α):List (List T):=l.map fun n=>[f n]
theorem A3 {α:Type} {f:α->T} {l:List α}:(Ak f l).length=l.length:=by simp[Ak]
theorem Ie {α:Type} {f:α->T} {l:List α} {i:Nat} (d:α) (h:i<l.length):(Ak f l)[i]?.getD []=[f (l[i]?.getD d)]:=by simp[Ak,h]
theorem Aa {α:Type} {f:α->T} {l:List α}:Gk 1 (Ak f l):=by
 intro e he;obtain⟨x,_,rfl⟩:=List.mem_map.1 he;rfl
theorem q7L {α:Type} {f:α->T} {l:List α} {n:Nat}:(Ak f l).drop n=Ak f (l.drop n):=by simp[Ak,List.map_drop]
theorem q3N {α:Type} {f:α->T} {l:List α} {n:Nat}:(Ak f l).take n=Ak f (l.take n):=by simp[Ak,List.map_take]
theorem S5 {α:Type} {f:α->T} {l:List α} {n:Nat} {x:α}:(Ak f l).set n [f x]=Ak f (l.set n x):=by simp[Ak,List.map_set]
theorem q9J {α:Type} {f:α->T}:Ak f []=[]:=rfl
@[simp] theorem qG5 {s:Nat}:Gk s []:=fun e h=>by cases h
def L0 {α:Type} (f:α->List T) (l:List α):List (List T):=l.map f
theorem Bq {α:Type} {f:α->List T} {l:List α}:(L0 f l).length=l.length:=by simp[L0]
theorem L1 {α:Type} {f:α->List T} {l:List α} {i:Nat} (d:α) (h:i<l.length):(L0 f l)[i]?.getD []=f (l[i]?.getD d):=by simp[L0,h]
theorem q5a {α:Type} {f:α->List T} {l:List α} {s:Nat} (h:∀ x,(f x).length=s):Gk s (L0 f l):=by
 intro e he;obtain⟨x,_,rfl⟩:=List.mem_map.1 he;exact h x
@[simp] theorem qFI {α:Type} {f:α->T} {l:List α}:(Ak f l).take l.length=Ak f l:=by rw[List.take_of_length_le (by simp[Ak])]
theorem Eu {α:Type} {f:α->T} {l:List α} {x:α}:Ak f l++[[f x]]=Ak f (l++[x]):=by simp[Ak]
@[simp] theorem qFJ {α:Type} {f:α->List T} {l:List α}:(L0 f l).take l.length=L0 f l:=by rw[List.take_of_length_le (by simp[L0])]
theorem qCn {α:Type} {f:α->List T} {l:List α} {x:α}:L0 f l++[f x]=L0 f (l++[x]):=by simp[L0]
structure Sl (α:Type) where
 l:List α
 cap:Option Nat
 nl:Option Bool
abbrev tI (n:Int):T:=.v (.int .i64 n)
abbrev tK (n:Int):T:=.v (.int .u8 n)
abbrev tB (b:Bool):T:=.v (.bool b)
abbrev Bc (l:List Int):List (List T):=Ak tI l
def Bh (s:Sl Int):T:=.sl (Bc s.l) s.cap s.nl
@[simp] theorem qId {cs:List AV}:Ph (.bx cs)=∀ c∈cs,Gx c:=rfl
@[simp] theorem qIe {s:ByteArray} {p:Nat}:Ph (.it s p)=True:=rfl
@[simp] theorem qH2 {ty s:Nat}:Ph (.sl ty s [])=True:=by simp[Ph]
theorem Ri {α:Type} {f:α->T} {l:List α} {ty s:Nat} (h:∀ x,Df (f x)=true):Ph (.sl ty s (Ak f l)):=by
 intro e he t ht
 obtain⟨x,_,rfl⟩:=List.mem_map.1 he
 simp only[List.mem_singleton]at ht;subst ht;exact h x
@[simp] theorem qK0 {l:List Int} {ty s:Nat}:Ph (.sl ty s (Ak tI l))=True:=eq_true (Ri fun _=>rfl)
@[simp] theorem qK1 {l:List Int} {ty s:Nat}:Ph (.sl ty s (Ak tK l))=True:=eq_true (Ri fun _=>rfl)
@[simp] theorem qK2 {l:List Bool} {ty s:Nat}:Ph (.sl ty s (Ak tB l))=True:=eq_true (Ri fun _=>rfl)
def Vv (n:Int):Prop := -9223372036854775808<=n/\n<=9223372036854775807
section
variable {P:Program} {Γ:Tables} {hp:List (Nat×Aj)} {f:FuncId} {avs:List AV} {K:T->Prop} {ts:List T} {res:T}
theorem As (h:An P Γ f ts res) (ht:Ac (avs.map toT)=some ts) (hk:K res):q5S P Γ hp f avs K ⟨⟩:=⟨res,.inl ⟨ts,ht,h⟩,hk⟩
theorem A4 (h:A6 P Γ f ts res) (ht:Ac (avs.map (Aq hp 4))=some ts) (hk:K res):q5S P Γ hp f avs K ⟨⟩:=⟨res,.inr ⟨ts,ht,h⟩,hk⟩
theorem E7 {ic:IC} {N n:Nat} {rvs:List RV} {args:List T} (hc:Ax P f ic N n rvs=true) (hn:args.length=n) (h:run P Γ ic (ret false rvs fun r=>r=res) ⟨params 0 args,[]⟩):An P Γ f args res:=by
 obtain⟨r,h1,rfl⟩:=run_pure hc hn h;exact h1
theorem Af {ic:IC} {N n:Nat} {rvs:List RV} {args:List T} (hc:Ax P f ic N n rvs=true) (hn:args.length=n) (h:run P Γ ic (ret true rvs fun r=>r=res) ⟨params 0 args,[]⟩):A6 P Γ f args res:=by
 obtain⟨r,h1,rfl⟩:=q7G hc hn h;exact h1
theorem N4 {ic:IC} {N n:Nat} {rvs:List RV} {args:List AV} {r0:AV} {hp':List (Nat×Aj)} (hc:Ax P f ic N n rvs=true) (hn:args.length=n) (h:run P Γ ic (qAR rvs fun r h=>r=r0/\h=hp') ⟨Xy 0 args,hp⟩):Bl P Γ f hp args r0 hp':=by
 obtain⟨r,h',h1,rfl,rfl⟩:=qDq hc hn h;exact h1
end
end Go.Lg
namespace Go.Lg
open Go
section
variable {P:Program} {Γ:Tables} {Q:AX->St->Prop} {s:St}
/- probecard/netlists.Check (function 86) -/
abbrev Np:IC:=(.seq (.reg [od 1 (.box true (tm 0)),od 2 (.mv (ki 0))] [kp [1] []]) (.seq (.reg [od 6 (lG 4 1),od 7 (.call 104 [(tm 6)]),om 5 7,od 8 (ex 5 0),od 9 (ex 5 1),om 3 8,om 4 9] [kp [4] []]) (.seq (.reg [om 10 4,om 2 10] [kp [2]
 []]) .ret)))
def Nq:List RV:=[.tmp 2]
/- probecard/netlists.Of (function 52) -/
abbrev q5b:IC:=.gh (.seq (.reg [od 12 (.bin .lss (tm 11) (tm 10))] [kp [1,5,9,10,11,12] [23]]) (.seq (.cond (tm 12) .skip (.exit 0)) (.seq (.block 1 (.seq (.reg [om 13 11,od 14 (ia 4 9 11),od 15 (lG 4 14),od 7 (.alloc false [(.int .u8 0),
 (.slice none 0 0),(.int .i64 0),(.int .i64 0)]),om 6 13,on (.store 4 (tm 7) (tm 15))] [kp [1,5,6,7,9,10,11] [7,23]]) (.seq (.reg [om 16 1,od 17 (fa 0 7),od 18 (ld 1 17),od 19 (.call 69 [(tm 16),(tm 18)])] [kp [1,5,
 6,9,10,11,19] [23]]) (.cond (tm 19) (.reg [om 20 5,om 21 6,od 22 (.bsl true 3 1 [(tm 21)]),od 23 (.app false 3 1 (tm 20) (tm 22)),om 5 23] [kp [1,5,9,10,11] [23]]) .skip)))) (.reg [od 24 (.bin .add (tm 11) (ki 1)),om
 11 24] [kp [1,5,9,10,11] [23]])))) [kp [1,5,9,10,11] [23]]
def q5c:IC:=.loop q5b
abbrev Zs:IC:=(.seq (.reg [od 2 (.box true (tm 0)),od 4 (.mv kN)] [kp [1,2] []]) (.seq (.reg [od 5 (.mv kN)] [.nl 5 23 3 1,kp [1,2,5] [23]]) (.seq (.seq (.reg [od 8 (fa 0 2),od 9 (ld 1 8),od 10 (le 0 9),od 11 (.mv (ki 0))] [kp [1,5,9,
 10,11] [23]]) (.block 0 q5c)) (.seq (.reg [om 25 5,od 26 (.hcall 70 [(tm 25)] [23] 26000),om 4 26] [kp [4] [23]]) .ret))))
def Zt:List RV:=[.tmp 4]
/- probecard/netlists.States (function 30) -/
abbrev S7:IC:=(.seq (.reg [od 1 (.box true (tm 0)),od 2 (.mv kN)] [kp [1] []]) (.seq (.reg [od 3 (lG 4 1),od 4 (.bsl true 42 1 [(ku 14)]),od 5 (.call 52 [(tm 3),(tm 4)]),om 2 5] [kp [2] []]) .ret))
def S8:List RV:=[.tmp 2]
/- probecard/netlists.Comb (function 113) -/
abbrev P3:IC:=(.seq (.reg [od 2 (.mv kF)] [kp [0] []]) (.seq (.reg [om 3 0,od 4 (.bin .geq (tm 3) (ku 1)),om 5 4,oT 6 (.mv (tm 0)) 5,oT 7 (.bin .leq (tm 6) (ku 13)) 5,od 8 (.pick (tm 5) (tm 7) kF),om 2 8] [kp [2] []]) .ret))
def P4:List RV:=[.tmp 2]
/- slices.Clip[[]int,int] (function 70) -/
abbrev S9:IC:=(.seq (.reg [od 2 (.mv kN)] [kp [0] [1000000]]) (.seq (.reg [om 3 0,om 4 0,od 5 (le 0 4),om 6 0,od 7 (le 0 6),od 8 (.slice 1 (tm 3) none (some (tm 5)) (some (tm 7))),om 2 8] [kp [2] [1000000]]) .ret))
def Si:List RV:=[.tmp 2]
/- probecard/netlists.Levels (function 104) -/
def Ei:List RO:=[om 45 6,om 46 8,od 47 (ia 1 45 46),od 48 (ld 1 47),od 49 (.bin .eql (tm 48) (ki 0))]
def Ko:List RO:=[om 50 7,om 51 8,od 52 (.bsl true 3 1 [(tm 51)]),od 53 (.app false 3 1 (tm 50) (tm 52)),om 7 53]
def Kp:List RO:=[od 54 (.bin .add (tm 31) (ki 1)),om 31 54]
abbrev Sj:IC:=.gh (.seq (.reg [od 32 (.bin .lss (tm 31) (tm 30))] [kp [1,5,6,7,29,30,31,32] [23,27,53]]) (.seq (.cond (tm 32) .skip (.exit 0)) (.seq (.block 1 (.seq (.reg [om 33 31,od 34 (ia 4 29 31),od 35 (lG 4 34),od 9 (.alloc
 false [(.int .u8 0),(.slice none 0 0),(.int .i64 0),(.int .i64 0)]),om 8 33,on (.store 4 (tm 9) (tm 35))] [kp [1,5,6,7,8,9,29,30,31] [9,23,27,53]]) (.seq (.seq (.reg [od 36 (fa 0 9),od 37 (ld 1 36),od 38 (.call
 113 [(tm 37)])] [kp [1,5,6,7,8,9,29,30,31,38] [9,23,27,53]]) (.cond (tm 38) (.reg [om 39 6,om 40 8,od 41 (fa 1 9),od 42 (ld 1 41),od 43 (le 0 42),od 44 (ia 1 39 40),on (.store 1 (tm 44) (tm 43))] [kp [1,5,6,7,
 8,29,30,31] [23,27,53]]) .skip)) (.seq (.reg Ei [kp [1,5,6,7,8,29,30,31,49] [23,27,53]]) (.cond (tm 49) (.reg Ko [kp [1,5,6,7,29,30,31] [23,27,53]]) .skip))))) (.reg
 Kp [kp [1,5,6,7,29,30,31] [23,27,53]])))) [kp [1,5,6,7,29,30,31] [23,27,53]]
def Hn:IC:=.loop Sj
abbrev Sr:IC:=.gh (.seq (.reg [od 79 (.bin .lss (tm 78) (tm 77))] [kp [1,5,6,7,10,11,12,76,77,78,79] [23,27,53]]) (.seq (.cond (tm 79) .skip (.exit 4)) (.seq (.block 5 (.seq (.reg [od 80 (ia 2 76 78),od 81 (lG 2 80),od 14 (.alloc
 false [(.int .i64 0),(.int .i64 0)]),on (.store 2 (tm 14) (tm 81))] [kp [1,5,6,7,10,11,12,14,76,77,78] [14,23,27,53]]) (.seq (.seq (.reg [od 82 (fa 0 1),od 83 (ld 1 82),od 84 (fa 0 14),od 85 (ld 1 84),od 86 (ia 4
 83 85),od 87 (fa 0 86),od 88 (ld 1 87),od 89 (.call 113 [(tm 88)]),od 90 (.un .not (tm 89))] [kp [1,5,6,7,10,11,12,14,76,77,78,90] [14,23,27,53]]) (.cond (tm 90) (.exit 5) .skip)) (.seq (.reg [om 91 5,od 92 (fa 0
 14),od 93 (.ldR 14 1 false (tm 92)),om 94 5,od 95 (fa 0 14),od 96 (.ldR 14 1 false (tm 95)),od 97 (ia 1 94 96),od 98 (.ldR 23 1 false (tm 97)),om 99 5,om 100 12,od 101 (ia 1 99 100),od 102 (.ldR 23 1 false (tm 101)),od
 103 (.bin .add (tm 102) (ki 1)),od 104 (.mmx true [(tm 98),(tm 103)]),od 105 (ia 1 91 93),on (.stR 23 1 (tm 105) (tm 104))] [kp [1,5,6,7,10,11,12,14,76,77,78] [14,23,27,53]]) (.seq (.reg [om 106 6,od 107 (fa 0
 14),od 108 (ld 1 107),od 109 (ia 1 106 108),od 110 (ld 1 109),od 111 (.bin .sub (tm 110) (ki 1)),od 112 (ia 1 106 108),on (.store 1 (tm 112) (tm 111))] [kp [1,5,6,7,10,11,12,14,76,77,78] [14,23,27,53]]) (.seq
 (.reg [om 113 6,od 114 (fa 0 14),od 115 (ld 1 114),od 116 (ia 1 113 115),od 117 (ld 1 116),od 118 (.bin .eql (tm 117) (ki 0))] [kp [1,5,6,7,10,11,12,14,76,77,78,118] [14,23,27,53]]) (.cond (tm 118) (.reg [om 119
 7,od 120 (fa 0 14),od 121 (ld 1 120),od 122 (.bsl true 3 1 [(tm 121)]),oz 123 (.app false 3 1 (tm 119) (tm 122)) 53,om 7 123] [kp [1,5,6,7,10,11,12,76,77,78] [23,27,53]]) .skip))))))) (.reg [od 124 (.bin .add (tm
 78) (ki 1)),om 78 124] [kp [1,5,6,7,10,11,12,76,77,78] [23,27,53]])))) [kp [1,5,6,7,10,11,12,76,77,78] [23,27,53]]
def Ho:IC:=.loop Sr
abbrev Ss:IC:=.gh (.seq (.seq (.reg [om 57 11,om 58 7,od 59 (le 0 58),od 60 (.bin .lss (tm 57) (tm 59))] [kp [1,5,6,7,10,11,60] [23,27,53]]) (.cond (tm 60) .skip (.exit 2))) (.block 3 (.seq (.reg [om 61 7,om 62 11,od 63 (ia 1 61
 62),od 64 (ld 1 63),om 12 64] [kp [1,5,6,7,10,11,12] [23,27,53]]) (.seq (.reg [om 65 11,od 66 (.bin .add (tm 65) (ki 1)),om 11 66] [kp [1,5,6,7,10,11,12] [23,27,53]]) (.seq (.seq (.reg [om 67 10,om 68 12,od 69
 (ia 1 67 68),od 70 (ld 1 69),od 71 (le 0 70),od 72 (.bin .eql (tm 71) (ki 0))] [kp [1,5,6,7,10,11,12,72] [23,27,53]]) (.cond (tm 72) (.exit 3) .skip)) (.seq (.reg [om 73 10,om 74 12,od 75 (ia 1 73 74),od 76 (ld 1
 75),od 77 (le 0 76),od 78 (.mv (ki 0))] [kp [1,5,6,7,10,11,12,76,77,78] [23,27,53]]) (.block 4 Ho))))))) [kp [1,5,6,7,10,11] [23,27,53]]
def Hq:IC:=.loop Ss
abbrev Ly:IC:=(.seq (.reg [od 1 (.box true (tm 0)),od 2 (.mv kN),od 3 (.mv (ki 0))] [kp [1] []]) (.scope (.seq (.seq (.reg [od 15 (lG 4 1),od 16 (.call 112 [(tm 15)]),om 4 16] [kp [1,4] []]) (.seq (.reg [om 17 4,od 18 (.bin .neq (tm 17)
 (ki 0))] [kp [1,4,18] []]) (.cond (tm 18) (.seq (.reg [om 19 4,od 2 (.mv kN),om 3 19] [kp [2,3] [23]]) .ret) .skip))) (.seq (.reg [od 20 (fa 0 1),od 21 (ld 1 20),od 22 (le 0 21),od 23 (.mk 3 1 [(.int .i64 0)] (tm 22) (tm
 22)),om 5 23] [kp [1,5] [23]]) (.seq (.reg [od 24 (fa 0 1),od 25 (ld 1 24),od 26 (le 0 25),od 27 (.mk 3 1 [(.int .i64 0)] (tm 26) (tm 26)),om 6 27] [kp [1,5,6] [23,27]]) (.seq (.reg [od 7 (.mv kN)] [.nl 7 53 3 1,kp [1,5,
 6,7] [23,27,53]]) (.seq (.seq (.reg [od 28 (fa 0 1),od 29 (ld 1 28),od 30 (le 0 29),od 31 (.mv (ki 0))] [kp [1,5,6,7,29,30,31] [23,27,53]]) (.block 0 Hn)) (.seq (.reg [od 55 (lG 4 1),od 56 (.call 114
 [(tm 55)]),om 10 56] [kp [1,5,6,7,10] [23,27,53]]) (.seq (.reg [od 11 (.mv (ki 0))] [kp [1,5,6,7,10,11] [23,27,53]]) (.seq .skip (.seq (.block 2 Hq) (.seq (.seq (.reg [om 125 11,od 126 (fa 0 1),od
 127 (ld 1 126),od 128 (le 0 127),od 129 (.bin .lss (tm 125) (tm 128))] [kp [5,129] [23]]) (.cond (tm 129) (.seq (.reg [od 2 (.mv kN),od 3 (.mv (ki 6))] [kp [2,3] [23]]) .ret) .skip)) (.seq (.reg [om 130 5,om 2 130,od 3 (.mv
 (ki 0))] [kp [2,3] [23]]) .ret)))))))))))))
theorem Nr (h:∀ K:St->Prop,K=run P Γ Hn Q->run P Γ Sj (B1 K Q) s):run P Γ Hn Q s:=Au h
theorem Ns (h:∀ K:St->Prop,K=run P Γ Ho Q->run P Γ Sr (B1 K Q) s):run P Γ Ho Q s:=Au h
theorem Nu (h:∀ K:St->Prop,K=run P Γ Hq Q->run P Γ Ss (B1 K Q) s):run P Γ Hq Q s:=Au h
attribute [simp] Ei Ko Kp
def F3:List RV:=[.tmp 2,.tmp 3]
/- slices.Contains[[]probecard/api.Kind,probecard/api.Kind] (function 69) -/
abbrev J2:IC:=(.seq (.reg [od 4 (.mv kF)] [kp [0,1] []]) (.seq (.reg [om 5 0,om 6 1,od 7 (.call 90 [(tm 5),(tm 6)]),od 8 (.bin .geq (tm 7) (ki 0)),om 4 8] [kp [4] []]) .ret))
def J3:List RV:=[.tmp 4]
/- probecard/netlists.shape (function 112) -/
abbrev Ul:IC:=.gh (.seq (.reg [od 39 (.bin .lss (tm 38) (tm 37))] [kp [1,36,37,38,39] []]) (.seq (.cond (tm 39) .skip (.exit 1)) (.seq (.block 2 (.seq (.reg [od 40 (ia 4 36 38),od 41 (lG 4 40),od 4 (.alloc false [(.int .u8 0),(.slice none
 0 0),(.int .i64 0),(.int .i64 0)]),on (.store 4 (tm 4) (tm 41))] [kp [1,4,36,37,38] [4]]) (.seq (.reg [od 42 (lG 4 1),od 43 (lG 4 4),od 44 (.call 115 [(tm 42),(tm 43)]),om 5 44] [kp [1,5,36,37,38] []]) (.seq (.reg
 [om 45 5,od 46 (.bin .neq (tm 45) (ki 0))] [kp [1,5,36,37,38,46] []]) (.cond (tm 46) (.seq (.reg [om 47 5,om 2 47] [kp [2] []]) .ret) .skip))))) (.reg [od 48 (.bin .add (tm 38) (ki 1)),om 38 48] [kp [1,36,37,38] []]))))
 [kp [1,36,37,38] []]
def J4:IC:=.loop Ul
abbrev Um:IC:=.gh (.seq (.reg [od 58 (.bin .lss (tm 57) (tm 56))] [kp [1,55,56,57,58] []]) (.seq (.cond (tm 58) .skip (.exit 3)) (.seq (.block 4 (.seq (.reg [od 59 (ia 3 55 57),od 60 (lG 3 59),od 8 (.alloc false [(.slice none 0 0),(.slice
 none 0 0),(.int .i64 0)]),on (.store 3 (tm 8) (tm 60))] [kp [1,8,55,56,57] [8]]) (.seq (.reg [od 61 (lG 4 1),od 62 (lG 3 8),od 63 (.call 117 [(tm 61),(tm 62)]),om 9 63] [kp [1,9,55,56,57] []]) (.seq (.reg [om 64 9,od
 65 (.bin .neq (tm 64) (ki 0))] [kp [1,9,55,56,57,65] []]) (.cond (tm 65) (.seq (.reg [om 66 9,om 2 66] [kp [2] []]) .ret) .skip))))) (.reg [od 67 (.bin .add (tm 57) (ki 1)),om 57 67] [kp [1,55,56,57] []])))) [kp [1,55,
 56,57] []]
def J5:IC:=.loop Um
abbrev D7:IC:=(.seq (.reg [od 1 (.box true (tm 0)),od 2 (.mv (ki 0))] [kp [1] []]) (.seq (.block 0 (.seq (.reg [od 11 (fa 0 1),od 12 (ld 1 11),od 13 (le 0 12),od 14 (.bin .gtr (tm 13) (ki 16384)),om 15 14,oF 16 (fa 2 1) 15,oF 17 (ld 1 16)
 15,oF 18 (le 0 17) 15,oF 19 (.bin .gtr (tm 18) (ki 16)) 15,od 20 (.pick (tm 15) kT (tm 19)),om 21 20,oF 22 (fa 3 1) 21,oF 23 (ld 1 22) 21,oF 24 (le 0 23) 21,oF 25 (.bin .gtr (tm 24) (ki 16384)) 21,od 26 (.pick (tm 21) kT
 (tm 25)),om 10 26] [kp [1,10] []]) (.cond (tm 10) (.seq (.reg [od 2 (.mv (ki 3))] [kp [2] []]) .ret) (.seq (.reg [od 28 (fa 1 1),od 29 (ld 1 28),od 30 (le 0 29),od 31 (fa 0 1),od 32 (ld 1 31),od 33 (le 0 32),od 34 (.bin
 .neq (tm 30) (tm 33)),om 27 34] [kp [1,27] []]) (.cond (tm 27) (.seq (.reg [od 2 (.mv (ki 8))] [kp [2] []]) .ret) .skip))))) (.seq (.seq (.reg [od 35 (fa 0 1),od 36 (ld 1 35),od 37 (le 0 36),od 38 (.mv (ki 0))] [kp [1,36,37,
 38] []]) (.block 1 J4)) (.seq (.seq (.reg [od 49 (lG 4 1),od 50 (.call 116 [(tm 49)]),om 6 50] [kp [1,6] []]) (.seq (.reg [om 51 6,od 52 (.bin .neq (tm 51) (ki 0))] [kp [1,6,52] []]) (.cond (tm 52) (.seq (.reg
 [om 53 6,om 2 53] [kp [2] []]) .ret) .skip))) (.seq (.seq (.reg [od 54 (fa 2 1),od 55 (ld 1 54),od 56 (le 0 55),od 57 (.mv (ki 0))] [kp [1,55,56,57] []]) (.block 3 J5)) (.seq (.seq (.reg [od 68 (fa 3 1),od 69
 (ld 1 68),od 70 (lG 4 1),od 71 (.call 119 [(tm 70)]),od 72 (.call 118 [(tm 69),(tm 71)])] [kp [72] []]) (.cond (tm 72) (.seq (.reg [od 2 (.mv (ki 1))] [kp [2] []]) .ret) .skip)) (.seq (.reg [od 2 (.mv (ki 0))] [kp [2] []])
 .ret)))))))
theorem Oj (h:∀ K:St->Prop,K=run P Γ J4 Q->run P Γ Ul (B1 K Q) s):run P Γ J4 Q s:=Au h
theorem Ol (h:∀ K:St->Prop,K=run P Γ J5 Q->run P Γ Um (B1 K Q) s):run P Γ J5 Q s:=Au h
def Bn:List RV:=[.tmp 2]
/- probecard/netlists.Fanout (function 114) -/
def Db:List RO:=[om 37 3,om 38 8,om 39 3,om 40 8,od 41 (ia 1 39 40),od 42 (ld 1 41),om 43 5,om 44 7,od 45 (.build [(1,(tm 43)),(1,(tm 44))]),od 46 (.bsl true 54 2 [(tm 45)]),od 47 (.app false 54 2 (tm 42) (tm 46)),od 48 (ia 1 37 38),
 on (.store 1 (tm 48) (tm 47))]
def Kq:List RO:=[od 49 (.bin .add (tm 28) (ki 1)),om 28 49]
abbrev Su:IC:=.gh (.seq (.reg [od 29 (.bin .lss (tm 28) (tm 27))] [.keepB [3,4,5,18,19,20,26,27,28,29] [14] 100000 16384]) (.seq (.cond (tm 29) .skip (.exit 2)) (.seq (.block 3 (.seq (.reg [om 30 28,od 31 (ia 1 26 28),od 32 (ld 1 31),
 om 7 30,om 8 32] [.keepB [3,4,5,7,8,18,19,20,26,27,28] [14] 100000 16384]) (.seq (.reg [om 33 4,om 34 8,od 35 (.callv (tm 33) [(tm 34)]),od 36 (.un .not (tm 35))] [.keepB [3,4,5,7,8,18,19,20,26,27,28,36]
 [14] 100000 16384]) (.cond (tm 36) (.reg Db [.renS 47 100000 8,.keepB [3,4,5,18,19,20,26,27,28] [14] 100000 16384]) .skip)))) (.reg Kq [.keepB [3,4,5,18,19,20,26,27,28] [14] 100000
 16384])))) [.keepB [3,4,5,18,19,20,26,27,28] [14] 100000 16384]
def Hr:IC:=.loop Su
abbrev Sv:IC:=.gh (.seq (.reg [od 21 (.bin .lss (tm 20) (tm 19))] [.keepB [3,4,18,19,20,21] [14] 100000 16384]) (.seq (.cond (tm 21) .skip (.exit 0)) (.seq (.block 1 (.seq (.reg [om 22 20,od 23 (ia 4 18 20),od 24 (lG 4 23),od 6 (.alloc
 false [(.int .u8 0),(.slice none 0 0),(.int .i64 0),(.int .i64 0)]),om 5 22,on (.store 4 (tm 6) (tm 24))] [.keepB [3,4,5,6,18,19,20] [6,14] 100000 16384]) (.seq (.reg [od 25 (fa 1 6),od 26 (ld 1 25),od 27 (le 0 26),
 od 28 (.mv (ki 0))] [.keepB [3,4,5,18,19,20,26,27,28] [14] 100000 16384]) (.block 2 Hr)))) (.reg [od 50 (.bin .add (tm 20) (ki 1)),om 20 50] [.keepB [3,4,18,19,20] [14] 100000 16384])))) [.keepB [3,4,
 18,19,20] [14] 100000 16384]
def Ht:IC:=.loop Sv
abbrev Sz:IC:=.gh (.seq (.reg [od 54 (.bin .lss (tm 53) (tm 52))] [kp [3,51,52,53,54] [14,47]]) (.seq (.cond (tm 54) .skip (.exit 4)) (.seq (.block 5 (.seq (.reg [om 55 53,od 56 (ia 1 51 53),od 57 (ld 1 56),om 9 55,om 10 57] [kp [3,9,
 10,51,52,53] [14,47]]) (.reg [om 58 3,om 59 9,om 60 10,od 61 (.call 120 [(tm 60)]),od 62 (ia 1 58 59),on (.store 1 (tm 62) (tm 61))] [kp [3,51,52,53] [14,47]]))) (.reg [od 63 (.bin .add (tm 53) (ki 1)),om 53 63] [kp
 [3,51,52,53] [14,47]])))) [kp [3,51,52,53] [14,47]]
def Hu:IC:=.loop Sz
abbrev M1:IC:=(.seq (.reg [od 1 (.box true (tm 0)),od 2 (.mv kN)] [kp [1] []]) (.seq (.reg [od 11 (fa 0 1),od 12 (ld 1 11),od 13 (le 0 12),od 14 (.mkB 171 [(.slice none 0 0)] (tm 13) (tm 13)),om 3 14] [.keepB [1,3] [14] 100000 16384])
 (.seq (.reg [od 15 (lG 4 1),od 16 (.call 119 [(tm 15)]),om 4 16] [.keepB [1,3,4] [14] 100000 16384]) (.seq (.seq (.reg [od 17 (fa 0 1),od 18 (ld 1 17),od 19 (le 0 18),od 20 (.mv (ki 0))] [.keepB [3,4,18,19,20] [14]
 100000 16384]) (.block 0 Ht)) (.seq (.seq (.reg [om 51 3,od 52 (le 0 51),od 53 (.mv (ki 0))] [.frzs 100000 16384,kp [3,51,52,53] [14,47]]) (.block 4 Hu)) (.seq (.reg [om 64 3,om 2 64] [kp [2]
 [14,47]]) .ret))))))
theorem Nv (h:∀ K:St->Prop,K=run P Γ Hr Q->run P Γ Su (B1 K Q) s):run P Γ Hr Q s:=Au h
theorem Nw (h:∀ K:St->Prop,K=run P Γ Ht Q->run P Γ Sv (B1 K Q) s):run P Γ Ht Q s:=Au h
theorem Nx (h:∀ K:St->Prop,K=run P Γ Hu Q->run P Γ Sz (B1 K Q) s):run P Γ Hu Q s:=Au h
attribute [simp] Db Kq
def M3:List RV:=[.tmp 2]
/- slices.Index[[]probecard/api.Kind,probecard/api.Kind] (function 90) -/
abbrev Vn:IC:=.gh (.seq (.reg [od 9 (.bin .lss (tm 8) (tm 7))] [kp [0,1,7,8,9] []]) (.seq (.cond (tm 9) .skip (.exit 0)) (.seq (.block 1 (.seq (.reg [om 10 8,om 5 10] [kp [0,1,5,7,8] []]) (.seq (.reg [om 11 1,om 12 0,om 13 5,od 14
 (ia 1 12 13),od 15 (ld 1 14),od 16 (.bin .eql (tm 11) (tm 15))] [kp [0,1,5,7,8,16] []]) (.cond (tm 16) (.seq (.reg [om 17 5,om 4 17] [kp [4] []]) .ret) .skip)))) (.reg [od 18 (.bin .add (tm 8) (ki 1)),om 8 18] [kp [0,1,
 7,8] []])))) [kp [0,1,7,8] []]
def Vo:IC:=.loop Vn
def L2:List RO:=[od 4 (.mv (.const (.int .i64 (-1))))]
abbrev L6:IC:=(.seq (.reg [od 4 (.mv (ki 0))] [kp [0,1] []]) (.seq (.seq (.reg [om 6 0,od 7 (le 0 6),od 8 (.mv (ki 0))] [kp [0,1,7,8] []]) (.block 0 Vo)) (.seq (.reg L2 [kp [4] []]) .ret)))
attribute [simp] L2
def L8:List RV:=[.tmp 4]
/- probecard/logic.Fanin (function 121) -/
abbrev Ny:IC:=(.seq (.reg [od 2 (.mv (ki 0)),od 3 (.mv (ki 0))] [kp [0] []]) (.seq (.seq (.reg [om 4 0,od 5 (.conv .i64 (tm 4)),od 6 (.bin .geq (tm 5) (ki 16))] [kp [0,6] []]) (.cond (tm 6) (.seq (.reg [od 2 (.mv (ki 0)),od 3 (.mv (.const
 (.int .i64 (-1))))] [kp [2,3] []]) .ret) .skip)) (.seq (.reg [om 7 0,od 8 (.iadrA 16 2 (.global 8) (tm 7)),od 9 (.iadrA 2 1 (tm 8) (ki 0)),od 10 (ld 1 9),om 11 0,od 12 (.iadrA 16 2 (.global 8) (tm 11)),od 13 (.iadrA 2 1 (tm
 12) (ki 1)),od 14 (ld 1 13),om 2 10,om 3 14] [kp [2,3] []]) .ret)))
def Nz:List RV:=[.tmp 2,.tmp 3]
/- strings.IndexByte (function 133) -/
abbrev Jj:IC:=(.seq (.reg [od 4 (.mv (ki 0))] [kp [0,1] []]) (.seq (.reg [om 5 0,om 6 1,od 7 (.call 97 [(tm 5),(tm 6)]),om 4 7] [kp [4] []]) .ret))
def Jk:List RV:=[.tmp 4]
/- probecard/netlists.node (function 115) -/
abbrev P5:IC:=(.seq (.reg [od 2 (.box true (tm 0)),od 3 (.box true (tm 1)),od 4 (.mv (ki 0))] [kp [2,3] []]) (.seq (.reg [od 9 (fa 0 3),od 10 (ld 1 9),od 11 (.call 121 [(tm 10)]),om 8 11,od 12 (ex 8 0),od 13 (ex 8 1),om 5 12,om 6 13]
 [kp [2,3,5,6] []]) (.seq (.reg [od 14 (.mkf 122 [(tm 2)]),om 7 14] [kp [2,3,5,6,7] []]) (.seq (.block 0 (.seq (.reg [od 16 (fa 0 3),od 17 (ld 1 16),od 18 (.bin .gtr (tm 17) (ku 15)),om 15 18] [kp [2,3,5,6,7,15] []])
 (.cond (tm 15) (.seq (.reg [od 4 (.mv (ki 7))] [kp [4] []]) .ret) (.seq (.reg [od 20 (fa 1 3),od 21 (ld 1 20),od 22 (le 0 21),om 23 5,od 24 (.bin .lss (tm 22) (tm 23)),om 25 24,oF 26 (fa 1 3) 25,oF 27 (ld 1 26) 25,oF 28 (le
 0 27) 25,oF 29 (.mv (tm 6)) 25,oF 30 (.bin .gtr (tm 28) (tm 29)) 25,od 31 (.pick (tm 25) kT (tm 30)),om 19 31] [kp [2,3,7,19] []]) (.cond (tm 19) (.seq (.reg [od 4 (.mv (ki 8))] [kp [4] []]) .ret) (.seq (.reg [od 33 (fa 1
 3),od 34 (ld 1 33),od 35 (lG 4 2),od 36 (.call 119 [(tm 35)]),od 37 (.call 118 [(tm 34),(tm 36)]),om 32 37] [kp [2,3,7,32] []]) (.cond (tm 32) (.seq (.reg [od 4 (.mv (ki 1))] [kp [4] []]) .ret) (.seq (.reg [od 39 (fa 0 3),
 od 40 (ld 1 39),od 41 (.bin .eql (tm 40) (ku 13)),om 42 41,oT 43 (fa 1 3) 42,oT 44 (ld 1 43) 42,oT 45 (.mv (tm 7)) 42,oT 46 (.call 118 [(tm 44),(tm 45)]) 42,od 47 (.pick (tm 42) (tm 46) kF),om 38 47] [kp [2,3,38] []])
 (.cond (tm 38) (.seq (.reg [od 4 (.mv (ki 7))] [kp [4] []]) .ret) (.seq (.reg [od 49 (lG 4 2),od 50 (lG 4 3),od 51 (.call 123 [(tm 49),(tm 50)]),od 52 (.un .not (tm 51)),om 48 52] [kp [48] []]) (.cond (tm 48) (.seq (.reg [od 4
 (.mv (ki 1))] [kp [4] []]) .ret) .skip))))))))))) (.seq (.reg [od 4 (.mv (ki 0))] [kp [4] []]) .ret)))))
def C5:List RV:=[.tmp 4]
/- probecard/netlists.names (function 116) -/
abbrev Un:IC:=.gh (.seq (.reg [od 11 (.bin .lss (tm 10) (tm 9))] [kp [3,8,9,10,11] [6]]) (.seq (.cond (tm 11) .skip (.exit 0)) (.seq (.block 1 (.seq (.reg [od 12 (ia 1 8 10),od 13 (ld 1 12),om 5 13] [kp [3,5,8,9,10] [6]]) (.seq (.seq
 (.reg [om 14 5,od 15 (.call 124 [(tm 14)]),od 16 (.un .not (tm 15)),om 17 16,oF 18 (.mv (tm 3)) 17,oF 19 (.mv (tm 5)) 17,oF 20 (.lkup .str (.bool false) false (tm 18) (tm 19)) 17,od 21 (.pick (tm 17) kT (tm 20))] [kp [3,5,
 8,9,10,21] [6]]) (.cond (tm 21) (.seq (.reg [od 2 (.mv (ki 5))] [kp [2] []]) .ret) .skip)) (.reg [om 22 3,om 23 5,on (.mup .str (tm 22) (tm 23) kT)] [kp [3,8,9,10] [6]])))) (.reg [od 24 (.bin .add (tm 10) (ki 1)),om 10 24]
 [kp [3,8,9,10] [6]])))) [kp [3,8,9,10] [6]]
def J6:IC:=.loop Un
abbrev O0:IC:=(.seq (.reg [od 1 (.box true (tm 0)),od 2 (.mv (ki 0))] [kp [1] []]) (.seq (.reg [od 6 (.mkmap),om 3 6] [kp [1,3] [6]]) (.seq (.seq (.reg [od 7 (fa 1 1),od 8 (ld 1 7),od 9 (le 0 8),od 10 (.mv (ki 0))] [kp [3,8,9,10] [6]])
 (.block 0 J6)) (.seq (.reg [od 2 (.mv (ki 0))] [kp [2] []]) .ret))))
theorem Om (h:∀ K:St->Prop,K=run P Γ J6 Q->run P Γ Un (B1 K Q) s):run P Γ J6 Q s:=Au h
def J7:List RV:=[.tmp 2]
/- probecard/netlists.memory (function 117) -/
abbrev M4:IC:=(.seq (.reg [od 2 (.box true (tm 0)),od 3 (.box true (tm 1)),od 4 (.mv (ki 0))] [kp [2,3] []]) (.seq (.reg [od 5 (.mv (.func 125))] [kp [2,3,5] []]) (.seq (.reg [od 7 (lG 4 2),od 8 (.call 119 [(tm 7)]),om 6 8] [kp [3,5,6]
 []]) (.seq (.block 0 (.seq (.reg [om 10 5,od 11 (fa 0 3),od 12 (ld 1 11),od 13 (.callv (tm 10) [(tm 12),(ki 8)]),om 14 13,oF 15 (.mv (tm 5)) 14,oF 16 (fa 1 3) 14,oF 17 (ld 1 16) 14,oF 18 (.callv (tm 15) [(tm 17),(ki 32)])
 14,od 19 (.pick (tm 14) kT (tm 18)),om 9 19] [kp [3,6,9] []]) (.cond (tm 9) (.seq (.reg [od 4 (.mv (ki 8))] [kp [4] []]) .ret) (.seq (.reg [od 21 (fa 0 3),od 22 (ld 1 21),om 23 6,od 24 (.call 118 [(tm 22),(tm 23)]),om 25
 24,oF 26 (fa 1 3) 25,oF 27 (ld 1 26) 25,oF 28 (.mv (tm 6)) 25,oF 29 (.call 118 [(tm 27),(tm 28)]) 25,od 30 (.pick (tm 25) kT (tm 29)),om 31 30,oF 32 (.mv (tm 6)) 31,oF 33 (fa 2 3) 31,oF 34 (ld 1 33) 31,oF 35 (.callv (tm
 32) [(tm 34)]) 31,od 36 (.pick (tm 31) kT (tm 35)),om 20 36] [kp [20] []]) (.cond (tm 20) (.seq (.reg [od 4 (.mv (ki 1))] [kp [4] []]) .ret) .skip))))) (.seq (.reg [od 4 (.mv (ki 0))] [kp [4] []]) .ret)))))
def C2:List RV:=[.tmp 4]
/- slices.ContainsFunc[[]int,int] (function 118) -/
abbrev F4:IC:=(.seq (.reg [od 4 (.mv kF)] [kp [0,1] []]) (.seq (.reg [om 5 0,om 6 1,od 7 (.call 126 [(tm 5),(tm 6)]),od 8 (.bin .geq (tm 7) (ki 0)),om 4 8] [kp [4] []]) .ret))
def F5:List RV:=[.tmp 4]
/- probecard/netlists.outside (function 119) -/
abbrev Kr:IC:=(.seq (.reg [od 1 (.box true (tm 0)),od 2 (.mv (.const .nilFunc))] [kp [1] []]) (.seq (.reg [od 3 (.mkf 127 [(tm 1)]),om 2 3] [kp [2] []]) .ret))
def Ks:List RV:=[.tmp 2]
/- slices.Clip[[]probecard/api.Line,probecard/api.Line] (function 120) -/
abbrev Gy:IC:=(.seq (.reg [od 2 (.mv kN)] [kp [0] []]) (.seq (.reg [om 3 0,om 4 0,od 5 (le 0 4),om 6 0,od 7 (le 0 6),od 8 (.slice 2 (tm 3) none (some (tm 5)) (some (tm 7))),om 2 8] [kp [2] []]) .ret))
def Gz:List RV:=[.tmp 2]
/- internal/stringslite.IndexByte (function 97) -/
abbrev F6:IC:=(.seq (.reg [od 4 (.mv (ki 0))] [kp [0,1] []]) (.seq (.reg [om 5 0,om 6 1,od 7 (.call 108 [(tm 5),(tm 6)]),om 4 7] [kp [4] []]) .ret))
def F7:List RV:=[.tmp 4]
/- probecard/netlists.node$1 (function 122) -/
abbrev M5:IC:=(.seq (.reg [od 3 (.mv kF)] [kp [0,1] []]) (.seq (.reg [od 4 (fa 0 1),od 5 (ld 1 4),om 6 0,od 7 (ia 4 5 6),od 8 (fa 0 7),od 9 (ld 1 8),od 10 (.bin .neq (tm 9) (ku 12)),om 3 10] [kp [3] []]) .ret))
def M6:List RV:=[.tmp 3]
/- probecard/netlists.bit (function 123) -/
abbrev Di:IC:=(.seq (.reg [od 2 (.box true (tm 0)),od 3 (.box true (tm 1)),od 4 (.mv kF)] [kp [2,3] []]) (.seq (.seq (.reg [od 5 (fa 0 3),od 6 (ld 1 5),od 7 (.bin .neq (tm 6) (ku 15))] [kp [2,3,7] []]) (.cond (tm 7) (.seq (.reg [od 8 (fa
 2 3),od 9 (ld 1 8),od 10 (.bin .eql (tm 9) (ki 0)),om 11 10,oT 12 (fa 3 3) 11,oT 13 (ld 1 12) 11,oT 14 (.bin .eql (tm 13) (ki 0)) 11,od 15 (.pick (tm 11) (tm 14) kF),om 4 15] [kp [4] []]) .ret) .skip)) (.seq (.reg [od 16
 (fa 2 3),od 17 (ld 1 16),od 18 (.bin .geq (tm 17) (ki 0)),om 19 18,oT 20 (fa 2 3) 19,oT 21 (ld 1 20) 19,oT 22 (fa 2 2) 19,oT 23 (ld 1 22) 19,oT 24 (le 0 23) 19,oT 25 (.bin .lss (tm 21) (tm 24)) 19,od 26 (.pick (tm 19) (tm
 25) kF),om 27 26,oT 28 (fa 3 3) 27,oT 29 (ld 1 28) 27,oT 30 (.bin .geq (tm 29) (ki 0)) 27,od 31 (.pick (tm 27) (tm 30) kF),om 32 31,oT 33 (fa 3 3) 32,oT 34 (ld 1 33) 32,oT 35 (fa 2 2) 32,oT 36 (ld 1 35) 32,oT 37 (fa 2 3)
 32,oT 38 (ld 1 37) 32,oT 39 (ia 3 36 38) 32,oT 40 (fa 1 39) 32,oT 41 (ld 1 40) 32,oT 42 (le 0 41) 32,oT 43 (.bin .lss (tm 34) (tm 42)) 32,od 44 (.pick (tm 32) (tm 43) kF),om 4 44] [kp [4] []]) .ret)))
def Dj:List RV:=[.tmp 4]
/- probecard/netlists.IsName (function 124) -/
abbrev F8:IC:=(.seq (.reg [od 2 (.mv kF)] [kp [0] []]) (.seq (.reg [od 3 (.mv (.func 128))] [kp [0,3] []]) (.seq (.reg [om 4 0,od 5 (.bin .neq (tm 4) (.const (sV []))),om 6 5,oT 7 (.mv (tm 0)) 6,oT 8 (le 1 7) 6,oT 9 (.bin .leq (tm 8) (ki
 32)) 6,od 10 (.pick (tm 6) (tm 9) kF),om 11 10,oT 12 (.mv (tm 0)) 11,oT 13 (.mv (tm 3)) 11,oT 14 (.call 130 [(tm 12),(tm 13)]) 11,oT 15 (.un .not (tm 14)) 11,od 16 (.pick (tm 11) (tm 15) kF),om 2 16] [kp [2] []]) .ret)))
def F9:List RV:=[.tmp 2]
/- probecard/netlists.memory$1 (function 125) -/
abbrev Jl:IC:=(.seq (.reg [od 4 (.mv kF)] [kp [0,1] []]) (.seq (.reg [om 5 0,od 6 (le 0 5),od 7 (.bin .eql (tm 6) (ki 0)),om 8 7,oF 9 (.mv (tm 0)) 8,oF 10 (le 0 9) 8,oF 11 (.mv (tm 1)) 8,oF 12 (.bin .gtr (tm 10) (tm 11)) 8,od 13 (.pick
 (tm 8) kT (tm 12)),om 4 13] [kp [4] []]) .ret))
def Jm:List RV:=[.tmp 4]
/- slices.IndexFunc[[]int,int] (function 126) -/
abbrev N5:IC:=.gh (.seq (.reg [od 9 (.bin .lss (tm 8) (tm 7))] [kp [0,1,7,8,9] []]) (.seq (.cond (tm 9) .skip (.exit 0)) (.seq (.block 1 (.seq (.reg [om 10 8,om 5 10] [kp [0,1,5,7,8] []]) (.seq (.reg [om 11 1,om 12 0,om 13 5,od 14
 (ia 1 12 13),od 15 (ld 1 14),od 16 (.callv (tm 11) [(tm 15)])] [kp [0,1,5,7,8,16] []]) (.cond (tm 16) (.seq (.reg [om 17 5,om 4 17] [kp [4] []]) .ret) .skip)))) (.reg [od 18 (.bin .add (tm 8) (ki 1)),om 8 18] [kp [0,1,7,
 8] []])))) [kp [0,1,7,8] []]
def E8:IC:=.loop N5
abbrev H2:IC:=(.seq (.reg [od 4 (.mv (ki 0))] [kp [0,1] []]) (.seq (.seq (.reg [om 6 0,od 7 (le 0 6),od 8 (.mv (ki 0))] [kp [0,1,7,8] []]) (.block 0 E8)) (.seq (.reg [od 4 (.mv (.const (.int .i64 (-1))))] [kp [4] []])
 .ret)))
theorem J8 (h:∀ K:St->Prop,K=run P Γ E8 Q->run P Γ N5 (B1 K Q) s):run P Γ E8 Q s:=Au h
def E9:List RV:=[.tmp 4]
/- probecard/netlists.outside$1 (function 127) -/
abbrev Is:IC:=(.seq (.reg [od 3 (.mv kF)] [kp [0,1] []]) (.seq (.reg [om 4 0,od 5 (.bin .lss (tm 4) (ki 0)),om 6 5,oF 7 (.mv (tm 0)) 6,oF 8 (fa 0 1) 6,oF 9 (ld 1 8) 6,oF 10 (le 0 9) 6,oF 11 (.bin .geq (tm 7) (tm 10)) 6,od 12 (.pick (tm
 6) kT (tm 11)),om 3 12] [kp [3] []]) .ret))
def It:List RV:=[.tmp 3]
/- probecard/netlists.IsName$1 (function 128) -/
abbrev E1:IC:=(.seq (.reg [od 2 (.mv kF)] [kp [0] []]) (.seq (.reg [om 3 0,od 4 (.bin .leq (tm 3) (.const (.int .i32 32))),om 5 4,oF 6 (.mv (tm 0)) 5,oF 7 (.bin .gtr (tm 6) (.const (.int .i32 126))) 5,od 8 (.pick (tm 5) kT (tm 7)),om 9 8,
 oF 10 (.mv (tm 0)) 9,oF 11 (.call 129 [(.const (sV [40,41,61,44,35])),(tm 10)]) 9,od 12 (.pick (tm 9) kT (tm 11)),om 2 12] [kp [2] []]) .ret))
def E2:List RV:=[.tmp 2]
/- strings.ContainsRune (function 129) -/
abbrev H3:IC:=(.seq (.reg [od 4 (.mv kF)] [kp [0,1] []]) (.seq (.reg [om 5 0,om 6 1,od 7 (.call 131 [(tm 5),(tm 6)]),od 8 (.bin .geq (tm 7) (ki 0)),om 4 8] [kp [4] []]) .ret))
def H4:List RV:=[.tmp 4]
/- strings.ContainsFunc (function 130) -/
abbrev H5:IC:=(.seq (.reg [od 4 (.mv kF)] [kp [0,1] []]) (.seq (.reg [om 5 0,om 6 1,od 7 (.call 132 [(tm 5),(tm 6)]),od 8 (.bin .geq (tm 7) (ki 0)),om 4 8] [kp [4] []]) .ret))
def H6:List RV:=[.tmp 4]
/- strings.IndexRune (function 131) -/
abbrev Jn:IC:=(.seq (.reg [od 4 (.mv (ki 0))] [kp [0,1] []]) (.block 0 (.seq (.reg [om 161 1,od 162 (.bin .leq (.const (.int .i32 0)) (tm 161)),om 163 162,oT 164 (.mv (tm 1)) 163,oT 165 (.bin .lss (tm 164) (.const (.int .i32 128))) 163,od
 166 (.pick (tm 163) (tm 165) kF),om 160 166] [kp [0,1,160] []]) (.cond (tm 160) (.seq (.reg [om 167 0,om 168 1,od 169 (.conv .u8 (tm 168)),od 170 (.call 133 [(tm 167),(tm 169)]),om 4 170] [kp [4] []]) .ret) (.seq (.reg [om
 172 1,od 173 (.bin .eql (tm 172) (.const (.int .i32 65533))),om 171 173] [kp [1,171] []]) (.cond (tm 171) .dead (.seq (.reg [om 184 1,od 185 (.call 134 [(tm 184)]),od 186 (.un .not (tm 185)),om 183 186] [kp [183] []]) (.cond
 (tm 183) .dead .dead))))))))
def Jo:List RV:=[.tmp 4]
/- strings.IndexFunc (function 132) -/
abbrev Jp:IC:=(.seq (.reg [od 4 (.mv (ki 0))] [kp [0,1] []]) (.seq (.reg [om 5 0,om 6 1,od 7 (.call 135 [(tm 5),(tm 6),kT]),om 4 7] [kp [4] []]) .ret))
def Jq:List RV:=[.tmp 4]
/- unicode/utf8.ValidRune (function 134) -/
abbrev Uo:IC:=(.seq (.reg [od 2 (.mv kF)] [kp [0] []]) (.seq (.block 0 (.seq (.reg [om 4 0,od 5 (.bin .leq (.const (.int .i32 0)) (tm 4)),om 6 5,oT 7 (.mv (tm 0)) 6,oT 8 (.bin .lss (tm 7) (.const (.int .i32 55296))) 6,od 9 (.pick (tm 6) (tm
 8) kF),om 3 9] [kp [0,3] []]) (.cond (tm 3) (.seq (.reg [od 2 (.mv kT)] [kp [2] []]) .ret) (.seq (.reg [om 11 0,od 12 (.bin .lss (.const (.int .i32 57343)) (tm 11)),om 13 12,oT 14 (.mv (tm 0)) 13,oT 15 (.bin .leq (tm 14)
 (.const (.int .i32 1114111))) 13,od 16 (.pick (tm 13) (tm 15) kF),om 10 16] [kp [10] []]) (.cond (tm 10) (.seq (.reg [od 2 (.mv kT)] [kp [2] []]) .ret) .skip))))) (.seq (.reg [od 2 (.mv kF)] [kp [2] []]) .ret)))
def Up:List RV:=[.tmp 2]
/- strings.indexFunc (function 135) -/
abbrev Q3:IC:=.gh (.seq (.reg [od 11 (.nxt (tm 10)),od 12 (ex 11 0)] [kp [1,2,10,11,12] [10]]) (.seq (.cond (tm 12) .skip (.exit 0)) (.block 1 (.seq (.reg [od 13 (ex 11 1),od 14 (ex 11 2),om 7 13,om 8 14] [kp [1,2,7,8,10] [10]])
 (.seq (.reg [om 15 1,om 16 8,od 17 (.callv (tm 15) [(tm 16)]),om 18 2,od 19 (.eqb true (tm 17) (tm 18))] [kp [1,2,7,10,19] [10]]) (.cond (tm 19) (.seq (.reg [om 20 7,om 6 20] [kp [6] []]) .ret) .skip)))))) [kp [1,2,10]
 [10]]
def G5:IC:=.loop Q3
abbrev Jr:IC:=(.seq (.reg [od 6 (.mv (ki 0))] [kp [0,1,2] []]) (.seq (.seq (.reg [om 9 0,od 10 (.rng (tm 9))] [kp [1,2,10] [10]]) (.block 0 G5)) (.seq (.reg [od 6 (.mv (.const (.int .i64 (-1))))] [kp [6] []]) .ret)))
theorem L9 (h:∀ K:St->Prop,K=run P Γ G5 Q->run P Γ Q3 (B1 K Q) s):run P Γ G5 Q s:=Au h
def G6:List RV:=[.tmp 6]
end
end Go.Lg
namespace Go.Lg
open Go Go.Proofs
theorem T0:Ax Tryz.prog 86 Np 11 1 Nq=true:=by kernel_rfl
theorem q4T:Ax Tryz.prog 52 Zs 27 2 Zt=true:=by kernel_rfl
theorem q0p:Ax Tryz.prog 30 S7 6 1 S8=true:=by kernel_rfl
theorem Ur:Ax Tryz.prog 113 P3 9 1 P4=true:=by kernel_rfl
theorem q0q:Ax Tryz.prog 70 S9 9 1 Si=true:=by kernel_rfl
theorem Qm:Ax Tryz.prog 104 Ly 131 1 F3=true:=by kernel_rfl
theorem Qg:Ax Tryz.prog 69 J2 9 2 J3=true:=by kernel_rfl
theorem T8:Ax Tryz.prog 112 D7 73 1 Bn=true:=by kernel_rfl
theorem Qn:Ax Tryz.prog 114 M1 65 1 M3=true:=by kernel_rfl
theorem Ud:Ax Tryz.prog 90 L6 19 2 L8=true:=by kernel_rfl
theorem Yg:Ax Tryz.prog 121 Ny 15 1 Nz=true:=by kernel_rfl
theorem On:Ax Tryz.prog 133 Jj 8 2 Jk=true:=by kernel_rfl
theorem Us:Ax Tryz.prog 115 P5 53 2 C5=true:=by kernel_rfl
theorem T9:Ax Tryz.prog 116 O0 25 1 J7=true:=by kernel_rfl
theorem Qo:Ax Tryz.prog 117 M4 37 2 C2=true:=by kernel_rfl
theorem J9:Ax Tryz.prog 118 F4 9 2 F5=true:=by kernel_rfl
theorem Q4:Ax Tryz.prog 119 Kr 4 1 Ks=true:=by kernel_rfl
theorem La:Ax Tryz.prog 120 Gy 9 1 Gz=true:=by kernel_rfl
theorem Ja:Ax Tryz.prog 97 F6 8 2 F7=true:=by kernel_rfl
theorem Qp:Ax Tryz.prog 122 M5 11 2 M6=true:=by kernel_rfl
theorem Wa:Ax Tryz.prog 123 Di 45 2 Dj=true:=by kernel_rfl
theorem Qq:Ax Tryz.prog 124 F8 17 1 F9=true:=by kernel_rfl
theorem Oo:Ax Tryz.prog 125 Jl 14 2 Jm=true:=by kernel_rfl
theorem Lc:Ax Tryz.prog 126 H2 19 2 E9=true:=by kernel_rfl
theorem O1:Ax Tryz.prog 127 Is 13 2 It=true:=by kernel_rfl
theorem Oq:Ax Tryz.prog 128 E1 13 1 E2=true:=by kernel_rfl
theorem Ld:Ax Tryz.prog 129 H3 9 2 H4=true:=by kernel_rfl
theorem Le:Ax Tryz.prog 130 H5 9 2 H6=true:=by kernel_rfl
theorem Ot:Ax Tryz.prog 131 Jn 187 2 Jo=true:=by kernel_rfl
theorem Ou:Ax Tryz.prog 132 Jp 8 2 Jq=true:=by kernel_rfl
theorem q1d:Ax Tryz.prog 134 Uo 17 1 Up=true:=by kernel_rfl
theorem Ov:Ax Tryz.prog 135 Jr 21 3 G6=true:=by kernel_rfl
end Go.Lg
set_option maxRecDepth 100000
namespace Go.Lg
open Go Go.Proofs
variable {Γ:Tables}
theorem q7M (es:List (List T)) (cap:Option Nat) (nl:Option Bool) (hw:Gk 2 es):An Tryz.prog Γ 120 [.sl es cap nl] (.sl es (some es.length) nl):=by
 refine E7 La rfl ?_
 simp[Gy,Gz,ret,hw]
def qG6 {α:Type} (p:α->Bool) (l:List α):Int:=match l.findIdx? p with|some i=>i|none => -1
theorem qAa {α:Type} {p:α->Bool} {l:List α} {i:Nat} (hp:∀ j,j<i->∀ x,l[j]? = some x->p x=false) (x:α) (hx:l[i]? = some x) (h:p x=true):l.findIdx? p=some i:=by
 rw[List.findIdx?_eq_some_iff_getElem]
 have hi:=(List.getElem?_eq_some_iff.1 hx).1
 refine⟨hi,?_,fun j hj=>?_⟩
 ·have:=(List.getElem?_eq_some_iff.1 hx).2;rw[this];exact h
 ·have:=hp j hj l[j] (List.getElem?_eq_getElem (by omega))
  simp[this]
theorem q49 {cs:List T}:Ac (cs.map fun t=>some t)=some cs:=by
 induction cs with
 | nil=>rfl
 | cons t cs ih=>simp only[List.map_cons,Ac,ih,Option.map_some]
theorem q1e {hp:List (Nat×Aj)} {f:FuncId} {K:T->Prop} {cs:List T} {t res:T} (h:A6 Tryz.prog Γ f (t::cs) res) (hk:K res):q5S Tryz.prog Γ hp f (.t t::cs.map .t) K ⟨⟩ :=
 A4 h (by simp only[List.map_cons,List.map_map,Function.comp_def,Ac,Aq];rw[q49];rfl) hk
theorem Zu {Q:AX->St->Prop} (l:List Int) (c:Option Nat) (nl:Option Bool) (f:FuncId) (cs:List T) (p:Int->Bool) (hp:∀ x∈l,A6 Tryz.prog Γ f (tI x::cs) (tB (p x))) (hl:l.length<=1000000000)
  (h0:(∀ x∈l,p x=false)->Q (.exit 0) ⟨[(0,.t (.sl (Bc l) c nl)),(1,.t (.fn f cs)),(7,.t (tI l.length)),(8,.t (tI l.length)),(9,.t (tB false))],[]⟩)
  (h1:∀ i:Nat,l.findIdx? p=some i->Q .ret ⟨[(4,.t (tI i))],[]⟩):∀ (k i:Nat),k+i=l.length->(∀ j,j<i->∀ y,l[j]? = some y->p y=false) ->
  run Tryz.prog Γ E8 Q ⟨[(0,.t (.sl (Bc l) c nl)),(1,.t (.fn f cs)),(7,.t (tI l.length)),(8,.t (tI i))],[]⟩
 | 0,i,h,hq=>by
  refine J8 fun K hK=>?_
  have h2:¬ i<l.length:=by omega
  simp(disch:=omega) [A3,Ie (0:Int),Aa,A5,h2]
  have h3:i=l.length:=by omega
  subst h3
  refine h0 fun y hy=>?_
  obtain⟨j,hj,rfl⟩:=List.getElem_of_mem hy
  exact hq j (by omega) _ (List.getElem?_eq_getElem hj)
 | k+1,i,h,hq=>by
  refine J8 fun K hK=>?_
  have h2:i<l.length:=by omega
  simp(disch:=omega) [A3,Ie (0:Int),Aa,A5,h2]
  refine q1e (hp l[i] (List.getElem_mem h2)) ?_
  simp
  refine⟨fun hc=>?_,fun hc=>?_⟩
  ·simp[Dy]
   exact h1 i (qAa hq l[i] (List.getElem?_eq_getElem h2) hc)
  ·simp(disch:=omega) [Dy,A5]
   rw[hK]
   exact_mod_cast Zu l c nl f cs p hp hl h0 h1 k (i+1) (by omega) (fun j hj y hy=>by
    rcases Nat.lt_succ_iff_lt_or_eq.1 hj with hj|rfl
    ·exact hq j hj y hy
    ·rw[List.getElem?_eq_getElem h2]at hy;simp at hy;subst hy;exact hc)
theorem q6Y (l:List Int) (c:Option Nat) (nl:Option Bool) (f:FuncId) (cs:List T) (p:Int->Bool) (hp:∀ x∈l,A6 Tryz.prog Γ f (tI x::cs) (tB (p x))) (hl:l.length<=1000000000):A6 Tryz.prog Γ 126 [.sl (Bc l) c nl,.fn f cs] (tI (qG6 p l)):=by
 refine Af Lc rfl ?_
 simp(disch:=omega) [H2,A3,A5]
 refine Zu l c nl f cs p hp hl (fun h=>?_) (fun i h=>?_) l.length 0 (by omega) (by simp)
 ·have:l.findIdx? p=none:=List.findIdx?_eq_none_iff.2 h
  simp[ret,E9,Ek,J1,Gx,Df,qG6,this]
 ·simp[ret,E9,Ek,J1,Gx,Df,qG6,h]
theorem Wb (l:List Int) (c:Option Nat) (nl:Option Bool) (f:FuncId) (cs:List T) (p:Int->Bool) (hp:∀ x∈l,A6 Tryz.prog Γ f (tI x::cs) (tB (p x))) (hl:l.length<=1000000000):A6 Tryz.prog Γ 118 [.sl (Bc l) c nl,.fn f cs] (tB (l.any p)):=by
 refine Af J9 rfl ?_
 simp(disch:=omega) [F4,A3,A5]
 refine A4 (q6Y l c nl f cs p hp hl) rfl ?_
 simp[ret,F5,Ek,J1,Gx,Df]
 unfold qG6
 cases h:l.findIdx? p with
 | none =>
  rw[List.findIdx?_eq_none_iff]at h
  have:l.any p=false:=by rw[List.any_eq_false];intro x hx;simp[h x hx]
  simp[this]
 | some i =>
  rw[List.findIdx?_eq_some_iff_getElem]at h
  obtain⟨hi,h1,_⟩:=h
  have:l.any p=true:=List.any_eq_true.2 ⟨_,List.getElem_mem hi,h1⟩
  simp[this]
theorem q7N (k:Int):A6 Tryz.prog Γ 113 [tK k] (tB (decide (1<=k/\k<=13))):=by
 refine Af Ur rfl ?_
 by_cases h1:1<=k<;>by_cases h2:k<=13<;>simp[P3,ret,P4,Ek,J1,Gx,Df,h1,h2]
structure Nd where
 k:Int
 inn:Sl Int
 mem:Int
 bit:Int
structure Mm where
 addr:Sl Int
 data:Sl Int
 write:Int
structure Ee where
 nodes:Sl Nd
 names:Sl (List UInt8)
 mems:Sl Mm
 outs:Sl Int
def tNd (x:Nd):List T:=[tK x.k,Bh x.inn,tI x.mem,tI x.bit]
def tMm (m:Mm):List T:=[Bh m.addr,Bh m.data,tI m.write]
def tS (l:List UInt8):T:=.v (sV l)
def Bd (s:Sl Nd):T:=.sl (L0 tNd s.l) s.cap s.nl
def E3 (s:Sl (List UInt8)):T:=.sl (Ak tS s.l) s.cap s.nl
def Hf (s:Sl Mm):T:=.sl (L0 tMm s.l) s.cap s.nl
def tC (c:Ee):List T:=[Bd c.nodes,E3 c.names,Hf c.mems,Bh c.outs]
def Nd.d:Nd:=⟨0,⟨[],none,none⟩,0,0⟩
def Mm.d:Mm:=⟨⟨[],none,none⟩,⟨[],none,none⟩,0⟩
theorem q2L {l:List Nd}:Gk 4 (L0 tNd l):=q5a fun _=>rfl
theorem q2M {l:List Mm}:Gk 3 (L0 tMm l):=q5a fun _=>rfl
structure CirOk (c:Ee):Prop where
 nodes:c.nodes.l.length<=1000000000
 names:c.names.l.length<=1000000000
 mems:c.mems.l.length<=1000000000
 outs:c.outs.l.length<=1000000000
 kind:∀ x∈c.nodes.l,0<=x.k/\x.k<=255
 inn:∀ x∈c.nodes.l,x.inn.l.length<=1000000000
 addr:∀ m∈c.mems.l,m.addr.l.length<=1000000000/\m.data.l.length<=1000000000
def Qh (c:Ee) (n:Int):Bool:=decide (n<0\/(c.nodes.l.length:Int)<=n)
theorem Vp (c:Ee) (n:Int) (hc:c.nodes.l.length<=1000000000):A6 Tryz.prog Γ 127 [tI n,.ip (tC c) 0] (tB (Qh c n)):=by
 refine Af O1 rfl ?_
 by_cases h1:n<0<;>simp(disch:=omega) [Is,ret,It,Ek,J1,Gx,Df,h1,tC,Bd,Bq,A5,Qh]
theorem Rj (c:Ee):An Tryz.prog Γ 119 [.agg (tC c)] (.fn 127 [.ip (tC c) 0]):=by
 refine E7 Q4 rfl ?_
 simp[Kr,ret,Ks,tC,Bi,Aw,T.one,AV.one,Bd,E3,Hf,Bh]
theorem Ut (c:Ee) (hc:c.nodes.l.length<=1000000000) (l:List Int) (cap:Option Nat) (nl:Option Bool) (hl:l.length<=1000000000):A6 Tryz.prog Γ 118 [.sl (Bc l) cap nl,.fn 127 [.ip (tC c) 0]] (tB (l.any (Qh c))) :=
 Wb l cap nl _ _ _ (fun x _=>Vp c x hc) hl
def q5d:List (Int×Int):=[(0,0),(0,0),(0,0),(1,1),(1,1),(2,16),(2,16),(2,16),(2,16),(2,16),(2,16),(3,3),(2,2),(1,16),(1,1),(0,0)]
def qAb:List T:=q5d.flatMap fun p=>[tI p.1,tI p.2]
def fan (k:Int):Int×Int:=if 16<=k then(0,-1)else q5d.getD k.toNat (0,0)
def GOk (Γ:Tables):Prop:=Γ 8=some qAb
theorem qAc (hΓ:GOk Γ) (k:Int) (h0:0<=k) (h1:k<=255):A6 Tryz.prog Γ 121 [tK k] (.tup [tI (fan k).1,tI (fan k).2]):=by
 unfold GOk at hΓ
 refine Af Yg rfl ?_
 by_cases h2:16<=k
 ·simp(disch:=omega) [Ny,ret,Nz,Ek,J1,Gx,Df,h2,A5,fan]
 ·have h3:k=0\/k=1\/k=2\/k=3\/k=4\/k=5\/k=6\/k=7\/k=8\/k=9\/k=10\/k=11\/k=12\/k=13\/k=14\/k=15:=by omega
  rcases h3 with rfl|rfl|rfl|rfl|rfl|rfl|rfl|rfl|rfl|rfl|rfl|rfl|rfl|rfl|rfl|rfl <;>
  simp(disch:=omega) [Ny,ret,Nz,Ek,J1,Gx,Df,A5,fan,hΓ,qAb,q5d]<;>exact⟨rfl,rfl⟩
def q0y (c:Ee) (x:Nd):Bool :=
 if x.k≠15 then decide (x.mem=0/\x.bit=0)
 else decide (0<=x.mem/\x.mem<c.mems.l.length/\0<=x.bit/\x.bit<((c.mems.l.getD x.mem.toNat Mm.d).data.l.length))
theorem qEF (c:Ee) (x:Nd) (hc:CirOk c):A6 Tryz.prog Γ 123 [.agg (tC c),.agg (tNd x)] (tB (q0y c x)):=by
 refine Af Wa rfl ?_
 have hm:=hc.mems
 by_cases h1:x.k=15
 ·by_cases h2:0<=x.mem
  ·by_cases h3:x.mem<c.mems.l.length
   ·have h3':x.mem.toNat<c.mems.l.length:=by omega
    by_cases h4:0<=x.bit
    ·simp(disch:=omega) [Di,ret,Dj,Ek,J1,Gx,Df,Bi,Aw,T.one,AV.one,tC,tNd,Bd,E3,Hf,Bh,h1,h2,h3,h4,h3',Bq,L1 Mm.d,A5,q2M,tMm,A3,q0y]
    ·simp(disch:=omega) [Di,ret,Dj,Ek,J1,Gx,Df,Bi,Aw,T.one,AV.one,tC,tNd,Bd,E3,Hf,Bh,h1,h2,h3,h4,h3',Bq,L1 Mm.d,A5,q2M,tMm,A3,q0y]
   ·simp(disch:=omega) [Di,ret,Dj,Ek,J1,Gx,Df,Bi,Aw,T.one,AV.one,tC,tNd,Bd,E3,Hf,Bh,h1,h2,h3,Bq,L1 Mm.d,A5,q2M,tMm,A3,q0y]
  ·simp(disch:=omega) [Di,ret,Dj,Ek,J1,Gx,Df,Bi,Aw,T.one,AV.one,tC,tNd,Bd,E3,Hf,Bh,h1,h2,Bq,L1 Mm.d,A5,q2M,tMm,A3,q0y]
 ·by_cases h2:x.mem=0
  ·simp(disch:=omega) [Dy,Di,Dj,tC,tNd,Bd,E3,Hf,Bh,h1,h2,q0y,-decide_eq_decide]
  ·have h2':(x.mem==0)=false:=by simpa using h2
   simp(disch:=omega) [Dy,Di,Dj,tC,tNd,Bd,E3,Hf,Bh,h1,h2,h2',q0y]
def Ta (l:List Int) (most:Int):Bool:=decide (l.length=0\/most<l.length)
theorem q2N (l:List Int) (cap:Option Nat) (nl:Option Bool) (most:Int) (hl:l.length<=1000000000):A6 Tryz.prog Γ 125 [.sl (Bc l) cap nl,tI most] (tB (Ta l most)):=by
 refine Af Oo rfl ?_
 by_cases h:l.length=0<;>simp(disch:=omega) [Jl,ret,Jm,Ek,J1,Gx,Df,A3,h,Ta,A5]
def q3O (c:Ee) (n:Int):Bool:=decide ((c.nodes.l.getD n.toNat Nd.d).k≠12)
theorem qAd (c:Ee) (n:Int) (h0:0<=n) (h1:n<c.nodes.l.length):A6 Tryz.prog Γ 122 [tI n,.ip (tC c) 0] (tB (q3O c n)):=by
 refine Af Qp rfl ?_
 have h2:n.toNat<c.nodes.l.length:=by omega
 simp(disch:=omega) [M5,ret,M6,Ek,J1,Gx,Df,tC,Bd,Bq,L1 Nd.d,q2L,h0,h1,h2,q3O,tNd]
def Ea (c:Ee) (x:Nd):Int :=
 if 15<x.k then 7 else if(x.inn.l.length:Int)<(fan x.k).1\/(fan x.k).2<x.inn.l.length then 8 else if x.inn.l.any (Qh c)then 1
 else if x.k=13/\x.inn.l.any (q3O c)=true then 7 else if q0y c x=false then 1 else 0
theorem q2O {c:Ee} {l:List Int} (h:l.any (Qh c)=false):∀ n∈l,0<=n/\n<c.nodes.l.length:=by
 intro n hn
 have:=List.any_eq_false.1 h n hn
 simp only[Qh,decide_eq_true_eq,not_or,Int.not_lt,Int.not_le]at this
 exact this
theorem qCo (hΓ:GOk Γ) (c:Ee) (x:Nd) (hc:CirOk c) (hk:0<=x.k/\x.k<=255) (hl:x.inn.l.length<=1000000000):A6 Tryz.prog Γ 115 [.agg (tC c),.agg (tNd x)] (tI (Ea c x)):=by
 refine Af Us rfl ?_
 have hn:=hc.nodes
 have e1:=Ut (Γ:=Γ) c hn x.inn.l x.inn.cap x.inn.nl hl
 have e2:=qAc hΓ x.k hk.1 hk.2
 have e3:=Rj (Γ:=Γ) c
 have e4:=qEF (Γ:=Γ) c x hc
 simp(disch:=omega) [P5,Bi,Aw,T.one,AV.one,tC,tNd,Bd,E3,Hf,Bh]
 refine A4 e2 rfl ?_
 simp(disch:=omega)
 simp
 refine⟨fun h1=>?_,fun h1=>?_⟩
 ·simp[Dy,ret,C5,Ek,J1,Gx,Df,Ea,h1]
 by_cases h2:(x.inn.l.length:Int)<(fan x.k).1
 ·simp(disch:=omega) [Dy,A3,A5,h2,ret,C5,Ek,J1,Gx,Df,Ea,h1]
 by_cases h3:(fan x.k).2<x.inn.l.length
 ·simp(disch:=omega) [Dy,A3,A5,h2,h3,ret,C5,Ek,J1,Gx,Df,Ea,h1]
 simp(disch:=omega) [Dy,A3,A5,h2,h3]
 refine As e3 rfl ?_
 simp(disch:=omega)
 refine A4 e1 rfl ?_
 simp(disch:=omega) [-List.any_eq_true,-List.any_eq_false]
 refine⟨fun h4=>?_,fun h4=>?_⟩
 ·simp[-List.any_eq_true,-List.any_eq_false,Dy,ret,C5,Ek,J1,Gx,Df,Ea,h1,h2,h3,h4]
 have h4':x.inn.l.any (Qh c)=false:=h4
 by_cases h5:x.k=13
 ·have e5:=Wb (Γ:=Γ) x.inn.l x.inn.cap x.inn.nl 122 [.ip (tC c) 0] (q3O c) (fun n hm=>qAd c n (q2O h4' n hm).1 (q2O h4' n hm).2) hl
  simp(disch:=omega) [Dy,h5]
  refine A4 e5 rfl ?_
  simp[-List.any_eq_true,-List.any_eq_false]
  refine⟨fun h6=>?_,fun h6=>?_⟩
  ·have h6':x.inn.l.any (q3O c)=true:=h6
   simp[-List.any_eq_true,-List.any_eq_false,Dy,ret,C5,Ek,J1,Gx,Df,Ea,h1,h2,h3,h4',h5,h6']
   simp[h5]at h2 h3;omega
  ·have h6':x.inn.l.any (q3O c)=false:=h6
   have e:Ea c x=if q0y c x=false then 1 else 0:=by
    unfold Ea
    rw[if_neg (by omega),if_neg (by omega),if_neg (by simp[h4']),if_neg (by simp[h6'])]
   rw[e]
   simp(disch:=omega) [Dy,h6']
   rw[show tNd x=[tK 13,Bh x.inn,tI x.mem,tI x.bit] from by simp[tNd,h5]]at e4
   refine A4 e4 rfl ?_
   simp
   refine⟨fun h7=>?_,fun h7=>?_⟩<;>simp[Dy,C5,h7]
 ·have e:Ea c x=if q0y c x=false then 1 else 0:=by
   unfold Ea
   rw[if_neg (by omega),if_neg (by omega),if_neg (by simp[h4']),if_neg (by simp[h5])]
  rw[e]
  simp(disch:=omega) [Dy,h5]
  refine A4 e4 rfl ?_
  simp
  refine⟨fun h7=>?_,fun h7=>?_⟩<;>simp[Dy,C5,h7]
theorem qMM:(Tryz.prog.funcs[108]?).map (fun f=>(f.name,f.body.isNone,f.origin))=some ("internal/bytealg.IndexByteString",true, ""):=by kernel_rfl
abbrev tR (n:Int):T:=.v (.int .i32 n)
theorem Q5 (s:ByteArray) (c:Int):A6 Tryz.prog Γ 108 [.v (.string s),tK c] (tI (Lib.indexByte s.data.toList c.toNat.toUInt8)):=by
 intro w X vs hg hx hts
 obtain⟨x,xs,rfl,h1,h2⟩:=hts.cons_inv
 obtain⟨y,ys,rfl,h3,h4⟩:=h2.cons_inv
 have:=h4.nil_inv;subst this
 cases h1;cases h3
 refine .inr ⟨.int .i64 (Lib.indexByte s.data.toList c.toNat.toUInt8),?_,RowKit.Below.refl _ _,.v _⟩
 have h:=qMM
 simp only[Option.map_eq_some_iff,Prod.mk.injEq]at h
 obtain⟨fn,hf,hn,hb,ho⟩:=h
 have e1:Extern.findNext fn=none:=by
  simp only[Extern.findNext,hn,ho]
  have a:Extern.allNextRows.lookup "internal/bytealg.IndexByteString" = none:=by kernel_rfl
  have b:Extern.allNextRows.lookup "" = none:=by kernel_rfl
  rw[a,b];rfl
 have e2:Extern.find fn=some Extern.BytealgIndexByte.indexByte:=by
  simp only[Extern.find,hn,ho]
  have a:Extern.allGenericRows.lookup "internal/bytealg.IndexByteString" = none:=by kernel_rfl
  have b:Extern.allTypedRows.lookup "internal/bytealg.IndexByteString" = none:=by kernel_rfl
  have c:Extern.allRows.lookup "internal/bytealg.IndexByteString" = some Extern.BytealgIndexByte.indexByte:=by kernel_rfl
  rw[a,b,c];rfl
 have hnn:¬ fn.name = "runtime.NumGoroutine" := by rw[hn];decide
 have hr:=Lib.run_indexByteString (P:=Tryz.prog) s c w
 have hb':fn.body=none:=by simpa using hb
 simp[callFunc,hf,hnn,hb',e1,e2,hr]
theorem q7O (s:ByteArray) (c:Int):A6 Tryz.prog Γ 97 [.v (.string s),tK c] (tI (Lib.indexByte s.data.toList c.toNat.toUInt8)):=by
 refine Af Ja rfl ?_
 simp[F6]
 refine A4 (Q5 s c) rfl ?_
 simp[F7]
theorem q5e (s:ByteArray) (c:Int):A6 Tryz.prog Γ 133 [.v (.string s),tK c] (tI (Lib.indexByte s.data.toList c.toNat.toUInt8)):=by
 refine Af On rfl ?_
 simp[Jj]
 refine A4 (q7O s c) rfl ?_
 simp[Jk]
theorem q5f (s:ByteArray) (c:Int) (h0:0<=c) (h1:c<128):A6 Tryz.prog Γ 131 [.v (.string s),tR c] (tI (Lib.indexByte s.data.toList c.toNat.toUInt8)):=by
 refine Af Ot rfl ?_
 simp(disch:=omega) [Jn,h0,h1,q0e]
 refine A4 (q5e s c) rfl ?_
 simp[Jo]
theorem q2P (s:ByteArray) (c:Int) (h0:0<=c) (h1:c<128):A6 Tryz.prog Γ 129 [.v (.string s),tR c] (tB (decide (0<=Lib.indexByte s.data.toList c.toNat.toUInt8))):=by
 refine Af Ld rfl ?_
 simp(disch:=omega) [H3]
 refine A4 (q5f s c h0 h1) rfl ?_
 simp[H4]
def qCp (c:Int):Bool:=decide (c<=32\/126<c\/0<=Lib.indexByte [40,41,61,44,35] c.toNat.toUInt8)
theorem qCq (c:Int):A6 Tryz.prog Γ 128 [tR c] (tB (qCp c)):=by
 refine Af Oq rfl ?_
 by_cases h1:c<=32
 ·simp[E1,E2,h1,qCp]
 by_cases h2:126<c
 ·simp[E1,E2,h1,h2,qCp]
 simp[E1,h1,h2]
 refine A4 (q2P ⟨#[40,41,61,44,35]⟩ c (by omega) (by omega)) rfl ?_
 simp[E2,qCp,h1,h2]
theorem qAe (s:List UInt8) (i:Nat) (hi:i<s.length) (ha:s[i]<128):Utf8.decode ⟨s.toArray⟩ i=((s[i]).toNat,1):=by
 have e:(ByteArray.mk s.toArray).get! (i+0)=s[i]:=by
  simp[ByteArray.get!,hi]
 have h2:(s[i]).toNat<128:=by simpa[UInt8.lt_iff_toNat_lt]using ha
 unfold Utf8.decode
 simp only[e,h2,↓reduceIte]
def qAf (s:List UInt8):Bool:=s.any fun b=>qCp b.toNat
theorem Zv {Q:AX->St->Prop} (s:List UInt8) (ha:∀ b∈s,b<128)
  (h0:qAf s=false->Q (.exit 0) ⟨[(1,.t (.fn 128 [])),(2,.t (tB true)),(10,.li 10),(11,.t (.tup [tB false])),(12,.t (tB false))],[(10,.it ⟨s.toArray⟩ s.length)]⟩)
  (h1:qAf s=true->∀ i:Nat,Q .ret ⟨[(6,.t (tI i))],[]⟩):∀ (k i:Nat),k+i=s.length->(∀ j,j<i->∀ b,s[j]? = some b->qCp b.toNat=false) ->
  run Tryz.prog Γ G5 Q ⟨[(1,.t (.fn 128 [])),(2,.t (tB true)),(10,.li 10)],[(10,.it ⟨s.toArray⟩ i)]⟩
 | 0,i,h,hq=>by
  refine L9 fun K hK=>?_
  have h2:¬ i<s.length:=by omega
  have h3:i=s.length:=by omega
  have h4:¬ i<(ByteArray.mk s.toArray).size:=by simpa[ByteArray.size]using h2
  simp[h2]
  subst h3
  refine h0 (List.any_eq_false.2 fun b hb=>?_)
  obtain⟨j,hj,rfl⟩:=List.getElem_of_mem hb
  simp[hq j hj _ (List.getElem?_eq_getElem hj)]
 | k+1,i,h,hq=>by
  refine L9 fun K hK=>?_
  have h2:i<s.length:=by omega
  have h4:i<(ByteArray.mk s.toArray).size:=by simpa[ByteArray.size]using h2
  simp[h2,qAe s i h2 (ha _ (List.getElem_mem h2))]
  refine A4 (qCq s[i].toNat) rfl ?_
  simp
  refine⟨fun hc=>?_,fun hc=>?_⟩
  ·simp[Dy]
   exact h1 (List.any_eq_true.2 ⟨_,List.getElem_mem h2,hc⟩) i
  ·simp[Dy]
   rw[hK]
   exact Zv s ha h0 h1 k (i+1) (by omega) (fun j hj b hb=>by
    rcases Nat.lt_succ_iff_lt_or_eq.1 hj with hj|rfl
    ·exact hq j hj b hb
    ·rw[List.getElem?_eq_getElem h2]at hb;simp at hb;subst hb;exact hc)
theorem q88 (s:List UInt8) (ha:∀ b∈s,b<128):∃ n:Int,A6 Tryz.prog Γ 135 [tS s,.fn 128 [],tB true] (tI n)/\(0<=n↔qAf s=true):=by
 have:∃ r,A6 Tryz.prog Γ 135 [tS s,.fn 128 [],tB true] r/\∃ n,r=tI n/\(0<=n↔qAf s=true):=by
  refine q7G Ov rfl ?_
  simp[Jr,tS,sV]
  refine Zv s ha (fun h=>?_) (fun h i=>?_) s.length 0 (by omega) (by simp)
  ·simp[G6,h]
  ·simp[G6,h]
 obtain⟨_,h1,n,rfl,h2⟩:=this
 exact⟨n,h1,h2⟩
theorem q4U (s:List UInt8) (ha:∀ b∈s,b<128):∃ n:Int,A6 Tryz.prog Γ 132 [tS s,.fn 128 []] (tI n)/\(0<=n↔qAf s=true):=by
 obtain⟨n,h1,h2⟩:=q88 (Γ:=Γ) s ha
 refine⟨n,Af Ou rfl ?_,h2⟩
 simp[Jp]
 refine A4 h1 rfl ?_
 simp[Jq]
theorem Zw (s:List UInt8) (ha:∀ b∈s,b<128):A6 Tryz.prog Γ 130 [tS s,.fn 128 []] (tB (qAf s)):=by
 obtain⟨n,h1,h2⟩:=q4U (Γ:=Γ) s ha
 refine Af Le rfl ?_
 simp[H5]
 refine A4 h1 rfl ?_
 simp[H6,h2]
def q1f (s:List UInt8):Bool:=decide (s≠[]/\s.length<=32) && !qAf s
theorem q9K (s:List UInt8) (ha:∀ b∈s,b<128):A6 Tryz.prog Γ 124 [tS s] (tB (q1f s)):=by
 refine Af Qq rfl ?_
 have h:=Zw (Γ:=Γ) s ha
 by_cases h1:s=[]
 ·simp[F8,F9,tS,sV,h1,q1f]
 have h1':s.isEmpty=false:=by simpa using h1
 by_cases h2:s.length<=32
 ·have h2':(s.length:Int)<=32:=by omega
  simp[F8,tS,sV,h1,h1',h2']
  refine A4 h rfl ?_
  simp[F9,q1f,h1,h2]
 ·have h2':¬ (s.length:Int)<=32:=by omega
  simp[F8,F9,tS,sV,h1,h1',h2',h2,q1f]
def O2 (c:Ee) (m:Mm):Int :=
 if Ta m.addr.l 8=true\/Ta m.data.l 32=true then 8 else if m.addr.l.any (Qh c)=true\/m.data.l.any (Qh c)=true\/Qh c m.write=true then 1 else 0
theorem q9L (c:Ee) (m:Mm) (hc:CirOk c) (hm:m.addr.l.length<=1000000000/\m.data.l.length<=1000000000):A6 Tryz.prog Γ 117 [.agg (tC c),.agg (tMm m)] (tI (O2 c m)):=by
 refine Af Qo rfl ?_
 have hn:=hc.nodes
 have e1:=Ut (Γ:=Γ) c hn m.addr.l m.addr.cap m.addr.nl hm.1
 have e2:=Ut (Γ:=Γ) c hn m.data.l m.data.cap m.data.nl hm.2
 have e3:=Rj (Γ:=Γ) c
 have e4:=q2N (Γ:=Γ) m.addr.l m.addr.cap m.addr.nl 8 hm.1
 have e5:=q2N (Γ:=Γ) m.data.l m.data.cap m.data.nl 32 hm.2
 have e6:=Vp (Γ:=Γ) c m.write hn
 simp[M4,tC,tMm,Bd,E3,Hf,Bh]
 refine As e3 rfl ?_
 simp
 refine A4 e4 rfl ?_
 have fin2:∀ b:Bool,b=decide (m.addr.l.any (Qh c)=true\/m.data.l.any (Qh c)=true\/Qh c m.write=true)->(Ta m.addr.l 8=false)->(Ta m.data.l 32=false)->O2 c m=if b then 1 else 0:=by
  intro b hb h1 h2
  subst hb
  unfold O2
  rw[if_neg (by simp[h1,h2])]
  simp
 by_cases h1:Ta m.addr.l 8=true
 ·simp[h1,C2,O2]
 have h1':Ta m.addr.l 8=false:=by simpa using h1
 simp[h1']
 refine A4 e5 rfl ?_
 by_cases h2:Ta m.data.l 32=true
 ·simp[h2,C2,O2]
 have h2':Ta m.data.l 32=false:=by simpa using h2
 simp[h2']
 refine A4 e1 rfl ?_
 generalize m.addr.l.any (Qh c)=b1 at e1 fin2
 generalize m.data.l.any (Qh c)=b2 at e2 fin2
 generalize Qh c m.write=b3 at e6 fin2
 cases b1 with
 | true=>simp[C2,fin2 true (by simp) h1' h2']
 | false =>
  simp
  refine A4 e2 rfl ?_
  cases b2 with
  | true=>simp[C2,fin2 true (by simp) h1' h2']
  | false =>
   simp
   refine q1e e6 ?_
   cases b3 with
   | true=>simp[C2,fin2 true (by simp) h1' h2']
   | false=>simp[C2,fin2 false (by simp) h1' h2']
def q5g (l:List (List UInt8)):List (Value×T):=l.map fun s=>(sV s,tB true)
theorem qH3 (a b:List UInt8):Ky (sV a) (sV b)=decide (a=b):=by
 simp only[Ky,sV]
 by_cases h:a=b
 ·subst h;simp[q35]
 ·have:¬ (ByteArray.mk a.toArray)=⟨b.toArray⟩:=fun e=>h (by simpa using e)
  have h2:((ByteArray.mk a.toArray)==⟨b.toArray⟩)=false:=by
   cases hq:((ByteArray.mk a.toArray)==⟨b.toArray⟩)
   ·rfl
   ·exact absurd ((q35 _ _).1 hq) this
  rw[h2];simp[h]
theorem q5h (x:List UInt8):∀ l:List (List UInt8),Ew (sV x) (q5g l)=if x∈l then some (tB true)else none
 | []=>rfl
 | y::l=>by
  have ih:=q5h x l
  simp only[q5g,List.map_cons,Ew,qH3]at ih ⊢
  by_cases h:x=y
  ·simp[h]
  ·simp[h,ih]
theorem q7P (x:List UInt8):∀ l:List (List UInt8),x∉l->q32 (sV x) (tB true) (q5g l)=q5g (l++[x])
 | [],_=>rfl
 | y::l,h=>by
  have ih:=q7P x l (fun hm=>h (List.mem_cons_of_mem _ hm))
  have hne:x≠y:=fun e=>h (by simp[e])
  simp only[q5g,List.map_cons,q32,qH3,List.cons_append]at ih ⊢
  simp[hne,ih]
theorem qCr (l:List (List UInt8)):K1 .str (q5g l):=by
 intro e he;obtain⟨s,_,rfl⟩:=List.mem_map.1 he;rfl
def Js:List (List UInt8)->List (List UInt8)->Int
 | _,[]=>0
 | done,s::l=>if q1f s=false\/s∈done then 5 else Js (done++[s]) l
theorem q5i {Q:AX->St->Prop} (n:Sl (List UInt8)) (hl:n.l.length<=1000000000) (ha:∀ s∈n.l,∀ b∈s,b<128) (R:Int)
  (h0:R=0->∀ m:List (Value×T),Q (.exit 0) ⟨[(3,.lm 6),(8,.t (E3 n)),(9,.t (tI n.l.length)),(10,.t (tI n.l.length)),(11,.t (tB false))],[(6,.mp m)]⟩)
  (h5:R=5->Q .ret ⟨[(2,.t (tI 5))],[]⟩):∀ (k i:Nat),k+i=n.l.length->Js (n.l.take i) (n.l.drop i)=R ->
  run Tryz.prog Γ J6 Q ⟨[(3,.lm 6),(8,.t (E3 n)),(9,.t (tI n.l.length)),(10,.t (tI i))],[(6,.mp (q5g (n.l.take i)))]⟩
 | 0,i,h,hR=>by
  refine Om fun K hK=>?_
  have h2:¬ i<n.l.length:=by omega
  have h3:i=n.l.length:=by omega
  simp[h2,E3]
  subst h3
  refine h0 ?_ _
  rw[<- hR];simp[Js]
 | k+1,i,h,hR=>by
  refine Om fun K hK=>?_
  have h2:i<n.l.length:=by omega
  simp(disch:=omega) [h2,E3,A3,Ie ([]:List UInt8),Aa]
  refine A4 (q9K n.l[i] (ha _ (List.getElem_mem h2))) rfl ?_
  have hd:n.l.drop i=n.l[i]::n.l.drop (i+1):=List.drop_eq_getElem_cons h2
  rw[hd]at hR
  simp only[Js]at hR
  have ht:n.l.take i++[n.l[i]]=n.l.take (i+1):=by rw[List.take_add_one];simp[h2]
  by_cases hq:q1f n.l[i]=true
  ·have hfit:=qCr (n.l.take i)
   simp[hq,tS,KT.fits,sV,hfit]
   rw[show(Value.string ⟨(n.l[i]).toArray⟩)=sV n.l[i] from rfl,q5h]
   by_cases hm:n.l[i]∈n.l.take i
   ·simp[hm]
    refine h5 ?_
    rw[<- hR,if_pos (.inr hm)]
   ·rw[if_neg (by simp[hq,hm]),ht]at hR
    simp(disch:=omega) [hm,sV,KT.fits,hfit,A5]
    rw[hK]
    have:=q5i n hl ha R h0 h5 k (i+1) (by omega) hR
    rw[show(Value.string ⟨(n.l[i]).toArray⟩)=sV n.l[i] from rfl,q7P _ _ hm,ht]
    exact_mod_cast this
  ·have hq':q1f n.l[i]=false:=by simpa using hq
   simp[hq']
   refine h5 ?_
   rw[<- hR,if_pos (.inl hq')]
theorem qAg (c:Ee) (hc:CirOk c) (ha:∀ s∈c.names.l,∀ b∈s,b<128):A6 Tryz.prog Γ 116 [.agg (tC c)] (tI (Js [] c.names.l)):=by
 refine Af T9 rfl ?_
 simp[O0,tC,Bd,E3,Hf,Bh,A3]
 refine q5i c.names hc.names ha (Js [] c.names.l) (fun h m=>?_) (fun h=>?_) c.names.l.length 0 (by omega) (by simp)
 ·simp[J7,h]
 ·simp[J7,h]
def D8:List Int->Int
 | []=>0
 | e::l=>if e≠0 then e else D8 l
theorem q0z {α:Type} (f:α->Int) (l:List α) (i:Nat) (h:i<l.length):D8 ((l.drop i).map f)=if f l[i]≠0 then f l[i]else D8 ((l.drop (i+1)).map f):=by
 rw[List.drop_eq_getElem_cons h];rfl
theorem q4A {Q:AX->St->Prop} (hΓ:GOk Γ) (c:Ee) (hc:CirOk c) (R:Int)
  (h0:R=0->Q (.exit 1) ⟨[(1,.t (.ip (tC c) 0)),(36,.t (Bd c.nodes)),(37,.t (tI c.nodes.l.length)),(38,.t (tI c.nodes.l.length)),(39,.t (tB false))],[]⟩)
  (h5:R≠0->Q .ret ⟨[(2,.t (tI R))],[]⟩):∀ (k i:Nat),k+i=c.nodes.l.length->D8 ((c.nodes.l.drop i).map (Ea c))=R ->
  run Tryz.prog Γ J4 Q ⟨[(1,.t (.ip (tC c) 0)),(36,.t (Bd c.nodes)),(37,.t (tI c.nodes.l.length)),(38,.t (tI i))],[]⟩
 | 0,i,h,hR=>by
  refine Oj fun K hK=>?_
  have h2:¬ i<c.nodes.l.length:=by omega
  have h3:i=c.nodes.l.length:=by omega
  simp[h2]
  subst h3
  exact h0 (by rw[<- hR];simp[D8])
 | k+1,i,h,hR=>by
  refine Oj fun K hK=>?_
  have h2:i<c.nodes.l.length:=by omega
  have hn:=hc.nodes
  have hx:=List.getElem_mem h2
  rw[q0z (Ea c) _ _ h2]at hR
  have e:=qCo (Γ:=Γ) hΓ c c.nodes.l[i] hc (hc.kind _ hx) (hc.inn _ hx)
  simp(disch:=omega) [h2,Bd,Bq,L1 Nd.d,q2L,tNd,tC,Bh]
  refine A4 e rfl ?_
  by_cases hq:Ea c c.nodes.l[i]=0
  ·rw[if_neg (by simp[hq])]at hR
   simp(disch:=omega) [hq,A5]
   rw[hK]
   have:=q4A hΓ c hc R h0 h5 k (i+1) (by omega) hR
   simpa[tC,Bd,Bh]using this
  ·rw[if_pos (by simpa using hq)]at hR
   simp[hq]
   rw[hR]
   exact h5 (by rw[<- hR];exact hq)
theorem q5j {Q:AX->St->Prop} (c:Ee) (hc:CirOk c) (R:Int)
  (h0:R=0->Q (.exit 3) ⟨[(1,.t (.ip (tC c) 0)),(55,.t (Hf c.mems)),(56,.t (tI c.mems.l.length)),(57,.t (tI c.mems.l.length)),(58,.t (tB false))],[]⟩)
  (h5:R≠0->Q .ret ⟨[(2,.t (tI R))],[]⟩):∀ (k i:Nat),k+i=c.mems.l.length->D8 ((c.mems.l.drop i).map (O2 c))=R ->
  run Tryz.prog Γ J5 Q ⟨[(1,.t (.ip (tC c) 0)),(55,.t (Hf c.mems)),(56,.t (tI c.mems.l.length)),(57,.t (tI i))],[]⟩
 | 0,i,h,hR=>by
  refine Ol fun K hK=>?_
  have h2:¬ i<c.mems.l.length:=by omega
  have h3:i=c.mems.l.length:=by omega
  simp[h2]
  subst h3
  exact h0 (by rw[<- hR];simp[D8])
 | k+1,i,h,hR=>by
  refine Ol fun K hK=>?_
  have h2:i<c.mems.l.length:=by omega
  have hn:=hc.mems
  have hx:=List.getElem_mem h2
  rw[q0z (O2 c) _ _ h2]at hR
  have e:=q9L (Γ:=Γ) c c.mems.l[i] hc (hc.addr _ hx)
  simp(disch:=omega) [h2,Hf,Bq,L1 Mm.d,q2M,tMm,tC,Bh]
  refine A4 e rfl ?_
  by_cases hq:O2 c c.mems.l[i]=0
  ·rw[if_neg (by simp[hq])]at hR
   simp(disch:=omega) [hq,A5]
   rw[hK]
   have:=q5j c hc R h0 h5 k (i+1) (by omega) hR
   simpa[tC,Hf,Bh]using this
  ·rw[if_pos (by simpa using hq)]at hR
   simp[hq]
   rw[hR]
   exact h5 (by rw[<- hR];exact hq)
def E4 (c:Ee):Int :=
 if 16384<c.nodes.l.length\/16<c.mems.l.length\/16384<c.outs.l.length then 3 else if c.names.l.length≠c.nodes.l.length then 8
 else if D8 (c.nodes.l.map (Ea c))≠0 then D8 (c.nodes.l.map (Ea c))
 else if Js [] c.names.l≠0 then Js [] c.names.l
 else if D8 (c.mems.l.map (O2 c))≠0 then D8 (c.mems.l.map (O2 c))
 else if c.outs.l.any (Qh c)=true then 1 else 0
theorem qAh (hΓ:GOk Γ) (c:Ee) (hc:CirOk c) (ha:∀ s∈c.names.l,∀ b∈s,b<128):A6 Tryz.prog Γ 112 [.agg (tC c)] (tI (E4 c)):=by
 refine Af T8 rfl ?_
 have hn:=hc.nodes
 have hm:=hc.mems
 have ho:=hc.outs
 have hnn:=hc.names
 have en:=qAg (Γ:=Γ) c hc ha
 have eo:=Rj (Γ:=Γ) c
 have ec:=Ut (Γ:=Γ) c hn c.outs.l c.outs.cap c.outs.nl ho
 by_cases h1:16384<c.nodes.l.length\/16<c.mems.l.length\/16384<c.outs.l.length
 ·have:E4 c=3:=by unfold E4;rw[if_pos h1]
  rw[this]
  by_cases g1:(16384:Int)<c.nodes.l.length
  ·simp[D7,Bn,tC,Bd,E3,Hf,Bh,Bq,A3,g1]
  by_cases g2:(16:Int)<c.mems.l.length
  ·simp[D7,Bn,tC,Bd,E3,Hf,Bh,Bq,A3,g1,g2]
  have g3:(16384:Int)<c.outs.l.length:=by omega
  simp[D7,Bn,tC,Bd,E3,Hf,Bh,Bq,A3,g1,g2,g3]
 have g1:¬ (16384:Int)<c.nodes.l.length:=by omega
 have g2:¬ (16:Int)<c.mems.l.length:=by omega
 have g3:¬ (16384:Int)<c.outs.l.length:=by omega
 by_cases h2:c.names.l.length=c.nodes.l.length
 case neg =>
  have:E4 c=8:=by unfold E4;rw[if_neg h1,if_pos h2]
  have h2':¬ (c.names.l.length:Int)=c.nodes.l.length:=by omega
  rw[this]
  simp[D7,Bn,tC,Bd,E3,Hf,Bh,Bq,A3,g1,g2,g3,h2']
 simp[D7,tC,Bd,E3,Hf,Bh,Bq,A3,g1,g2,g3,h2]
 have e0:E4 c=if D8 (c.nodes.l.map (Ea c))≠0 then D8 (c.nodes.l.map (Ea c))
   else if Js [] c.names.l≠0 then Js [] c.names.l
   else if D8 (c.mems.l.map (O2 c))≠0 then D8 (c.mems.l.map (O2 c))
   else if c.outs.l.any (Qh c)=true then 1 else 0:=by
  unfold E4;rw[if_neg h1,if_neg (by simp[h2])]
 refine q4A hΓ c hc (D8 (c.nodes.l.map (Ea c))) (fun h3=>?_) (fun h3=>?_) c.nodes.l.length 0 (by omega) (by simp)
 case refine_2 =>
  rw[if_pos h3]at e0
  simp[Bn,e0]
 rw[if_neg (by rw[h3];decide)]at e0
 simp[tC,Bd,E3,Hf,Bh]
 refine A4 en rfl ?_
 by_cases h4:Js [] c.names.l=0
 case neg =>
  rw[if_pos h4]at e0
  simp[h4,Bn,e0]
 rw[if_neg (by rw[h4];decide)]at e0
 simp[h4,Bq]
 refine q5j c hc (D8 (c.mems.l.map (O2 c))) (fun h5=>?_) (fun h5=>?_) c.mems.l.length 0 (by omega) (by simp)
 case refine_2 =>
  rw[if_pos h5]at e0
  simp[Bn,e0]
 rw[if_neg (by rw[h5];decide)]at e0
 simp[tC,Bd,E3,Hf,Bh]
 refine As eo rfl ?_
 simp
 refine A4 ec rfl ?_
 generalize c.outs.l.any (Qh c)=b at e0
 cases b<;>simp[Bn,e0]
def ofL (ks:List Int):List Nd->Nat->List Int
 | [],_=>[]
 | x::l,i=>if ks.contains x.k then(i:Int)::ofL ks l (i+1)else ofL ks l (i+1)
abbrev Kw:=List (Int×Int)
def tLn (p:Int×Int):List T:=[tI p.1,tI p.2]
def q5k (i:Nat) (r:Kw):AV:=if r=[]then .t (.sl [] (some 0) (some true))else .ls (100000+i) 0 r.length none
def Bw (rows:List Kw):List AV:=rows.mapIdx q5k
def Jt (rows:List Kw) (id:Nat):Option Aj:=match rows[id-100000]? with
 | some r=>if r=[]then none else some (.sl 54 2 (L0 tLn r))
 | none=>none
def Ju (k:Nat) (g:Nat->Option Aj):List (Nat×Aj):=(List.range' 100000 k).filterMap fun id=>(g id).map fun r=>(id,r)
def C3 (rows:List Kw):List (Nat×Aj):=Ju 16384 (Jt rows)
theorem q5l {α β:Type} {f g:α->Option β}:∀ {l:List α},(∀ x∈l,f x=g x)->l.filterMap f=l.filterMap g
 | [],_=>rfl
 | x::l,h=>by
  rw[List.filterMap_cons,List.filterMap_cons,h x List.mem_cons_self,q5l (l:=l) fun y hy=>h y (List.mem_cons_of_mem _ hy)]
theorem qG7 {l:List Nat} {g:Nat->Option Aj} {t:Nat}:A2 (l.filterMap fun id=>(g id).map fun r=>(id,r)) t=if t∈l then g t else none:=by
 induction l with
 | nil=>simp[A2]
 | cons k l ih =>
  rw[List.filterMap_cons]
  cases hg:g k with
  | none =>
   simp only[Option.map_none,ih]
   by_cases h:t=k
   ·subst h;simp[hg]
   ·simp[h]
  | some r =>
   simp only[Option.map_some,A2,ih]
   by_cases h:k=t
   ·subst h;simp[hg]
   ·simp[h,Ne.symm h]
theorem M7 {k:Nat} {g:Nat->Option Aj} {t:Nat}:A2 (Ju k g) t=if 100000<=t/\t<100000+k then g t else none:=by
 unfold Ju;rw[qG7]
 by_cases h:100000<=t/\t<100000+k
 ·rw[if_pos h,if_pos (by rw[List.mem_range'_1];exact h)]
 ·rw[if_neg h,if_neg (by rw[List.mem_range'_1];exact h)]
theorem q7Q {rows:List Kw} {l:List (Nat×Aj)} (h:∀ t∈List.range' 100000 16384,A2 l t=Jt rows t):Lg.keep (List.range' 100000 16384) l=C3 rows:=by
 unfold Lg.keep C3 Ju
 exact q5l fun t ht=>by rw[h t ht]
theorem q3P {env:List (Nat×AV)} {hp:List (Nat×Aj)} {ks:List Nat} {rows:List Kw} (hk:(hp.map (·.1)).filter (fun id=>!([14]:List Nat).contains id && !(decide (100000<=id)&&decide (id<100000+16384)))=[])
  (h14:A2 hp 14=some (.bx (Bw rows))) (hr:∀ t,100000<=t->t<116384->A2 hp t=Jt rows t) :
  Gh.run (.keepB ks [14] 100000 16384) ⟨env,hp⟩=⟨Lg.keep ks env,(14,.bx (Bw rows))::C3 rows⟩:=by
 simp only[Gh.run,q4n,hk,Ej,q3I,h14,q5U,List.cons_append,List.nil_append]
 congr 2
 simp only[Lg.keep,C3,Ju]
 refine q5l fun t ht=>?_
 rw[List.mem_range'_1]at ht
 rw[hr t ht.1 (by omega)]
theorem Wc {k:Nat} {g:Nat->Option Aj}:∀ p∈Ju k g,100000<=p.1/\p.1<100000+k:=by
 intro p hp
 obtain⟨id,hid,he⟩:=List.mem_filterMap.1 hp
 rw[List.mem_range'_1]at hid
 cases hg:g id with
 | none=>rw[hg]at he;cases he
 | some r=>rw[hg]at he;simp at he;subst he;exact hid
theorem q4B {rows:List Kw}:((C3 rows).map (·.1)).filter (fun id=>!([14]:List Nat).contains id && !(decide (100000<=id)&&decide (id<100000+16384)))=[]:=by
 rw[List.filter_eq_nil_iff]
 intro id hid
 obtain⟨p,hp,rfl⟩:=List.mem_map.1 hid
 have:=Wc p hp
 simp[this.1,this.2]
theorem q0h {rows:List Kw} {t:Nat}:A2 ((14,.bx (Bw rows))::C3 rows) t=if t=14 then some (.bx (Bw rows))else if 100000<=t/\t<116384 then Jt rows t else none:=by
 simp only[A2,C3,M7]
 by_cases h:t=14
 ·simp[h]
 ·simp[h,Ne.symm h]
theorem Rk {env:List (Nat×AV)} {ks:List Nat} {rows:List Kw}:Gh.run (.keepB ks [14] 100000 16384) ⟨env,(14,.bx (Bw rows))::C3 rows⟩=⟨Lg.keep ks env,(14,.bx (Bw rows))::C3 rows⟩:=by
 refine q3P ?_ (by simp[A2]) fun t h1 h2=>?_
 ·rw[List.map_cons,List.filter_cons];simp only[q4B];simp
 ·rw[q0h,if_neg (by omega),if_pos ⟨h1,h2⟩]
theorem q89 {id:Nat} (h:id<100000) (rows:List Kw):(Bw rows).map (Ae id)=Bw rows:=by
 apply List.ext_getElem?
 intro i
 simp only[Bw,List.getElem?_map,List.getElem?_mapIdx,Option.map_map]
 cases rows[i]? with
 | none=>rfl
 | some r =>
  simp only[Option.map_some,Function.comp_def,q5k]
  split
  ·rfl
  ·simp only[Ae,kill1];rw[if_neg (by omega)]
theorem qG8 {env:List (Nat×AV)} {ks:List Nat} {rows:List Kw} {q:Aj}:Gh.run (.keepB ks [14] 100000 16384) ⟨env,(6,q)::(14,.bx (Bw rows))::C3 rows⟩=⟨(Lg.keep ks env).map (fun p=>(p.1,Ae 6 p.2)),(14,.bx (Bw rows))::C3 rows⟩:=by
 have hk:(((6,q)::(14,Aj.bx (Bw rows))::C3 rows).map (·.1)).filter (fun id=>!([14]:List Nat).contains id && !(decide (100000<=id)&&decide (id<100000+16384)))=[6]:=by
  rw[List.map_cons,List.map_cons,List.filter_cons,List.filter_cons];simp only[q4B];simp
 have hl:∀ t,t≠6->A2 (St.kill 6 ⟨Lg.keep ks env,(6,q)::(14,.bx (Bw rows))::C3 rows⟩).hp t=A2 ((14,.bx (Bw rows))::C3 rows) t:=by
  intro t ht
  rw[Ru,if_neg ht]
  show(A2 ((6,q)::(14,.bx (Bw rows))::C3 rows) t).map _=_
  rw[A2,if_neg (Ne.symm ht),q0h]
  by_cases h:t=14
  ·simp[h,G1,q89]
  ·simp only[h,↓reduceIte]
   split
   ·unfold Jt
    split
    ·split<;>simp[G1]
    ·rfl
   ·rfl
 simp only[Gh.run,q4n,hk,Ej,q3I,q5U,List.cons_append,List.nil_append]
 rw[hl 14 (by omega)]
 simp only[A2,↓reduceIte,List.cons_append,List.nil_append]
 congr 2
 refine q7Q fun t ht=>?_
 rw[List.mem_range'_1]at ht
 rw[hl t (by omega),q0h,if_neg (by omega),if_pos ⟨ht.1,by omega⟩]
def H7 (rows:List Kw) (n:Nat) (p:Int×Int):List Kw:=rows.set n (rows.getD n []++[p])
theorem q1g {rows:List Kw} {n:Nat} {p:Int×Int}:(H7 rows n p).length=rows.length:=by simp[H7]
theorem qCs {env:List (Nat×AV)} {ks:List Nat} {rows:List Kw} {n:Nat} {p:Int×Int} {hp:List (Nat×Aj)} {cs:List AV} (hn:n<rows.length) (hn2:rows.length<=16384)
  (hlen:cs.length=rows.length) (hcs:∀ i,i≠n->cs[i]? = (Bw rows)[i]?) (hc:cs[n]? = some (.ls 47 0 ((rows.getD n []).length+1) none)) (h47:A2 hp 47=some (.sl 54 2 (L0 tLn (rows.getD n []++[p])))) (h14:A2 hp 14=some (.bx cs))
  (hno:A2 hp (100000+n)=none) (hoth:∀ t,100000<=t->t<116384->t≠100000+n->A2 hp t=Jt rows t) (hkeys:∀ q∈hp,q.1=47\/q.1=14\/(100000<=q.1/\q.1<116384)) :
  Gh.run (.keepB ks [14] 100000 16384) (Fp 47 (100000+n) ⟨env,hp⟩)=⟨(Lg.keep ks (env.map fun q=>(q.1,Ag (Ed 47 (100000+n)) q.2))),(14,.bx (Bw (H7 rows n p)))::C3 (H7 rows n p)⟩:=by
 have hr:Fp 47 (100000+n) ⟨env,hp⟩=⟨env.map fun q=>(q.1,Ag (Ed 47 (100000+n)) q.2),Nl 47 (100000+n) hp⟩:=by
  unfold Fp
  rw[if_pos]
  simp[hno,h47];omega
 rw[hr]
 have hget:∀ i,(H7 rows n p)[i]? = if i=n then some (rows.getD n []++[p])else rows[i]? := by
  intro i
  unfold H7
  rw[List.getElem?_set]
  by_cases h:n=i
  ·subst h;simp[hn]
  ·simp[h,Ne.symm h]
 have hl:=fun t=>q1X (a:=47) (b:=100000+n) (t:=t) hno (by omega)
 refine q3P ?_ ?_ fun t h1 h2=>?_
 ·rw[List.filter_eq_nil_iff]
  intro id hid
  have:id=100000+n\/id≠47/\∃ q∈hp,q.1=id:=by
   clear hl hr hno hoth h14 h47
   induction hp with
   | nil=>simp[Nl]at hid
   | cons q l ih =>
    obtain⟨k,r⟩:=q
    simp only[Nl,List.map_cons,List.mem_cons]at hid
    rcases hid with hid|hid
    ·by_cases h:k=47
     ·left;simpa[h]using hid
     ·right;simp[h]at hid;subst hid;exact⟨h,_,List.mem_cons_self,rfl⟩
    ·rcases ih (fun q hq=>hkeys q (List.mem_cons_of_mem _ hq)) hid with h|⟨h,q,hq,e⟩
     ·exact .inl h
     ·exact .inr ⟨h,q,List.mem_cons_of_mem _ hq,e⟩
  rcases this with h|⟨h,q,hq,rfl⟩
  ·subst h;simp;intro _;omega
  ·rcases hkeys q hq with e|e|⟨e1,e2⟩
   ·exact absurd e h
   ·simp[e]
   ·simp;intro _;omega
 ·rw[hl,if_neg (by omega),if_neg (by omega),h14]
  simp only[Option.map_some,Bj,Option.some.injEq,Aj.bx.injEq]
  apply List.ext_getElem?
  intro i
  simp only[List.getElem?_map,Bw,List.getElem?_mapIdx]
  rw[hget]
  by_cases h:i=n
  ·subst h
   rw[hc]
   have:¬ (rows.getD i []++[p]=[]):=by simp
   simp only[↓reduceIte,Option.map_some,Option.some.injEq]
   unfold q5k
   rw[if_neg this]
   simp[Ag,ren1,ren0,Ed]
  ·rw[hcs i h,if_neg h]
   simp only[Bw,List.getElem?_mapIdx,Option.map_map]
   cases hrow:rows[i]? with
   | none=>rfl
   | some r =>
    simp only[Option.map_some,Function.comp_def,q5k,Option.some.injEq]
    split
    ·rfl
    ·simp only[Ag,ren1,ren0,Ed];rw[if_neg (by omega)]
 ·rw[hl]
  by_cases h:t=100000+n
  ·rw[if_pos h,h47]
   subst h
   unfold Jt
   rw[show 100000+n-100000=n by omega,hget,if_pos rfl]
   simp[Bj]
  ·rw[if_neg h,if_neg (by omega),hoth t h1 h2 h]
   unfold Jt
   rw[hget,if_neg (by omega)]
   cases rows[t-100000]? with
   | none=>rfl
   | some r=>simp only;split<;>simp[Bj]
def q3Q (k i:Nat) (r:Kw):AV:=if r=[]then .t (.sl [] (some 0) (some true))else if k<=i then .t (.sl (L0 tLn r) none none)else .ls (100000+i) 0 r.length none
theorem qEG {env:List (Nat×AV)} {rows:List Kw} (he:∀ id r,100000<=id->∀ p∈env,Ce id r p.2=p.2) (k:Nat):St.freeze (100000+k) ⟨env,(14,.bx (rows.mapIdx (q3Q (k+1))))::Ju (k+1) (Jt rows)⟩=⟨env,(14,.bx (rows.mapIdx (q3Q k)))::Ju k (Jt rows)⟩:=by
 have hsplit:Ju (k+1) (Jt rows)=Ju k (Jt rows)++(match Jt rows (100000+k) with|some r=>[(100000+k,r)] | none=>[]):=by
  unfold Ju
  rw[<- List.range'_append (s:=100000) (m:=k) (n:=1) (step:=1)]
  rw[List.filterMap_append]
  congr 1
  cases hr:Jt rows (100000+k)<;>simp[hr]
 have hl:A2 ((14,Aj.bx (rows.mapIdx (q3Q (k+1))))::Ju (k+1) (Jt rows)) (100000+k)=Jt rows (100000+k):=by
  rw[A2,if_neg (by omega),M7,if_pos (by omega)]
 simp only[St.freeze,hl]
 cases hr:Jt rows (100000+k) with
 | none =>
  rw[hr]at hsplit
  simp only[hsplit,List.append_nil]
  refine congrArg (fun l=>(⟨env,(14,Aj.bx l)::Ju k (Jt rows)⟩:St)) ?_
  apply List.ext_getElem?
  intro i
  simp only[List.getElem?_mapIdx]
  cases hi:rows[i]? with
  | none=>rfl
  | some r =>
   simp only[Option.map_some,q3Q]
   by_cases h0:r=[]
   ·simp[h0]
   ·by_cases hik:i=k
    ·subst hik
     unfold Jt at hr
     rw[show 100000+i-100000=i by omega,hi]at hr
     simp[h0]at hr
    ·have:(k+1<=i)=(k<=i):=by apply propext;omega
     simp[this]
 | some q =>
  obtain⟨r,hrow,hne,rfl⟩:∃ r,rows[k]? = some r/\r≠[]/\q=.sl 54 2 (L0 tLn r):=by
   unfold Jt at hr
   rw[show 100000+k-100000=k by omega]at hr
   split at hr
   ·rename_i r h
    split at hr
    ·cases hr
    ·rename_i hne;simp only[Option.some.injEq]at hr;exact⟨r,h,hne,hr.symm⟩
   ·cases hr
  rw[hr]at hsplit
  simp only[Aj.closed,↓reduceIte]
  have e1:env.map (fun p=>(p.1,Ce (100000+k) (.sl 54 2 (L0 tLn r)) p.2))=env:=by
   conv=>rhs;rw[<- List.map_id env]
   refine List.map_congr_left fun p hp=>?_
   rw[he _ _ (by omega) p hp];rfl
  have e2:del (100000+k) ((14,Aj.bx (rows.mapIdx (q3Q (k+1))))::Ju (k+1) (Jt rows))=(14,Aj.bx (rows.mapIdx (q3Q (k+1))))::Ju k (Jt rows):=by
   rw[hsplit]
   unfold del
   rw[List.filter_cons,if_pos (by simp;omega),List.filter_append]
   congr 1
   have h1:(Ju k (Jt rows)).filter (fun p=>p.1 != 100000+k)=Ju k (Jt rows):=by
    rw[List.filter_eq_self]
    intro p hp
    have:=Wc p hp
    simp;omega
   rw[h1];simp
  rw[e1,e2]
  have e3:(Ju k (Jt rows)).map (fun p=>(p.1,Hl (100000+k) (.sl 54 2 (L0 tLn r)) p.2))=Ju k (Jt rows):=by
   conv=>rhs;rw[<- List.map_id (Ju k (Jt rows))]
   refine List.map_congr_left fun p hp=>?_
   obtain⟨id,hid,hee⟩:=List.mem_filterMap.1 hp
   cases hg:Jt rows id with
   | none=>rw[hg]at hee;cases hee
   | some q =>
    rw[hg]at hee
    simp only[Option.map_some,Option.some.injEq]at hee;subst hee
    unfold Jt at hg
    split at hg
    ·split at hg
     ·cases hg
     ·simp only[Option.some.injEq]at hg;subst hg;rfl
    ·cases hg
  rw[List.map_cons,e3]
  refine congrArg (fun l=>(⟨env,(14,Aj.bx l)::Ju k (Jt rows)⟩:St)) ?_
  apply List.ext_getElem?
  intro i
  simp only[List.getElem?_map,List.getElem?_mapIdx,Option.map_map]
  cases hi:rows[i]? with
  | none=>rfl
  | some r' =>
   simp only[Option.map_some,Function.comp_def,q3Q]
   by_cases h0:r'=[]
   ·simp[h0,Ce,frz1,frz0]
   ·simp only[h0,↓reduceIte]
    by_cases hik:i=k
    ·subst hik
     rw[hrow]at hi;cases hi
     rw[if_neg (by omega),if_pos (Nat.le_refl _)]
     simp[Ce,frz1,frz0,Aq,A2]
    ·by_cases hlt:k+1<=i
     ·rw[if_pos hlt,if_pos (by omega)];rfl
     ·rw[if_neg hlt,if_neg (by omega)]
      simp only[Ce,frz1,frz0]
      rw[if_neg (by omega)]
theorem qBo {env:List (Nat×AV)} {rows:List Kw} (he:∀ id r,100000<=id->∀ p∈env,Ce id r p.2=p.2):∀ k,qAQ 100000 k ⟨env,(14,.bx (rows.mapIdx (q3Q k)))::Ju k (Jt rows)⟩=⟨env,(14,.bx (rows.mapIdx (q3Q 0)))::[]⟩
 | 0=>by simp[qAQ,Ju]
 | k+1=>by
  rw[qAQ,qEG he k]
  exact qBo he k
def q6Z (r:Kw):T:=if r=[]then .sl [] (some 0) (some true)else .sl (L0 tLn r) none none
theorem qEH {env:List (Nat×AV)} {rows:List Kw} (hl:rows.length<=16384) (he:∀ id r,100000<=id->∀ p∈env,Ce id r p.2=p.2):Gh.run (.frzs 100000 16384) ⟨env,(14,.bx (Bw rows))::C3 rows⟩=⟨env,[(14,.bx (rows.map fun r=>.t (q6Z r)))]⟩:=by
 have h1:Bw rows=rows.mapIdx (q3Q 16384):=by
  apply List.ext_getElem?
  intro i
  simp only[Bw,List.getElem?_mapIdx]
  cases hi:rows[i]? with
  | none=>rfl
  | some r =>
   have:=(List.getElem?_eq_some_iff.1 hi).1
   simp only[Option.map_some,q5k,q3Q]
   rw[if_neg (show ¬ 16384<=i by omega)]
 have h2:rows.mapIdx (q3Q 0)=rows.map fun r=>.t (q6Z r):=by
  apply List.ext_getElem?
  intro i
  simp only[List.getElem?_mapIdx,List.getElem?_map]
  cases rows[i]? with
  | none=>rfl
  | some r =>
   simp only[Option.map_some,q3Q,q6Z,Nat.zero_le,↓reduceIte]
   split<;>rfl
 have:=qBo (rows:=rows) he 16384
 rw[h2]at this
 simp only[Gh.run,h1,C3]
 exact this
theorem P6 {rows:List Kw}:(Bw rows).length=rows.length:=by simp[Bw]
theorem qEI {rows:List Kw} {n:Nat} (h:n<rows.length):((Bw rows).drop n).take 1=[q5k n (rows.getD n [])]:=by
 have:(Bw rows).drop n=q5k n (rows.getD n [])::(Bw rows).drop (n+1):=by
  rw[List.drop_eq_getElem_cons (by rw[P6];exact h)]
  simp[Bw,h]
 rw[this];rfl
theorem q8A {l:Kw}:Gk 2 (L0 tLn l):=q5a fun _=>rfl
theorem qIf {Q:AX->St->Prop} (rows:List Kw) (n:Nat) (hn:n<rows.length) (hn2:rows.length<=16384) (i k:Int) (hr:(rows.getD n []).length<=1000000000) (t4 t18 t19 t20 t26 t27 t28 t36:T) (m:Nat) (hm:m=rows.length)
  (h:Q .normal ⟨[(3,.lb 14 m),(4,.t t4),(5,.t (tI i)),(18,.t t18),(19,.t t19),(20,.t t20),(26,.t t26),(27,.t t27),(28,.t t28)],(14,.bx (Bw (H7 rows n (i,k))))::C3 (H7 rows n (i,k))⟩) :
  Fv Tryz.prog Γ Db ⟨[(3,.lb 14 m),(4,.t t4),(5,.t (tI i)),(7,.t (tI k)),(8,.t (tI n)),(18,.t t18),(19,.t t19),(20,.t t20),(26,.t t26),(27,.t t27),(28,.t t28),(36,.t t36)],(14,.bx (Bw rows))::C3 rows⟩
   (fun s1=>Q .normal (ghs [.renS 47 100000 8,.keepB [3,4,5,18,19,20,26,27,28] [14] 100000 16384] s1)) ⟨⟩:=by
 subst hm
 have hw:Gk 2 [[tI i,tI k]]:=by intro e he;simp at he;subst he;rfl
 have hlk47:A2 (C3 rows) 47=none:=by rw[C3,M7,if_neg (by omega)]
 have hat:=qEI hn
 have hlk:A2 (C3 rows) (100000+n)=if rows.getD n []=[]then none else some (.sl 54 2 (L0 tLn (rows.getD n []))):=by
  rw[C3,M7,if_pos (by omega)]
  unfold Jt
  rw[show 100000+n-100000=n by omega,List.getElem?_eq_getElem hn]
  simp[hn]
 have hadd:H7 rows n (i,k)=rows.set n (rows.getD n []++[(i,k)]):=rfl
 have fin:=@qCs
 generalize hrow:rows.getD n []=row at hr hat hlk hadd
 have hlen1:n+1<=rows.length:=hn
 have hset:∀ (j:Nat),j≠n->∀ (l:List AV) (x:AV),l.length=rows.length->(l.take n++x::l.drop (n+1))[j]? = l[j]? := by
  intro j hj l x hl
  rw[List.getElem?_append]
  by_cases hlt:j<n
  ·rw[if_pos (by simp;omega),List.getElem?_take,if_pos hlt]
  ·rw[if_neg (by simp;omega)]
   have e:(l.take n).length=n:=by simp;omega
   rw[e,show j-n=(j-n-1)+1 by omega,List.getElem?_cons_succ,List.getElem?_drop]
   congr 1;omega
 have hseta:∀ (l:List AV) (x:AV),l.length=rows.length->(l.take n++x::l.drop (n+1))[n]? = some x:=by
  intro l x hl
  rw[List.getElem?_append,if_neg (by simp;omega)]
  have e:(l.take n).length=n:=by simp;omega
  rw[e];simp
 by_cases h0:row=[]
 ·subst h0
  simp only[q5k,↓reduceIte]at hat hlk
  simp(disch:=omega) [-Gh.run,Et,hat,P6,hn,hw,hlk47,hlen1]
  rw[show ∀ st,A2 st.env 8=some (.t (tI n))->(Gh.renS 47 100000 8).run st=Fp 47 (100000+n) st from fun st hs=>by simp[Gh.run,hs]]
  rw[fin (p:=(i,k)) hn hn2 (by simp[P6];omega) (fun j hj=>hset j hj _ _ P6) (by rw[hseta _ _ P6,hrow];first|done|rfl) (by rw[hrow];first|done|rfl) (by simp[A2]) (by rw[A2,if_neg (by omega),A2,if_neg (by omega)];exact hlk) (fun t h1 h2 h3=>?_) (fun q hq=>?_)]
  ·simpa[Ag,ren1,ren0,Ed]using h
  ·rw[A2,if_neg (by omega),A2,if_neg (by omega),C3,M7,if_pos (by omega)]
  ·rcases List.mem_cons.1 hq with rfl|hq
   ·exact .inl rfl
   ·rcases List.mem_cons.1 hq with rfl|hq
    ·exact .inr (.inl rfl)
    ·have:=Wc q hq;exact .inr (.inr (by omega))
  ·rfl
 ·simp only[q5k,h0,↓reduceIte]at hat hlk
  have h14:¬ 14=100000+n:=by omega
  have htl:∀ t,A2 ((C3 rows).filter fun p=>p.1 != 100000+n) t=if t=100000+n then none else A2 (C3 rows) t:=fun t=>q24 (100000+n) (C3 rows) t
  have hkl:∀ l:List (Nat×Aj),(∀ p∈l,p∈C3 rows)->l.map (fun p=>(p.1,G1 (100000+n) p.2))=l:=by
   intro l hl
   conv=>rhs;rw[<- List.map_id l]
   refine List.map_congr_left fun p hp=>?_
   obtain⟨id,hid,hee⟩:=List.mem_filterMap.1 (hl p hp)
   cases hg:Jt rows id with
   | none=>rw[hg]at hee;cases hee
   | some q =>
    rw[hg]at hee
    simp only[Option.map_some,Option.some.injEq]at hee;subst hee
    unfold Jt at hg
    split at hg
    ·split at hg
     ·cases hg
     ·simp only[Option.some.injEq]at hg;subst hg;rfl
    ·cases hg
  have hk:(del (100000+n) ((14,Aj.bx (Bw rows))::C3 rows)).map (fun p=>(p.1,G1 (100000+n) p.2))=(14,.bx ((Bw rows).map (Ae (100000+n))))::(C3 rows).filter fun p=>p.1 != 100000+n:=by
   have e:del (100000+n) ((14,Aj.bx (Bw rows))::C3 rows)=(14,Aj.bx (Bw rows))::(C3 rows).filter fun p=>p.1 != 100000+n:=by
    unfold del
    rw[List.filter_cons,if_pos (by simp;omega)]
   rw[e,List.map_cons,hkl _ (fun p hp=>(List.mem_filter.1 hp).1)]
   rfl
  have hl47:A2 ((C3 rows).filter fun p=>p.1 != 100000+n) 47=none:=by rw[htl,if_neg (by omega)];exact hlk47
  generalize htail:(C3 rows).filter (fun p=>p.1 != 100000+n)=tl at htl hk hl47
  have hkeys:∀ q∈tl,100000<=q.1/\q.1<116384:=by
   intro q hq
   rw[<- htail]at hq
   have:=Wc q (List.mem_filter.1 hq).1
   omega
  have hcs:∀ j,j≠n->((Bw rows).map (Ae (100000+n)))[j]? = (Bw rows)[j]? := by
   intro j hj
   simp only[Bw,List.getElem?_map,List.getElem?_mapIdx,Option.map_map]
   cases rows[j]? with
   | none=>rfl
   | some r =>
    simp only[Option.map_some,Function.comp_def,q5k]
    split
    ·rfl
    ·simp only[Ae,kill1];rw[if_neg (by omega)]
  have hcl:((Bw rows).map (Ae (100000+n))).length=rows.length:=by simp[P6]
  simp(disch:=omega) [-Gh.run,Et,-del,-G1,hat,P6,hn,hw,hlk,hlen1,Bq,q8A,h14,hk,hl47]
  refine⟨by omega,?_⟩
  rw[show ∀ st,A2 st.env 8=some (.t (tI n))->(Gh.renS 47 100000 8).run st=Fp 47 (100000+n) st from fun st hs=>by simp[Gh.run,hs]]
  ·rw[fin (p:=(i,k)) hn hn2 (by simp[hcl];omega) (fun j hj=>(hset j hj _ _ hcl).trans (hcs j hj)) (by rw[hseta _ _ hcl,hrow]) (by rw[hrow];simp[A2];rw[show[tI i,tI k]=tLn (i,k) from rfl,qCn]) (by simp[A2]) (by rw[A2,if_neg (by omega),A2,if_neg (by omega),htl,if_pos rfl]) (fun t h1 h2 h3=>?_) (fun q hq=>?_)]
   ·simpa[Ag,ren1,ren0,Ed]using h
   ·rw[A2,if_neg (by omega),A2,if_neg (by omega),htl,if_neg h3,C3,M7,if_pos (by omega)]
   ·rcases List.mem_cons.1 hq with rfl|hq
    ·exact .inl rfl
    ·rcases List.mem_cons.1 hq with rfl|hq
     ·exact .inr (.inl rfl)
     ·exact .inr (.inr (hkeys q hq))
  ·rfl
def Jb (c:Ee) (i:Nat):List Int->Nat->List Kw->List Kw
 | [],_,rows=>rows
 | n::l,k,rows=>Jb c i l (k+1) (if Qh c n then rows else H7 rows n.toNat (i,k))
def G7 (c:Ee):List Nd->Nat->List Kw->List Kw
 | [],_,rows=>rows
 | x::l,i,rows=>G7 c l (i+1) (Jb c i x.inn.l 0 rows)
def RB (rows:List Kw) (B:Nat):Prop:=∀ r∈rows,r.length<=B
theorem RB.add {rows:List Kw} {B n:Nat} {p:Int×Int} (h:RB rows B):RB (H7 rows n p) (B+1):=by
 intro r hr
 unfold H7 at hr
 by_cases hn:n<rows.length
 ·rcases List.mem_or_eq_of_mem_set hr with hr|rfl
  ·have:=h r hr;omega
  ·have:(rows.getD n []).length<=B:=by
    have e:rows.getD n []=rows[n]:=by simp[hn]
    rw[e];exact h _ (List.getElem_mem hn)
   simp at this ⊢;omega
 ·rw[List.set_eq_of_length_le (by omega)]at hr
  have:=h r hr;omega
theorem RB.mono {rows:List Kw} {B C:Nat} (h:RB rows B) (hc:B<=C):RB rows C:=fun r hr=>Nat.le_trans (h r hr) hc
theorem RB.at {rows:List Kw} {B:Nat} (h:RB rows B) (n:Nat):(rows.getD n []).length<=B:=by
 by_cases hn:n<rows.length
 ·have e:rows.getD n []=rows[n]:=by simp[hn]
  rw[e];exact h _ (List.getElem_mem hn)
 ·simp[List.getD,List.getElem?_eq_none (Nat.not_lt.1 hn)]
theorem Tc (c:Ee) (i:Nat):∀ (l:List Int) (k:Nat) (rows:List Kw) (B:Nat),RB rows B->(Jb c i l k rows).length=rows.length/\RB (Jb c i l k rows) (B+l.length)
 | [],k,rows,B,h=>⟨rfl,h⟩
 | n::l,k,rows,B,h=>by
  simp only[Jb,List.length_cons]
  split
  ·have:=Tc c i l (k+1) rows B h
   exact⟨this.1,this.2.mono (by omega)⟩
  ·have:=Tc c i l (k+1) _ (B+1) (h.add (n:=n.toNat) (p:=(i,k)))
   exact⟨this.1.trans q1g,this.2.mono (by omega)⟩
theorem q3R {Q:AX->St->Prop} (c:Ee) (hn:c.nodes.l.length<=16384) (i:Nat) (s:Sl Int) (hs:s.l.length<=1000000000) (R:List Kw)
  (h0:Q (.exit 2) ⟨[(3,.lb 14 c.nodes.l.length),(4,.t (.fn 127 [.ip (tC c) 0])),(5,.t (tI i)),(18,.t (Bd c.nodes)),(19,.t (tI c.nodes.l.length)),(20,.t (tI i)),(26,.t (Bh s)),(27,.t (tI s.l.length)),(28,.t (tI s.l.length)),(29,.t (tB false))],(14,.bx (Bw R))::C3 R⟩) :
  ∀ (kk k:Nat) (rows:List Kw),kk+k=s.l.length->rows.length=c.nodes.l.length->(∀ n,(rows.getD n []).length+kk<=1000000000)->Jb c i (s.l.drop k) k rows=R ->
  run Tryz.prog Γ Hr Q ⟨[(3,.lb 14 c.nodes.l.length),(4,.t (.fn 127 [.ip (tC c) 0])),(5,.t (tI i)),(18,.t (Bd c.nodes)),(19,.t (tI c.nodes.l.length)),(20,.t (tI i)),(26,.t (Bh s)),(27,.t (tI s.l.length)),(28,.t (tI k))],(14,.bx (Bw rows))::C3 rows⟩
 | 0,k,rows,h,hl,hb,hR=>by
  refine Nv fun K hK=>?_
  have h2:¬ k<s.l.length:=by omega
  have h3:k=s.l.length:=by omega
  simp[h2,-Gh.run,Et,Rk]
  subst h3
  rw[List.drop_of_length_le (Nat.le_refl _)]at hR
  simp only[Jb]at hR
  subst hR
  exact h0
 | kk+1,k,rows,h,hl,hb,hR=>by
  refine Nv fun K hK=>?_
  have h2:k<s.l.length:=by omega
  rw[List.drop_eq_getElem_cons h2]at hR
  simp only[Jb]at hR
  have e:=Vp (Γ:=Γ) c s.l[k] (by omega)
  simp(disch:=omega) [h2,-Gh.run,Et,Rk,-Db,Bh,A3,Ie (0:Int),Aa]
  refine q1e e ?_
  by_cases ho:Qh c s.l[k]=true
  ·rw[if_pos ho]at hR
   simp(disch:=omega) [ho,-Gh.run,Et,Rk,-Db,A5]
   rw[hK]
   have:=q3R c hn i s hs R h0 kk (k+1) rows (by omega) hl (fun n=>by have:=hb n;omega) hR
   simpa[Bh]using this
  ·have ho':Qh c s.l[k]=false:=by simpa using ho
   rw[if_neg ho]at hR
   have hr:=q2O (c:=c) (l:=[s.l[k]]) (by simp[ho']) s.l[k] (by simp)
   simp(disch:=omega) [ho',-Gh.run,Et,Rk,-Db]
   have hz:((s.l[k]).toNat:Int)=s.l[k]:=by omega
   have:=qIf (Γ:=Γ) (Q:=F2 3 (B1 (run Tryz.prog Γ (.reg Kq [.keepB [3,4,5,18,19,20,26,27,28] [14] 100000 16384]) (B1 (fun s=>B1 K Q .normal (ghs [.keepB [3,4,5,18,19,20,26,27,28] [14] 100000 16384] s)) (B1 K Q))) (B1 (fun s=>B1 K Q .normal (ghs [.keepB [3,4,5,18,19,20,26,27,28] [14] 100000 16384] s)) (B1 K Q)))) rows (s.l[k]).toNat (by omega) (by omega) i k (by have:=hb (s.l[k]).toNat;omega)
    (.fn 127 [.ip (tC c) 0]) (Bd c.nodes) (tI c.nodes.l.length) (tI i) (.sl (Bc s.l) s.cap s.nl) (tI s.l.length) (tI k) (tB true) c.nodes.l.length hl.symm ?_
   ·rw[hz]at this;exact this
   ·simp(disch:=omega) [-Gh.run,Et,Rk,A5]
    rw[hK]
    have hbb:∀ n,((H7 rows (s.l[k]).toNat (i,k)).getD n []).length+kk<=1000000000:=by
     intro n
     unfold H7
     have h5:=hb n
     have h6:=hb (s.l[k]).toNat
     by_cases hq:n=(s.l[k]).toNat
     ·subst hq
      have hlt:(s.l[k]).toNat<rows.length:=by omega
      simp[List.getD,List.getElem?_set,hlt]at h6 ⊢
      omega
     ·have:¬ (s.l[k]).toNat=n:=fun e=>hq e.symm
      simp[List.getD,List.getElem?_set,this]at h5 ⊢
      omega
    have:=q3R c hn i s hs R h0 kk (k+1) (H7 rows (s.l[k]).toNat (i,k)) (by omega) (q1g.trans hl) hbb hR
    simpa[Bh]using this
theorem qG9 {ks rs:List Nat} {st:St}:Gh.run (.keep ks rs) st=⟨(Ej ((st.hp.map (·.1)).filter fun id=>!rs.contains id) ⟨Lg.keep ks st.env,st.hp⟩).env,Lg.keep rs (Ej ((st.hp.map (·.1)).filter fun id=>!rs.contains id) ⟨Lg.keep ks st.env,st.hp⟩).hp⟩:=rfl
theorem qEJ {env:List (Nat×AV)} {ks:List Nat} {rows:List Kw} {q:Aj}:Gh.run (.keepB ks [6,14] 100000 16384) ⟨env,(6,q)::(14,.bx (Bw rows))::C3 rows⟩=⟨Lg.keep ks env,(6,q)::(14,.bx (Bw rows))::C3 rows⟩:=by
 have hk:(((6,q)::(14,Aj.bx (Bw rows))::C3 rows).map (·.1)).filter (fun id=>!([6,14]:List Nat).contains id && !(decide (100000<=id)&&decide (id<100000+16384)))=[]:=by
  rw[List.filter_eq_nil_iff]
  intro id hid
  simp only[List.map_cons,List.mem_cons]at hid
  rcases hid with rfl|rfl|hid
  ·simp
  ·simp
  ·obtain⟨p,hp,rfl⟩:=List.mem_map.1 hid
   have:=Wc p hp
   simp;omega
 simp only[Gh.run,q4n,hk,Ej,q3I,q5U,A2,↓reduceIte]
 simp only[show ¬ (6=14)by omega,↓reduceIte,List.cons_append,List.nil_append]
 congr 3
 refine q7Q fun t ht=>?_
 rw[List.mem_range'_1]at ht
 rw[A2,if_neg (by omega),q0h,if_neg (by omega),if_pos ⟨ht.1,by omega⟩]
theorem q5m {Q:AX->St->Prop} (c:Ee) (hn:c.nodes.l.length<=16384) (hi:∀ x∈c.nodes.l,x.inn.l.length<=16) (R:List Kw)
  (h0:Q (.exit 0) ⟨[(3,.lb 14 c.nodes.l.length),(4,.t (.fn 127 [.ip (tC c) 0])),(18,.t (Bd c.nodes)),(19,.t (tI c.nodes.l.length)),(20,.t (tI c.nodes.l.length)),(21,.t (tB false))],(14,.bx (Bw R))::C3 R⟩) :
  ∀ (kk i:Nat) (rows:List Kw),kk+i=c.nodes.l.length->rows.length=c.nodes.l.length->RB rows (16*i)->G7 c (c.nodes.l.drop i) i rows=R ->
  run Tryz.prog Γ Ht Q ⟨[(3,.lb 14 c.nodes.l.length),(4,.t (.fn 127 [.ip (tC c) 0])),(18,.t (Bd c.nodes)),(19,.t (tI c.nodes.l.length)),(20,.t (tI i))],(14,.bx (Bw rows))::C3 rows⟩
 | 0,i,rows,h,hl,hb,hR=>by
  refine Nw fun K hK=>?_
  have h2:¬ i<c.nodes.l.length:=by omega
  have h3:i=c.nodes.l.length:=by omega
  simp[h2,-Gh.run,Et,Rk]
  subst h3
  rw[List.drop_of_length_le (Nat.le_refl _)]at hR
  simp only[G7]at hR
  subst hR
  exact h0
 | kk+1,i,rows,h,hl,hb,hR=>by
  refine Nw fun K hK=>?_
  have h2:i<c.nodes.l.length:=by omega
  rw[List.drop_eq_getElem_cons h2]at hR
  simp only[G7]at hR
  have hx:=hi _ (List.getElem_mem h2)
  have hlk6:A2 (C3 rows) 6=none:=by rw[C3,M7,if_neg (by omega)]
  simp(disch:=omega) [h2,-Gh.run,Et,Rk,qG8,qEJ,Bd,Bq,L1 Nd.d,q2L,tNd,Bh,hlk6,A3]
  refine q3R c hn i c.nodes.l[i].inn (by omega) _ ?_ c.nodes.l[i].inn.l.length 0 rows (by omega) hl (fun n=>by have:=hb.at n;omega) rfl
  obtain⟨hf1,hf2⟩:=Tc c i c.nodes.l[i].inn.l 0 rows (16*i) hb
  simp(disch:=omega) [-Gh.run,Et,Rk,A5,List.drop_zero]
  rw[hK]
  have:=q5m c hn hi R h0 kk (i+1) _ (by omega) (hf1.trans hl) (hf2.mono (by omega)) hR
  simpa[Bd]using this
def Td (r:Kw):T:=.sl (L0 tLn r) (some r.length) (if r=[]then some true else none)
theorem qEK (r:Kw):An Tryz.prog Γ 120 [q6Z r] (Td r):=by
 unfold q6Z Td
 by_cases h:r=[]
 ·subst h;simpa[L0]using q7M (Γ:=Γ) [] (some 0) (some true) qG5
 ·rw[if_neg h,if_neg h]
  have:=q7M (Γ:=Γ) (L0 tLn r) none none q8A
  rwa [Bq]at this
def Y1 (rows:List Kw) (i:Nat):List AV:=rows.mapIdx fun j r=>.t (if j<i then Td r else q6Z r)
theorem q2Q {rows:List Kw} {i:Nat}:(Y1 rows i).length=rows.length:=by simp[Y1]
theorem qGA {rows:List Kw} {i:Nat} (h:i<rows.length):((Y1 rows i).drop i).take 1=[.t (q6Z rows[i])]:=by
 rw[List.drop_eq_getElem_cons (by rw[q2Q];exact h)]
 simp[Y1]
theorem qCt {rows:List Kw} {i:Nat} (h:i<rows.length):(Y1 rows i).take i++.t (Td rows[i])::(Y1 rows i).drop (i+1)=Y1 rows (i+1):=by
 apply List.ext_getElem?
 intro j
 rw[List.getElem?_append]
 have e:((Y1 rows i).take i).length=i:=by simp[q2Q];omega
 rw[e]
 by_cases h1:j<i
 ·rw[if_pos h1,List.getElem?_take,if_pos h1]
  simp only[Y1,List.getElem?_mapIdx]
  cases rows[j]? with
  | none=>rfl
  | some r=>simp only[Option.map_some];rw[if_pos h1,if_pos (by omega)]
 ·rw[if_neg h1]
  by_cases h2:j=i
  ·subst h2
   simp[Y1,List.getElem?_eq_getElem h]
  ·rw[show j-i=(j-i-1)+1 by omega,List.getElem?_cons_succ,List.getElem?_drop]
   rw[show i+1+(j-i-1)=j by omega]
   simp only[Y1,List.getElem?_mapIdx]
   cases rows[j]? with
   | none=>rfl
   | some r=>simp only[Option.map_some];rw[if_neg h1,if_neg (by omega)]
theorem q7R {Q:AX->St->Prop} (rows:List Kw) (hn:rows.length<=16384)
  (h0:Q (.exit 4) ⟨[(3,.lb 14 rows.length),(51,.lb 14 rows.length),(52,.t (tI rows.length)),(53,.t (tI rows.length)),(54,.t (tB false))],[(14,.bx (Y1 rows rows.length))]⟩) :
  ∀ (kk i:Nat),kk+i=rows.length ->
  run Tryz.prog Γ Hu Q ⟨[(3,.lb 14 rows.length),(51,.lb 14 rows.length),(52,.t (tI rows.length)),(53,.t (tI i))],[(14,.bx (Y1 rows i))]⟩
 | 0,i,h=>by
  refine Nx fun K hK=>?_
  have h2:¬ i<rows.length:=by omega
  have h3:i=rows.length:=by omega
  simp[h2]
  subst h3
  exact h0
 | kk+1,i,h=>by
  refine Nx fun K hK=>?_
  have h2:i<rows.length:=by omega
  have h3:i+1<=rows.length:=h2
  have e:=qEK (Γ:=Γ) rows[i]
  have ho:(q6Z rows[i]).one=true:=by unfold q6Z;split<;>rfl
  simp(disch:=omega) [h2,h3,qGA h2,q2Q]
  refine As e rfl ?_
  simp(disch:=omega) [h2,h3,q2Q,A5,Td]
  rw[hK]
  have:=q7R rows hn h0 kk (i+1) (by omega)
  rw[<- qCt h2]at this
  simpa[Td]using this
def Eb (c:Ee):List Kw:=G7 c c.nodes.l 0 (List.replicate c.nodes.l.length [])
def q9M (rows:List Kw):T:=.sl (Ak Td rows) (some rows.length) none
theorem q2R (c:Ee):∀ (l:List Nd) (i:Nat) (rows:List Kw),(G7 c l i rows).length=rows.length
 | [],_,_=>rfl
 | x::l,i,rows=>by
  simp only[G7]
  rw[q2R c l]
  exact(Tc c i x.inn.l 0 rows (rows.foldr (fun r m=>r.length+m) 0) (by
   intro r hr
   induction rows with
   | nil=>cases hr
   | cons y ys ih =>
    simp only[List.foldr_cons]
    rcases List.mem_cons.1 hr with rfl|hr
    ·omega
    ·have:=ih hr;omega)).1
theorem Uu (c:Ee):(Eb c).length=c.nodes.l.length:=by rw[Eb,q2R];simp
theorem q9N (c:Ee) (hn:c.nodes.l.length<=16384) (hi:∀ x∈c.nodes.l,x.inn.l.length<=16):An Tryz.prog Γ 114 [.agg (tC c)] (q9M (Eb c)):=by
 refine E7 Qn rfl ?_
 have eo:=Rj (Γ:=Γ) c
 have hR:=Uu c
 have hk1:∀ (env:List (Nat×AV)) (ks:List Nat),Gh.run (.keepB ks [14] 100000 16384) ⟨env,[(14,.bx (List.replicate c.nodes.l.length (.t (.sl [] (some 0) (some true)))))]⟩=⟨Lg.keep ks env,(14,.bx (Bw (List.replicate c.nodes.l.length [])))::C3 (List.replicate c.nodes.l.length [])⟩:=by
  intro env ks
  have hc:Bw (List.replicate c.nodes.l.length [])=List.replicate c.nodes.l.length (.t (.sl [] (some 0) (some true))):=by
   apply List.ext_getElem?
   intro j
   simp only[Bw,List.getElem?_mapIdx,List.getElem?_replicate]
   split<;>simp[q5k]
  refine q3P (by simp) (by simp[A2,hc]) fun t h1 h2=>?_
  rw[A2,if_neg (by omega)]
  unfold Jt
  rw[List.getElem?_replicate]
  split<;>rename_i hq
  ·split at hq
   ·simp only[Option.some.injEq]at hq;subst hq;rfl
   ·cases hq
  ·rfl
 simp(disch:=omega) [M1,tC,Bd,E3,Hf,Bh,Bq,-Gh.run,Et,qG9,hk1,A5]
 refine⟨by omega,?_⟩
 refine As eo rfl ?_
 simp(disch:=omega) [-Gh.run,Et,Rk,Bq]
 have hp0:RB (List.replicate c.nodes.l.length []) (16*0):=by
  intro r hr;rw[List.eq_of_mem_replicate hr];simp
 refine q5m c hn hi (Eb c) ?_ c.nodes.l.length 0 (List.replicate c.nodes.l.length []) (by omega) (by simp) hp0 rfl
 generalize Eb c=R at hR
 rw[<- hR]
 simp(disch:=omega) [-Gh.run,Et]
 rw[qEH (by omega) (fun id r h p hp=>by
  simp only[List.mem_cons,List.not_mem_nil,or_false]at hp
  have h14:¬ 14=id:=by omega
  rcases hp with rfl|rfl|rfl|rfl|rfl|rfl|rfl|rfl|rfl<;>simp[Ce,frz1,frz0,h14])]
 have hmix:(R.map fun r=>AV.t (q6Z r))=Y1 R 0:=by
  apply List.ext_getElem?
  intro j
  simp only[List.getElem?_map,Y1,List.getElem?_mapIdx]
  cases R[j]?<;>simp
 rw[hmix]
 simp
 refine q7R R (by omega) ?_ R.length 0 (by omega)
 have hfin:Y1 R R.length=(R.map Td).map .t:=by
  apply List.ext_getElem?
  intro j
  simp only[List.getElem?_map,Y1,List.getElem?_mapIdx,Option.map_map]
  cases hj:R[j]? with
  | none=>rfl
  | some r =>
   have:=(List.getElem?_eq_some_iff.1 hj).1
   simp only[Option.map_some,Function.comp_def]
   rw[if_pos this]
 have hopt:Ac ((Y1 R R.length).map (Aq [(14,.bx (Y1 R R.length))] 3))=some (R.map Td):=by
  conv=>lhs;rw[hfin]
  rw[List.map_map]
  have:(R.map Td).map (Aq [(14,.bx ((R.map Td).map .t))] 3 ∘ AV.t)=(R.map Td).map fun t=>some t:=List.map_congr_left fun t _=>by simp[Aq]
  rw[this];exact q49
 simp[M3,q9M,hopt,Ak]
end Go.Lg
namespace Go.Lg
open Go Go.Proofs
def Uw (N:Nat) (rows:List Kw):Prop:=∀ r∈rows,∀ p∈r,∃ i:Nat,i<N/\p.1=i
theorem Uw.add {N:Nat} {rows:List Kw} {n i:Nat} {k:Int} (h:Uw N rows) (hi:i<N):Uw N (H7 rows n (i,k)):=by
 intro r hr p hp
 unfold H7 at hr
 by_cases hn:n<rows.length
 ·rcases List.mem_or_eq_of_mem_set hr with hr|rfl
  ·exact h r hr p hp
  ·rcases List.mem_append.1 hp with hp|hp
   ·have e:rows.getD n []=rows[n]:=by simp[hn]
    rw[e]at hp
    exact h _ (List.getElem_mem hn) p hp
   ·simp at hp;subst hp;exact⟨i,hi,rfl⟩
 ·rw[List.set_eq_of_length_le (by omega)]at hr
  exact h r hr p hp
theorem q1h {N:Nat} (c:Ee) (i:Nat) (hi:i<N):∀ (l:List Int) (k:Nat) (rows:List Kw),Uw N rows->Uw N (Jb c i l k rows)
 | [],_,_,h=>h
 | n::l,k,rows,h=>by
  simp only[Jb]
  split
  ·exact q1h c i hi l (k+1) rows h
  ·exact q1h c i hi l (k+1) _ (h.add hi)
theorem q4C {N:Nat} (c:Ee):∀ (l:List Nd) (i:Nat) (rows:List Kw),i+l.length<=N->Uw N rows->Uw N (G7 c l i rows)
 | [],_,_,_,h=>h
 | x::l,i,rows,hl,h=>by
  simp only[G7]
  simp at hl
  exact q4C c l (i+1) _ (by omega) (q1h c i (by omega) _ _ _ h)
theorem q1i (c:Ee):Uw c.nodes.l.length (Eb c):=by
 refine q4C c c.nodes.l 0 _ (by omega) fun r hr p hp=>?_
 rw[List.eq_of_mem_replicate hr]at hp;cases hp
theorem q4D (c:Ee):∀ (l:List Nd) (i B:Nat) (rows:List Kw),(∀ x∈l,x.inn.l.length<=16)->RB rows B->RB (G7 c l i rows) (B+16*l.length)
 | [],_,_,_,_,h=>h
 | x::l,i,B,rows,hl,h=>by
  simp only[G7,List.length_cons]
  have h1:=(Tc c i x.inn.l 0 rows B h).2
  have h2:=hl x List.mem_cons_self
  exact(q4D c l (i+1) (B+16) _ (fun y hy=>hl y (List.mem_cons_of_mem _ hy)) (h1.mono (by omega))).mono (by omega)
theorem qAi (c:Ee) (hn:c.nodes.l.length<=16384) (hi:∀ x∈c.nodes.l,x.inn.l.length<=16):RB (Eb c) 262144:=by
 refine(q4D c c.nodes.l 0 0 _ hi fun r hr=>?_).mono (by omega)
 rw[List.eq_of_mem_replicate hr];simp
structure LS where
 out:List Int
 left:List Int
 rdy:List Int
def Jv (k:Int):Bool:=decide (1<=k/\k<=13)
def H8 (c:Ee) (j:Nat):Int:=(c.nodes.l.getD j Nd.d).k
def D9 (c:Ee) (n:Nat) (s:LS) (p:Int×Int):LS :=
 if Jv (H8 c p.1.toNat) then
  ⟨s.out.set p.1.toNat (max (s.out.getD p.1.toNat 0) (s.out.getD n 0+1)),s.left.set p.1.toNat (s.left.getD p.1.toNat 0-1),if s.left.getD p.1.toNat 0-1=0 then s.rdy++[p.1]else s.rdy⟩
 else s
def Fq (c:Ee) (n:Nat):Kw:=(Eb c).getD n []
def q4E (c:Ee):Nat->Nat->LS->Nat×LS
 | 0,d,s=>(d,s)
 | f+1,d,s=>if d<s.rdy.length then q4E c f (d+1) ((Fq c (s.rdy.getD d 0).toNat).foldl (D9 c (s.rdy.getD d 0).toNat) s) else(d,s)
def Do (x:Nd):Int:=if Jv x.k then x.inn.l.length else 0
def Dm:List Nd->Nat->List Int
 | [],_=>[]
 | x::l,i=>if Do x=0 then(i:Int)::Dm l (i+1)else Dm l (i+1)
def q4F (c:Ee):LS:=⟨List.replicate c.nodes.l.length 0,c.nodes.l.map Do,Dm c.nodes.l 0⟩
def q3S (c:Ee):Nat×LS:=q4E c (c.nodes.l.length+1) 0 (q4F c)
structure LI (N M:Nat) (s:LS):Prop where
 lo:s.out.length=N
 ll:s.left.length=N
 rd:∀ j∈s.rdy,∃ i:Nat,i<N/\j=i/\s.left.getD i 0<=0
 nd:s.rdy.Nodup
 bo:∀ i,0<=s.out.getD i 0/\s.out.getD i 0<=M
 bl:∀ i,-(M:Int)<=s.left.getD i 0/\s.left.getD i 0<=1000
theorem qCu {N:Nat} {l:List Int} (h:l.Nodup) (hb:∀ j∈l,∃ i:Nat,i<N/\j=i):l.length<=N:=by
 have h1:(l.map Int.toNat).Nodup:=by
  rw[List.nodup_iff_pairwise_ne]at h ⊢
  rw[List.pairwise_map]
  refine h.imp_of_mem fun{a b} ha hb' hne e=>hne ?_
  obtain⟨i,_,rfl⟩:=hb a ha
  obtain⟨j,_,rfl⟩:=hb b hb'
  have:i=j:=by simpa using e
  rw[this]
 have h2:(l.map Int.toNat) ⊆ List.range N:=by
  intro j hj
  obtain⟨a,ha,rfl⟩:=List.mem_map.1 hj
  obtain⟨i,hi,rfl⟩:=hb a ha
  simpa using hi
 have:=(List.Nodup.length_le_of_subset h1 h2)
 simpa using this
theorem LI.len {N M:Nat} {s:LS} (h:LI N M s):s.rdy.length<=N:=qCu h.nd fun j hj=>by obtain⟨i,h1,h2,_⟩:=h.rd j hj;exact⟨i,h1,h2⟩
theorem Q6 {l:List Int} {j i:Nat} {v:Int} (hj:j<l.length):(l.set j v).getD i 0=if i=j then v else l.getD i 0:=by
 simp only[List.getD,List.getElem?_set]
 by_cases h:j=i
 ·subst h;simp[hj]
 ·simp[h,Ne.symm h]
theorem LI.step {N M:Nat} {c:Ee} {s:LS} {n i:Nat} {k:Int} (h:LI N M s) (hi:i<N):LI N (M+1) (D9 c n s (i,k)):=by
 unfold D9
 simp only[Int.toNat_natCast]
 split
 case isFalse=>exact⟨h.lo,h.ll,h.rd,h.nd,fun j=>⟨(h.bo j).1,by have:=(h.bo j).2;omega⟩,fun j=>⟨by have:=(h.bl j).1;omega,(h.bl j).2⟩⟩
 refine⟨by simp[h.lo],by simp[h.ll],?_,?_,?_,?_⟩
 ·intro j hj
  have old:∀ j∈s.rdy,∃ i0:Nat,i0<N/\j=i0/\(s.left.set i (s.left.getD i 0-1)).getD i0 0<=0:=by
   intro j hj
   obtain⟨i0,h1,h2,h3⟩:=h.rd j hj
   refine⟨i0,h1,h2,?_⟩
   rw[Q6 (by rw[h.ll];exact hi)]
   split
   ·rename_i e;subst e;omega
   ·exact h3
  split at hj
  ·rename_i hz
   rcases List.mem_append.1 hj with hj|hj
   ·exact old j hj
   ·simp at hj;subst hj
    refine⟨i,hi,rfl,?_⟩
    rw[Q6 (by rw[h.ll];exact hi),if_pos rfl];omega
  ·exact old j hj
 ·split
  ·rename_i hz
   rw[List.nodup_append]
   refine⟨h.nd,by simp,?_⟩
   intro a ha b hb e
   simp at hb;subst hb;subst e
   obtain⟨i0,h1,h2,h3⟩:=h.rd _ ha
   have:i=i0:=by omega
   subst this
   omega
  ·exact h.nd
 ·intro j
  rw[Q6 (by rw[h.lo];exact hi)]
  have h1:=h.bo j
  have h2:=h.bo i
  have h3:=h.bo n
  split
  ·rename_i e
   omega
  ·omega
 ·intro j
  rw[Q6 (by rw[h.ll];exact hi)]
  have h1:=h.bl j
  have h2:=h.bl i
  split<;>omega
theorem LI.fold {N:Nat} {c:Ee} {n:Nat}:∀ {r:Kw} {s:LS} {M:Nat},LI N M s->(∀ p∈r,∃ i:Nat,i<N/\p.1=i)->LI N (M+r.length) (r.foldl (D9 c n) s)
 | [],_,_,h,_=>h
 | p::r,s,M,h,hr=>by
  obtain⟨i,hi,he⟩:=hr p List.mem_cons_self
  obtain⟨p1,p2⟩:=p
  simp only at he;subst he
  have:=LI.fold (c:=c) (n:=n) (h.step (c:=c) (n:=n) (k:=p2) hi) fun q hq=>hr q (List.mem_cons_of_mem _ hq)
  simp only[List.foldl_cons,List.length_cons]
  rw[show M+(r.length+1)=M+1+r.length by omega]
  exact this
theorem q5n:∀ (l:List Nd) (i:Nat),(∀ j∈Dm l i,∃ a:Nat,i<=a/\a<i+l.length/\j=a/\(l.map Do).getD (a-i) 0=0)/\(Dm l i).Nodup
 | [],_=>⟨fun j h=>(by cases h),List.nodup_nil⟩
 | x::l,i=>by
  obtain⟨h1,h2⟩:=q5n l (i+1)
  have h3:∀ j∈Dm l (i+1),∃ a:Nat,i<=a/\a<i+(l.length+1)/\j=a/\((x::l).map Do).getD (a-i) 0=0:=by
   intro j hj
   obtain⟨a,e1,e2,e3,e4⟩:=h1 j hj
   refine⟨a,by omega,by omega,e3,?_⟩
   rw[show a-i=(a-(i+1))+1 by omega]
   simpa using e4
  simp only[Dm,List.length_cons]
  split
  ·rename_i hz
   refine⟨fun j hj=>?_,?_⟩
   ·rcases List.mem_cons.1 hj with rfl|hj
    ·exact⟨i,by omega,by omega,rfl,by simp[hz]⟩
    ·exact h3 j hj
   ·rw[List.nodup_cons]
    refine⟨fun hm=>?_,h2⟩
    obtain⟨a,e1,_,e3,_⟩:=h1 _ hm
    omega
  ·exact⟨h3,h2⟩
theorem qEL (c:Ee) (hi:∀ x∈c.nodes.l,x.inn.l.length<=16):LI c.nodes.l.length 0 (q4F c):=by
 obtain⟨h1,h2⟩:=q5n c.nodes.l 0
 refine⟨by simp[q4F],by simp[q4F],fun j hj=>?_,h2,fun i=>?_,fun i=>?_⟩
 ·obtain⟨a,_,e2,e3,e4⟩:=h1 j hj
  exact⟨a,by omega,e3,by simp only[Nat.sub_zero]at e4;simp only[q4F];omega⟩
 ·simp only[q4F,List.getD,List.getElem?_replicate]
  split<;>simp
 ·simp only[q4F,List.getD,List.getElem?_map]
  cases hx:c.nodes.l[i]? with
  | none=>simp
  | some x =>
   have:=hi x (List.mem_of_getElem? hx)
   simp only[Option.map_some,Option.getD_some,Do]
   split<;>simp<;>omega
end Go.Lg
namespace Go.Lg
open Go Go.Proofs
variable {Γ:Tables}
theorem q2S {α:Type} {f:α->T} {l:List α} {j:Nat} {x:α} (h:j<l.length):(Ak f (l.set j x))[j]?.getD []=[f x]:=by simp[Ak,h]
theorem qGB {r:Kw} {i:Nat} (h:i<r.length):(L0 tLn r)[i]?.getD []=tLn r[i]:=by simp[L0,h]
def lsH (s:LS):List (Nat×Aj):=[(23,.sl 3 1 (Bc s.out)),(27,.sl 3 1 (Bc s.left)),(53,.sl 3 1 (Bc s.rdy))]
theorem q1j {Q:AX->St->Prop} (c:Ee) (hc:CirOk c) (hn:c.nodes.l.length<=16384) (n:Nat) (hnn:n<c.nodes.l.length) (d:Int) (r:Kw) (nl:Option Bool) (hr:r.length<=262144) (hin:∀ p∈r,∃ i:Nat,i<c.nodes.l.length/\p.1=i) (fan:T) (S:LS)
  (h0:Q (.exit 4) ⟨[(1,.t (.ip (tC c) 0)),(5,.ls 23 0 c.nodes.l.length none),(6,.ls 27 0 c.nodes.l.length none),(7,.ls 53 0 S.rdy.length none),(10,.t fan),(11,.t (tI d)),(12,.t (tI n)),(76,.t (.sl (L0 tLn r) (some r.length) nl)),(77,.t (tI r.length)),(78,.t (tI r.length)),(79,.t (tB false))],lsH S⟩) :
  ∀ (kk k:Nat) (s:LS) (M:Nat),kk+k=r.length->LI c.nodes.l.length M s->M+kk<=4611686018427387904->(r.drop k).foldl (D9 c n) s=S ->
  run Tryz.prog Γ Ho Q ⟨[(1,.t (.ip (tC c) 0)),(5,.ls 23 0 c.nodes.l.length none),(6,.ls 27 0 c.nodes.l.length none),(7,.ls 53 0 s.rdy.length none),(10,.t fan),(11,.t (tI d)),(12,.t (tI n)),(76,.t (.sl (L0 tLn r) (some r.length) nl)),(77,.t (tI r.length)),(78,.t (tI k))],lsH s⟩
 | 0,k,s,M,h,hI,hM,hS=>by
  refine Ns fun K hK=>?_
  have h2:¬ k<r.length:=by omega
  have h3:k=r.length:=by omega
  simp[h2,lsH]
  subst h3
  rw[List.drop_of_length_le (Nat.le_refl _)]at hS
  simp only[List.foldl_nil]at hS
  subst hS
  exact h0
 | kk+1,k,s,M,h,hI,hM,hS=>by
  refine Ns fun K hK=>?_
  have h2:k<r.length:=by omega
  rw[List.drop_eq_getElem_cons h2]at hS
  simp only[List.foldl_cons]at hS
  obtain⟨j,hj,hpj⟩:=hin _ (List.getElem_mem h2)
  have hstep:=hI.step (c:=c) (n:=n) (k:=r[k].2) hj
  have hpair:r[k]=((j:Int),r[k].2):=by rw[<- hpj]
  rw[hpair]at hS
  generalize r[k].2=q at hS hstep hpair
  have e:=q7N (Γ:=Γ) c.nodes.l[j].k
  have hkind:H8 c j=c.nodes.l[j].k:=by simp[H8,hj]
  simp(disch:=omega) [h2,lsH,Bq,qGB h2,q8A,hpair,tLn,tC,Bd,L1 Nd.d,q2L,tNd,Bh,hj]
  refine A4 e rfl ?_
  by_cases hcb:Jv c.nodes.l[j].k=true
  case neg =>
   have hcb':decide (1<=c.nodes.l[j].k/\c.nodes.l[j].k<=13)=false:=by simpa[Jv]using hcb
   have hcb2:Jv (H8 c j)=false:=by rw[hkind];exact hcb'
   have hst:D9 c n s ((j:Int),q)=s:=by unfold D9;simp[hcb2]
   rw[hst]at hS hstep
   rw[hcb']
   simp(disch:=omega) [A5]
   rw[hK]
   have:=q1j c hc hn n hnn d r nl hr hin fan S h0 kk (k+1) s (M+1) (by omega) hstep (by omega) hS
   simpa[lsH,tC,Bd,Bh]using this
  have hcb':decide (1<=c.nodes.l[j].k/\c.nodes.l[j].k<=13)=true:=by simpa[Jv]using hcb
  have hcb2:Jv (H8 c j)=true:=by rw[hkind];exact hcb'
  rw[hcb']
  have ho:=hI.lo
  have hll:=hI.ll
  have b1:=hI.bo n
  have b2:=hI.bo j
  have b3:=hI.bl j
  have hrl:=hI.len
  have hst:D9 c n s ((j:Int),q)=⟨s.out.set j (max (s.out.getD j 0) (s.out.getD n 0+1)),s.left.set j (s.left.getD j 0-1),if s.left.getD j 0-1=0 then s.rdy++[(j:Int)]else s.rdy⟩:=by
   unfold D9;simp[hcb2]
  have hw:Gk 1 [[tI (j:Int)]]:=by intro e he;simp at he;subst he;rfl
  have hmax:max (s.out.getD j 0) (s.out.getD n 0+1)=if s.out.getD j 0<s.out.getD n 0+1 then s.out.getD n 0+1 else s.out.getD j 0:=by
   split<;>omega
  have ih:=fun S2 (e:S2=D9 c n s ((j:Int),q))=>q1j c hc hn n hnn d r nl hr hin fan S h0 kk (k+1) S2 (M+1) (by omega) (e ▸ hstep) (by omega) (e ▸ hS)
  have ljo:j<s.out.length:=by omega
  have lno:n<s.out.length:=by omega
  have ljl:j<s.left.length:=by omega
  simp only[List.getD,List.getElem?_eq_getElem ljo,List.getElem?_eq_getElem lno,List.getElem?_eq_getElem ljl,Option.getD_some]at b1 b2 b3 hst hmax
  have b1a:=b1.1
  have b1b:=b1.2
  have b2a:=b2.1
  have b2b:=b2.2
  have b3a:=b3.1
  have b3b:=b3.2
  simp(disch:=omega) [A5,A3,Ie (0:Int),Aa,S5,ljo,lno,ljl,hj,hnn]
  rw[show(if s.out[j]<s.out[n]+1 then s.out[n]+1 else s.out[j])=max s.out[j] (s.out[n]+1) from hmax.symm]
  by_cases hz:s.left[j]-1=0
  ·rw[if_pos hz]at hst
   have ih':=ih _ hst.symm
   simp(disch:=omega) [hz,A5,A3,Aa,hw,q2S]
   refine⟨by omega,?_⟩
   rw[hK]
   rw[Eu (f:=tI) (x:=(j:Int))]
   simpa[lsH,tC,Bd,Bh,hz]using ih'
  ·rw[if_neg hz]at hst
   have ih':=ih _ hst.symm
   simp(disch:=omega) [hz,A5,q2S,Aa]
   rw[hK]
   simpa[lsH,tC,Bd,Bh]using ih'
theorem q7S {Q:AX->St->Prop} (c:Ee) (hc:CirOk c) (hn:c.nodes.l.length<=16384) (hi:∀ x∈c.nodes.l,x.inn.l.length<=16) (R:Nat×LS)
  (h0:Q (.exit 2) ⟨[(1,.t (.ip (tC c) 0)),(5,.ls 23 0 c.nodes.l.length none),(6,.ls 27 0 c.nodes.l.length none),(7,.ls 53 0 R.2.rdy.length none),(10,.t (q9M (Eb c))),(11,.t (tI R.1)),(60,.t (tB false))],lsH R.2⟩) :
  ∀ (f d:Nat) (s:LS) (M:Nat),f+d=c.nodes.l.length+1->LI c.nodes.l.length M s->M=d*262144->q4E c f d s=R ->
  run Tryz.prog Γ Hq Q ⟨[(1,.t (.ip (tC c) 0)),(5,.ls 23 0 c.nodes.l.length none),(6,.ls 27 0 c.nodes.l.length none),(7,.ls 53 0 s.rdy.length none),(10,.t (q9M (Eb c))),(11,.t (tI d))],lsH s⟩
 | 0,d,s,M,h,hI,hM,hR=>by
  refine Nu fun K hK=>?_
  have hlen:=hI.len
  have h2:¬ d<s.rdy.length:=by omega
  simp[h2,lsH]
  simp only[q4E]at hR
  subst hR
  exact h0
 | f+1,d,s,M,h,hI,hM,hR=>by
  refine Nu fun K hK=>?_
  have hlen:=hI.len
  by_cases h2:d<s.rdy.length
  case neg =>
   simp[h2,lsH]
   simp only[q4E,h2,↓reduceIte]at hR
   subst hR
   exact h0
  simp only[q4E,h2,↓reduceIte]at hR
  obtain⟨j,hj,he,hz⟩:=hI.rd _ (List.getElem_mem h2)
  have hgd:s.rdy.getD d 0=(j:Int):=by simp[h2,he]
  rw[hgd]at hR
  simp only[Int.toNat_natCast]at hR
  have hfr:=Uu c
  have hrl:Fq c j∈Eb c:=by
   have e:Fq c j=(Eb c)[j]'(by omega):=by simp[Fq,hfr,hj]
   rw[e];exact List.getElem_mem _
  have hin:=q1i c _ hrl
  have hrb:=qAi c hn hi _ hrl
  have hfold:=hI.fold (c:=c) (n:=j) hin
  have hel:(Eb c)[j]? = some (Fq c j):=by
   have hlt:j<(Eb c).length:=by omega
   simp[Fq,hlt]
  have hrt:Td (Fq c j)=.sl (L0 tLn (Fq c j)) (some (Fq c j).length) (if Fq c j=[]then some true else none):=rfl
  have hg1:(Ak Td (Eb c))[j]?.getD []=[Td (Fq c j)]:=by simp[Ak,hel]
  have hM2:LI c.nodes.l.length ((d+1)*262144) ((Fq c j).foldl (D9 c j) s):=⟨hfold.lo,hfold.ll,hfold.rd,hfold.nd,fun i=>⟨(hfold.bo i).1,by have:=(hfold.bo i).2;omega⟩,fun i=>⟨by have:=(hfold.bl i).1;omega,(hfold.bl i).2⟩⟩
  have ih:=q7S c hc hn hi R h0 f (d+1) _ _ (by omega) hM2 rfl hR
  have hrdy:(s.rdy)[d]?.getD 0=(j:Int):=by simpa using hgd
  simp(disch:=omega) [h2,lsH,A3,Ie (0:Int),Aa,A5,he,q9M,hfr,hj,hg1,hrt,Bq]
  by_cases hr0:(Fq c j).length=0
  ·have hr0':Fq c j=[]:=List.eq_nil_of_length_eq_zero hr0
   simp[hr0',Dy]
   rw[hK]
   rw[hr0']at ih
   simp only[List.foldl_nil,q9M,hfr,lsH]at ih
   exact_mod_cast ih
  ·have hr0':¬ Fq c j=[]:=fun e=>hr0 (by simp[e])
   simp(disch:=omega) [Dy,hr0',lsH,A3,Ie (0:Int),Aa,A5,he,q9M,hfr,hj,hg1,hrt,Bq]
   refine q1j c hc hn j hj ((d:Int)+1) (Fq c j) _ (by omega) hin _ _ ?_ (Fq c j).length 0 s M (by omega) hI (by omega) rfl
   simp[lsH]
   rw[hK]
   simp only[q9M,hfr,lsH]at ih
   exact_mod_cast ih
theorem q2T (x:Nd):∀ (l:List Nd) (i:Nat),Dm (l++[x]) i=if Do x=0 then Dm l i++[((i+l.length:Nat):Int)]else Dm l i
 | [],i=>by simp[Dm]
 | y::l,i=>by
  have:=q2T x l (i+1)
  simp only[List.cons_append,Dm,this,List.length_cons]
  rw[show i+1+l.length=i+(l.length+1)by omega]
  split<;>split<;>rfl
theorem q4G:∀ (l:List Nd) (i:Nat),(Dm l i).length<=l.length
 | [],_=>by simp[Dm]
 | x::l,i=>by
  have:=q4G l (i+1)
  simp only[Dm]
  split<;>simp<;>omega
def Jw (c:Ee) (i:Nat):List Int:=(c.nodes.l.take i).map Do++List.replicate (c.nodes.l.length-i) 0
theorem q5o {c:Ee} {i:Nat} (h:i<=c.nodes.l.length):(Jw c i).length=c.nodes.l.length:=by simp[Jw];omega
theorem q1k {c:Ee} {i:Nat} (h:i<c.nodes.l.length):(Jw c i).set i (Do c.nodes.l[i])=Jw c (i+1):=by
 unfold Jw
 have e1:((c.nodes.l.take i).map Do).length=i:=by simp;omega
 rw[List.set_append_right _ _ (by rw[e1];exact Nat.le_refl i),e1,Nat.sub_self]
 rw[show c.nodes.l.length-i=(c.nodes.l.length-(i+1))+1 by omega,List.replicate_succ,List.set_cons_zero]
 have e3:(c.nodes.l.map Do).take (i+1)=(c.nodes.l.map Do).take i++[Do c.nodes.l[i]]:=by rw[List.take_add_one];simp[h]
 simp[e3]
theorem q9O {c:Ee} {i:Nat} (h:i<c.nodes.l.length) (h0:Do c.nodes.l[i]=0):Jw c i=Jw c (i+1):=by
 unfold Jw
 rw[show c.nodes.l.length-i=(c.nodes.l.length-(i+1))+1 by omega,List.replicate_succ]
 have e3:(c.nodes.l.map Do).take (i+1)=(c.nodes.l.map Do).take i++[Do c.nodes.l[i]]:=by rw[List.take_add_one];simp[h]
 simp[e3,h0]
theorem q7T {Q:AX->St->Prop} (c:Ee) (hn:c.nodes.l.length<=16384) (hi:∀ x∈c.nodes.l,x.inn.l.length<=16) (out:List Int)
  (h0:Q (.exit 0) ⟨[(1,.t (.ip (tC c) 0)),(5,.ls 23 0 c.nodes.l.length none),(6,.ls 27 0 c.nodes.l.length none),(7,.ls 53 0 (Dm c.nodes.l 0).length none),(29,.t (Bd c.nodes)),(30,.t (tI c.nodes.l.length)),(31,.t (tI c.nodes.l.length)),(32,.t (tB false))],[(23,.sl 3 1 (Bc out)),(27,.sl 3 1 (Bc (c.nodes.l.map Do))),(53,.sl 3 1 (Bc (Dm c.nodes.l 0)))]⟩) :
  ∀ (kk i:Nat),kk+i=c.nodes.l.length ->
  run Tryz.prog Γ Hn Q ⟨[(1,.t (.ip (tC c) 0)),(5,.ls 23 0 c.nodes.l.length none),(6,.ls 27 0 c.nodes.l.length none),(7,.ls 53 0 (Dm (c.nodes.l.take i) 0).length none),(29,.t (Bd c.nodes)),(30,.t (tI c.nodes.l.length)),(31,.t (tI i))],[(23,.sl 3 1 (Bc out)),(27,.sl 3 1 (Bc (Jw c i))),(53,.sl 3 1 (Bc (Dm (c.nodes.l.take i) 0)))]⟩
 | 0,i,h=>by
  refine Nr fun K hK=>?_
  have h2:¬ i<c.nodes.l.length:=by omega
  have h3:i=c.nodes.l.length:=by omega
  simp[h2]
  subst h3
  simpa[Jw]using h0
 | kk+1,i,h=>by
  refine Nr fun K hK=>?_
  have h2:i<c.nodes.l.length:=by omega
  have hx:=hi _ (List.getElem_mem h2)
  have ht:c.nodes.l.take (i+1)=c.nodes.l.take i++[c.nodes.l[i]]:=by rw[List.take_add_one];simp[h2]
  have htl:(c.nodes.l.take i).length=i:=by simp;omega
  have hrl:=q4G (c.nodes.l.take i) 0
  have hll:=q5o (c:=c) (i:=i) (by omega)
  have hll1:=q5o (c:=c) (i:=i+1) (by omega)
  have hsn:=q2T c.nodes.l[i] (c.nodes.l.take i) 0
  rw[<- ht,htl,Nat.zero_add]at hsn
  have e:=q7N (Γ:=Γ) c.nodes.l[i].k
  have ih:=q7T c hn hi out h0 kk (i+1) (by omega)
  have hw:Gk 1 [[tI (i:Int)]]:=by intro e he;simp at he;subst he;rfl
  simp(disch:=omega) [h2,Bq,L1 Nd.d,q2L,Bd,tNd,Bh,-Ei]
  refine A4 e rfl ?_
  have tail:∀ (lf:List Int),lf=Jw c (i+1)->run Tryz.prog Γ (.seq (.reg Ei [.keep [1,5,6,7,8,29,30,31,49] [23,27,53]]) (.cond (.tmp 49) (.reg Ko [.keep [1,5,6,7,29,30,31] [23,27,53]]) .skip))
    (F2 1 (B1 (run Tryz.prog Γ (.reg Kp [.keep [1,5,6,7,29,30,31] [23,27,53]]) (B1 (fun s=>B1 K Q .normal (ghs [.keep [1,5,6,7,29,30,31] [23,27,53]] s)) (B1 K Q))) (B1 (fun s=>B1 K Q .normal (ghs [.keep [1,5,6,7,29,30,31] [23,27,53]] s)) (B1 K Q))))
    ⟨[(1,.t (.ip (tC c) 0)),(5,.ls 23 0 c.nodes.l.length none),(6,.ls 27 0 c.nodes.l.length none),(7,.ls 53 0 (Dm (c.nodes.l.take i) 0).length none),(8,.t (tI i)),(29,.t (Bd c.nodes)),(30,.t (tI c.nodes.l.length)),(31,.t (tI i))],[(23,.sl 3 1 (Bc out)),(27,.sl 3 1 (Bc lf)),(53,.sl 3 1 (Bc (Dm (c.nodes.l.take i) 0)))]⟩:=by
   rintro lf rfl
   have hget:(Jw c (i+1))[i]?.getD 0=Do c.nodes.l[i]:=by
    rw[<- q1k h2]
    simp[hll,h2]
   have hge:=hget
   rw[List.getElem?_eq_getElem (by rw[hll1];exact h2),Option.getD_some]at hge
   by_cases hz:Do c.nodes.l[i]=0
   ·rw[if_pos hz]at hsn
    simp(disch:=omega) [h2,A3,Ie (0:Int),Aa,hll1,hge,hz,hw,A5]
    refine⟨by omega,?_⟩
    rw[hK]
    rw[hsn]at ih
    rw[Eu (f:=tI) (x:=(i:Int))]
    simpa using ih
   ·rw[if_neg hz]at hsn
    simp(disch:=omega) [h2,A3,Ie (0:Int),Aa,hll1,hge,hz,A5]
    rw[hK]
    rw[hsn]at ih
    exact_mod_cast ih
  by_cases hcb:Jv c.nodes.l[i].k=true
  ·have hcb':decide (1<=c.nodes.l[i].k/\c.nodes.l[i].k<=13)=true:=by simpa[Jv]using hcb
   have hlo:Do c.nodes.l[i]=c.nodes.l[i].inn.l.length:=by simp[Do,hcb]
   rw[hcb']
   have:=tail ((Jw c i).set i c.nodes.l[i].inn.l.length) (by rw[<- hlo];exact q1k h2)
   simp(disch:=omega) [h2,A3,Aa,hll,S5,-Ei]
   exact this
  ·have hcb':decide (1<=c.nodes.l[i].k/\c.nodes.l[i].k<=13)=false:=by simpa[Jv]using hcb
   have hlo:Do c.nodes.l[i]=0:=by simp[Do,hcb]
   rw[hcb',q9O h2 hlo]
   rw[if_pos hlo]at hsn
   have hge:(Jw c (i+1))[i]'(by rw[hll1];exact h2)=0:=by
    have hget:(Jw c (i+1))[i]?.getD 0=Do c.nodes.l[i]:=by
     rw[<- q1k h2]
     simp[hll,h2]
    rw[List.getElem?_eq_getElem (by rw[hll1];exact h2),Option.getD_some]at hget
    rw[hget,hlo]
   simp(disch:=omega) [h2,A3,Ie (0:Int),Aa,hll1,hge,hw,A5]
   refine⟨by omega,?_⟩
   rw[hK]
   rw[hsn]at ih
   rw[Eu (f:=tI) (x:=(i:Int))]
   simpa[Bd]using ih
def Tf (c:Ee):Int:=if E4 c≠0 then E4 c else if(q3S c).1<c.nodes.l.length then 6 else 0
theorem qIg (k:Int):(fan k).2<=16:=by
 unfold fan
 split
 ·decide
 ·have:∀ n:Nat,(q5d.getD n (0,0)).2<=16:=by
   intro n
   by_cases h:n<16
   ·have:n=0\/n=1\/n=2\/n=3\/n=4\/n=5\/n=6\/n=7\/n=8\/n=9\/n=10\/n=11\/n=12\/n=13\/n=14\/n=15:=by omega
    rcases this with rfl|rfl|rfl|rfl|rfl|rfl|rfl|rfl|rfl|rfl|rfl|rfl|rfl|rfl|rfl|rfl<;>decide
   ·rw[List.getD,List.getElem?_eq_none (by simp[q5d];omega)];decide
  exact this _
theorem Vq {α:Type} {f:α->Int}:∀ {l:List α},D8 (l.map f)=0->∀ x∈l,f x=0
 | [],_,x,h=>by cases h
 | y::l,h,x,hx=>by
  simp only[List.map_cons,D8]at h
  split at h
  ·rename_i hy;exact absurd h hy
  ·rename_i hy
   rcases List.mem_cons.1 hx with rfl|hx
   ·simpa using hy
   ·exact Vq h x hx
theorem q9P {c:Ee} (h:E4 c=0):c.nodes.l.length<=16384/\(∀ x∈c.nodes.l,x.inn.l.length<=16)/\(∀ x∈c.nodes.l,Ea c x=0)/\c.mems.l.length<=16:=by
 unfold E4 at h
 split at h
 ·cases h
 rename_i h1
 split at h
 ·cases h
 split at h
 ·rename_i h2;exact absurd h h2
 rename_i h2
 have h3:=Vq (by simpa using h2)
 refine⟨by omega,fun x hx=>?_,h3,by omega⟩
 have h4:=h3 x hx
 have h5:=qIg x.k
 unfold Ea at h4
 split at h4
 ·cases h4
 split at h4
 ·cases h4
 rename_i h6
 omega
theorem q9Q (hΓ:GOk Γ) (c:Ee) (hc:CirOk c) (ha:∀ s∈c.names.l,∀ b∈s,b<128) :
  A6 Tryz.prog Γ 104 [.agg (tC c)] (.tup [if Tf c=0 then .sl (Bc (q3S c).2.out) none none else .sl [] (some 0) (some true),tI (Tf c)]):=by
 refine Af Qm rfl ?_
 have e1:=qAh hΓ c hc ha
 simp[Ly,tC,Bd,E3,Hf,Bh]
 refine A4 e1 rfl ?_
 by_cases h1:E4 c=0
 case neg =>
  have:Tf c=E4 c:=by unfold Tf;rw[if_pos h1]
  simp[h1,F3,this]
 obtain⟨hn,hi,_⟩:=q9P h1
 have e2:=q9N (Γ:=Γ) c hn hi
 have hl0:Tf c=if(q3S c).1<c.nodes.l.length then 6 else 0:=by unfold Tf;rw[if_neg (show ¬ (E4 c≠0)by simp[h1])]
 simp(disch:=omega) [h1,Bq,A5]
 refine⟨by omega,?_⟩
 have e0:List.replicate c.nodes.l.length [T.v (Value.int .i64 0)]=Bc (List.replicate c.nodes.l.length 0):=by simp[Ak]
 rw[e0]
 have hl:=fun Q h0=>q7T (Γ:=Γ) (Q:=Q) c hn hi (List.replicate c.nodes.l.length 0) h0 c.nodes.l.length 0 (by omega)
 have el0:Jw c 0=List.replicate c.nodes.l.length 0:=by simp[Jw]
 simp only[el0,Dm,List.take_zero,List.length_nil]at hl
 refine hl _ ?_
 simp[tC,Bd,E3,Hf,Bh]
 refine As e2 rfl ?_
 have hI:=qEL c hi
 have hm:=fun Q h0=>q7S (Γ:=Γ) (Q:=Q) c hc hn hi (q3S c) h0 (c.nodes.l.length+1) 0 (q4F c) 0 (by omega) hI (by omega) rfl
 simp
 refine hm _ ?_
 have hend:(q3S c).1<c.nodes.l.length↔((q3S c).1:Int)<c.nodes.l.length:=by omega
 have hol:(q3S c).2.out.length=c.nodes.l.length:=by
  have:∀ (f d:Nat) (s:LS),s.out.length=c.nodes.l.length->(q4E c f d s).2.out.length=c.nodes.l.length:=by
   intro f
   induction f with
   | zero=>intro d s h;exact h
   | succ f ih =>
    intro d s h
    simp only[q4E]
    split
    ·refine ih _ _ ?_
     have:∀ (r:Kw) (n:Nat) (s:LS),s.out.length=c.nodes.l.length->(r.foldl (D9 c n) s).out.length=c.nodes.l.length:=by
      intro r n
      induction r with
      | nil=>intro s h;exact h
      | cons p r ih2 =>
       intro s h
       rw[List.foldl_cons]
       refine ih2 _ ?_
       unfold D9
       split
       ·simp[h]
       ·exact h
     exact this _ _ _ h
    ·exact h
  exact this _ _ _ hI.lo
 by_cases h2:(q3S c).1<c.nodes.l.length
 ·rw[if_pos h2]at hl0
  have h2':=hend.1 h2
  simp[lsH,tC,Bd,Bq,h2',F3,hl0]
 ·rw[if_neg h2]at hl0
  have h2':¬ ((q3S c).1:Int)<c.nodes.l.length:=fun h=>h2 (hend.2 h)
  have ht:(Bc (q3S c).2.out).take c.nodes.l.length=Bc (q3S c).2.out:=by rw[<- hol];simp
  simp[lsH,tC,Bd,Bq,h2,h2',F3,hl0,ht]
structure COk (c:Ee):Prop extends CirOk c where
 asc:∀ s∈c.names.l,∀ b∈s,b<128
theorem qAj (hΓ:GOk Γ) (c:Ee) (hc:COk c):A6 Tryz.prog Γ 86 [.agg (tC c)] (tI (Tf c)):=by
 refine Af T0 rfl ?_
 have e:=q9Q hΓ c hc.toCirOk hc.asc
 simp[Np,tC,Bd,E3,Hf,Bh]
 refine A4 e rfl ?_
 simp
 simp[Nq]
def qAk (c:Ee):List Int:=ofL [14] c.nodes.l 0
def mems (c:Ee):List Int:=ofL [15] c.nodes.l 0
end Go.Lg
namespace Go.Lg
open Go Go.Proofs
def B5 (s:Sl (Sl Int)):T:=.sl (Ak Bh s.l) s.cap s.nl
def Sl.d:Sl Int:=⟨[],none,none⟩
def qLG (l:List Int) (a b:Nat):List Int:=(l.set a (l.getD b 0)).set b (l.getD a 0)
theorem q4p {l:List Int} {i:Nat} (h:i<l.length):l.getD i 0=l[i]:=by simp[List.getD_eq_getElem?_getD,h]
end Go.Lg
namespace Go.Lg
open Go Go.Proofs
variable {Γ:Tables}
structure Gd where
 k:Int
 a:Int
 b:Int
 d:Int
def Byt (n:Int):Prop:=0<=n/\n<=255
def Gd.z:Gd:=⟨0,0,0,0⟩
end Go.Lg
namespace Go.Lg
open Go Go.Proofs Go.Proofs.YtjhbkddcmcfpaaaGreatDoor
def G0 (g:Nat):Option (List T):=if g=8 then some qAb else none
theorem qIh:Tryz.prog.globalNamed "probecard/logic.fanins" = some 8:=by kernel_rfl
theorem qEM:(Tryz.prog.globals[8]?).map (·.type)=some 187:=by kernel_rfl
theorem qEN:Tryz.prog.cellsOf 3=1:=by kernel_rfl
theorem qIi:Tryz.prog.cellsOf 5=1:=by kernel_rfl
theorem qBp:Tryz.prog.cellsOf 94=2:=by kernel_rfl
theorem q9R:Tryz.prog.cellsOf 187=32:=by kernel_rfl
theorem qCv {W:World} (h:laidMet Tryz.prog [("probecard/logic.fanins",Rows.laid_probecard_logic_fanins)] W):∀ j,j<32->W.cell? ⟨8,j,none⟩=(q5d.flatMap fun x=>[Value.int .i64 x.1,Value.int .i64 x.2])[j]? := by
 obtain⟨ps,⟨g',t',cs,fuel,p,q,hg',ht',hvar,hd,_,_⟩,_⟩:=h
 obtain rfl:=Option.some.inj (qIh.symm.trans hg')
 obtain rfl:=Option.some.inj (qEM.symm.trans ht')
 have hc:=q5Z (l:=q5d) Tryz.underlying187 Tryz.underlying94 Tryz.underlying3 qEN qBp q9R hd
 intro j hj
 have:=World.var?_cell qIh hvar j
 rw[this,<- hc]
 simp
theorem qEO {W:World} (h:laidMet Tryz.prog [("probecard/logic.fanins",Rows.laid_probecard_logic_fanins)] W):∃ arr ty fr,W.heap[(8:Nat)]? = some (.cells arr ty fr)/\arr.size=32:=by
 obtain⟨ps,⟨g',t',cs,fuel,p,q,hg',ht',hvar,hd,_,_⟩,_⟩:=h
 obtain rfl:=Option.some.inj (qIh.symm.trans hg')
 obtain rfl:=Option.some.inj (qEM.symm.trans ht')
 have hc:=q5Z (l:=q5d) Tryz.underlying187 Tryz.underlying94 Tryz.underlying3 qEN qBp q9R hd
 have hs:cs.size=32:=by rw[<- Array.length_toList,hc];rfl
 unfold World.var? at hvar
 rw[hg']at hvar
 simp only[Option.bind_some]at hvar
 split at hvar
 ·rename_i a ty fr hh
  simp only[Option.some.injEq]at hvar
  subst hvar
  exact⟨_,ty,fr,hh,hs⟩
 ·cases hvar
theorem qIj {W:World} (h:laidMet Tryz.prog [("probecard/logic.fanins",Rows.laid_probecard_logic_fanins)] W):Gl G0 W (Old W):=by
 have hc:=qCv h
 intro g cs hg
 unfold G0 at hg
 split at hg
 case isFalse=>cases hg
 rename_i h0;subst h0
 simp only[Option.some.injEq]at hg
 subst hg
 have hlen:(q5d.flatMap fun x=>[Value.int .i64 x.1,Value.int .i64 x.2]).length=32:=rfl
 have hfc:qAb=(q5d.flatMap fun x=>[Value.int .i64 x.1,Value.int .i64 x.2]).map T.v:=rfl
 have hfl:qAb.length=32:=rfl
 refine⟨?_,qEO h⟩
 refine .ip qAb 0 8 0 (fun j=>(q5d.flatMap fun x=>[Value.int .i64 x.1,Value.int .i64 x.2])[j]?.getD .nilFunc) ?_ ?_ ?_ ?_
 ·intro j hj
  rw[Nat.zero_add,hc j (by omega)]
  rw[List.getElem?_eq_getElem (by omega)];rfl
 ·intro j t ht
  rw[hfc,List.getElem?_map,Option.map_eq_some_iff]at ht
  obtain⟨v,hv,rfl⟩:=ht
  simp only[hv,Option.getD_some]
  exact .v v
 ·intro j t ht
  rw[hfc,List.getElem?_map,Option.map_eq_some_iff]at ht
  obtain⟨v,hv,rfl⟩:=ht
  have hm:=List.mem_of_getElem? hv
  obtain⟨x,_,hx⟩:=List.mem_flatMap.1 hm
  simp at hx
  rcases hx with rfl|rfl<;>rfl
 ·have:=hc 0 (by omega)
  rw[List.getElem?_eq_getElem (by omega)]at this
  exact qBn this
theorem qIk {n:Int} (h:(Lit.int .u8 n).wf=true):Byt n:=by
 simp[Lit.wf,IntKind.min,IntKind.max,IntKind.signed,IntKind.bits]at h
 exact⟨h.1,by omega⟩
theorem qMN:Rd Tryz.prog 5 fun ts=>∃ n,ts=[tK n]/\Byt n:=(qIc Tryz.underlying5).mono fun ts ⟨n,h,hw⟩=>⟨n,h,qIk hw⟩
theorem qBq {α:Type} {f:α->List T} {Q:α->Prop}:∀ {es:List (List T)},(∀ x∈es,∃ a,x=f a/\Q a)->∃ l:List α,es=l.map f/\∀ a∈l,Q a
 | [],_=>⟨[],rfl,by simp⟩
 | e::es,h=>by
  obtain⟨a,ha,hq⟩:=h e List.mem_cons_self
  obtain⟨l,hl,hql⟩:=qBq fun x hx=>h x (List.mem_cons_of_mem _ hx)
  exact⟨a::l,by rw[ha,hl];rfl,fun b hb=>by rcases List.mem_cons.1 hb with rfl|hb;exact hq;exact hql b hb⟩
end Go.Lg
namespace Go.Proofs.YtjhbkddcmcfpaaaGreatDoor
open Go Go.Lg Go.ChangeShapes Go.WideShapes Go.ChangeAt Go.RowKit
theorem own:ownKnob Tryz.prog.godebug=none:=by kernel_rfl
theorem qGC:laidOutB Tryz.prog=true:=by kernel_rfl
def c0:Value:=.agg #[.int .u8 0,.int .u8 0,.int .u8 0,.int .u8 0,.bool false,.bool false,.int .u8 0,.int .u8 0,.int .u8 0,.int .u8 0,.slice none 0 0,.slice none 0 0]
def d0 {H:Type}:DataW H:=.agg [.lit (.int .u8 0),.lit (.int .u8 0),.agg [.lit (.int .u8 0),.lit (.int .u8 0)],.lit (.bool false),.lit (.bool false),.agg [.lit (.int .u8 0),.lit (.int .u8 0),.lit (.int .u8 0),.lit (.int .u8 0)],.nil,.nil]
end Go.Proofs.YtjhbkddcmcfpaaaGreatDoor
namespace Go.Lg
open Go Go.Proofs
def q5p (v:Int):Int:=if v<2 then v else 2
def q3T (v:Int):Int:=if 3<v then 2 else v
def q5q (v:Int):Bool:=decide (v<=1)
def qEP (a b:Int):Bool:=decide (q3T a=q3T b\/q3T a=2)
def qAl (v:Int):Int:=if v<=1 then 1-v else 2
def qCw (low high:Int):Int->List Int->Int
 | out,[]=>out
 | out,v::l=>if v=low then low else if v≠high then qCw low high 2 l else qCw low high out l
def qMO (a b:Int):Int:=if a=b then 0 else 1
def qIl:Int->List Int->Int
 | out,[]=>out
 | out,v::l=>if v<=1 then qIl (qMO out v) l else 2
def qMP (s a b:Int):Int:=if s=0 then q5p a else if s=1 then q5p b else if a=b then q5p a else 2
def qMQ (e d:Int):Int:=if e=0 then 3 else if e=1 then q5p d else 2
def qIm (l:List Int):Bool:=l.contains 0&&l.contains 1
def qMR (v:Int):Bool:=decide (q3T v=2)
def qMS (v:Int):Bool:=decide (v≠3)
def qMT (l:List Int):Int:=match l.findIdx? qMS with
 | none=>3
 | some i=>if qIm l=true\/l.any qMR=true then 2 else l.getD i 0
def qLH (k:Int) (l:List Int):Int :=
 if k=1 then 0 else if k=2 then 1 else if k=3 then q5p (l.getD 0 0)else if k=4 then qAl (l.getD 0 0) else
 if k=5 then qCw 0 1 1 l else if k=6 then qAl (qCw 0 1 1 l)else if k=7 then qCw 1 0 0 l else if k=8 then qAl (qCw 1 0 0 l) else
 if k=9 then qIl 0 l else if k=10 then qAl (qIl 0 l)else if k=11 then qMP (l.getD 0 0) (l.getD 1 0) (l.getD 2 0) else
 if k=12 then qMQ (l.getD 0 0) (l.getD 1 0)else if k=13 then qMT l else 2
def qIn (k:Int) (n:Nat):Bool:=decide ((n:Int)<(fan k).1\/(fan k).2<(n:Int))
def qLI (k:Int) (l:List Int):Int:=if qIn k l.length=true then 2 else qLH k l
def V4 (v:Int):Prop:=0<=v/\v<=3
def Blw (a b:Int):Prop:=a=b\/a=2
def qAm (l m:List Int):Prop:=l.length=m.length/\∀ i,Blw (l.getD i 0) (m.getD i 0)
theorem Blw.refl (a:Int):Blw a a:=.inl rfl
theorem qAm.cons {a b:Int} {l m:List Int} (h:qAm (a::l) (b::m)):Blw a b/\qAm l m :=
 ⟨by simpa using h.2 0,by simpa using h.1,fun i=>by simpa using h.2 (i+1)⟩
def P7 (i:Nat) (r:Kw):Nat:=r.countP fun p=>decide (p.1=(i:Int))
theorem qEQ {i:Nat} {r q:Kw}:P7 i (r++q)=P7 i r+P7 i q:=by simp[P7]
theorem qAn {rows:List Kw} {n m i:Nat} {p:Int×Int} (hn:n<rows.length):P7 i ((H7 rows n p).getD m [])=P7 i (rows.getD m [])+if m=n/\p.1=(i:Int)then 1 else 0:=by
 unfold H7
 simp only[List.getD_eq_getElem?_getD,List.getElem?_set]
 by_cases h:n=m
 ·subst h
  simp only[hn,if_true,Option.getD_some,qEQ,true_and]
  congr 1
  by_cases h2:p.1=(i:Int)<;>simp[P7,h2]
 ·have h':¬ m=n:=fun e=>h e.symm
  simp[h,h']
theorem q4H (c:Ee) (j i m:Nat):∀ (l:List Int) (k:Nat) (rows:List Kw),rows.length=c.nodes.l.length->(∀ p∈l,0<=p/\p<c.nodes.l.length)->(Jb c j l k rows).length=c.nodes.l.length/\P7 i ((Jb c j l k rows).getD m [])=P7 i (rows.getD m [])+if j=i then l.count (m:Int)else 0
 | [],k,rows,hl,_=>⟨hl,by simp[Jb]⟩
 | n::l,k,rows,hl,hp=>by
  have hn:=hp n List.mem_cons_self
  have ho:Qh c n=false:=by simp[Qh];omega
  simp only[Jb,ho,Bool.false_eq_true,if_false]
  obtain⟨h1,h2⟩:=q4H c j i m l (k+1) (H7 rows n.toNat (j,k)) (by rw[q1g];exact hl) (fun p h=>hp p (List.mem_cons_of_mem _ h))
  refine⟨h1,?_⟩
  rw[h2,qAn (by omega)]
  by_cases hji:j=i
  ·subst hji
   simp only[and_true,if_true,List.count_cons]
   by_cases hm:(m:Int)=n
   ·have h5:m=n.toNat:=by omega
    have h6:(n==(m:Int))=true:=by rw[hm];simp
    rw[if_pos h5,h6]
    simp only[if_true];omega
   ·have h5:¬ m=n.toNat:=by omega
    have h6:(n==(m:Int))=false:=by simp;omega
    rw[if_neg h5,h6]
    simp only[Bool.false_eq_true,if_false];omega
  ·have:¬ ((j:Int)=i):=by omega
   simp[hji,this]
theorem q2U (c:Ee) (i m:Nat):∀ (l:List Nd) (s:Nat) (rows:List Kw),rows.length=c.nodes.l.length->(∀ x∈l,∀ p∈x.inn.l,0<=p/\p<c.nodes.l.length) ->
  P7 i ((G7 c l s rows).getD m [])=P7 i (rows.getD m [])+if s<=i then((l.map fun x=>x.inn.l.count (m:Int)).getD (i-s) 0)else 0
 | [],s,rows,hl,_=>by simp[G7]
 | x::l,s,rows,hl,hp=>by
  obtain⟨h1,h2⟩:=q4H c s i m x.inn.l 0 rows hl (hp x List.mem_cons_self)
  simp only[G7]
  rw[q2U c i m l (s+1) _ h1 (fun y hy=>hp y (List.mem_cons_of_mem _ hy)),h2]
  by_cases hsi:s=i
  ·subst hsi
   have:¬ s+1<=s:=by omega
   simp[this]
  ·by_cases hlt:s<=i
   ·have e:i-s=(i-(s+1))+1:=by omega
    have h3:s+1<=i:=by omega
    simp[hsi,hlt,h3,e]
   ·have h3:¬ s+1<=i:=by omega
    simp[hsi,hlt,h3]
def q10 (c:Ee) (i:Nat):List Int:=(c.nodes.l.getD i Nd.d).inn.l
theorem q3U (c:Ee) (hp:∀ x∈c.nodes.l,∀ p∈x.inn.l,0<=p/\p<c.nodes.l.length) (i m:Nat) (hi:i<c.nodes.l.length):P7 i (Fq c m)=(q10 c i).count (m:Int):=by
 unfold Fq Eb
 rw[q2U c i m c.nodes.l 0 _ (by simp) hp]
 have h0:P7 i ((List.replicate c.nodes.l.length ([]:Kw)).getD m [])=0:=by
  simp only[List.getD_eq_getElem?_getD,List.getElem?_replicate]
  split<;>rfl
 rw[h0]
 simp[q10,hi]
theorem qGD (c:Ee) {i:Nat} (hi:i<c.nodes.l.length):(c.nodes.l.map Do).getD i 0=if Jv (H8 c i) then((q10 c i).length:Int)else 0:=by
 simp[H8,q10,Do,hi]
theorem q3V {N M:Nat} {c:Ee} {n:Nat}:∀ {r:Kw} {s:LS},s.left.length=N->(∀ p∈r,∃ i:Nat,i<N/\p.1=i)->(∀ i:Nat,i<N->s.left.getD i 0<=0->(i:Int)∈s.rdy) ->
  (∃ e,(r.foldl (D9 c n) s).rdy=s.rdy++e)/\(r.foldl (D9 c n) s).left.length=N/\(∀ i:Nat,i<N->(r.foldl (D9 c n) s).left.getD i 0=s.left.getD i 0-if Jv (H8 c i) then(P7 i r:Int)else 0)/\(∀ i:Nat,i<N->(r.foldl (D9 c n) s).left.getD i 0<=0->(i:Int)∈(r.foldl (D9 c n) s).rdy)
 | [],s,hl,_,hb=>⟨⟨[],by simp⟩,hl,fun i hi=>by simp[P7],hb⟩
 | (p1,p2)::r,s,hl,hr,hb=>by
  obtain⟨j,hj,he⟩:=hr (p1,p2) List.mem_cons_self
  simp only at he;subst he
  have key:(∃ e,(D9 c n s (j,p2)).rdy=s.rdy++e)/\(D9 c n s (j,p2)).left.length=N/\(∀ i:Nat,i<N->(D9 c n s (j,p2)).left.getD i 0=s.left.getD i 0-if Jv (H8 c i) then(if j=i then 1 else 0:Int)else 0)/\(∀ i:Nat,i<N->(D9 c n s (j,p2)).left.getD i 0<=0->(i:Int)∈(D9 c n s (j,p2)).rdy):=by
   unfold D9
   simp only[Int.toNat_natCast]
   by_cases hc:Jv (H8 c j)=true
   ·simp only[hc,if_true]
    refine⟨?_,by simp[hl],fun i hi=>?_,fun i hi h0=>?_⟩
    ·split
     ·exact⟨_,rfl⟩
     ·exact⟨[],by simp⟩
    ·rw[Q6 (by omega)]
     by_cases hij:i=j
     ·subst hij;simp[hc]
     ·have:¬ j=i:=fun e=>hij e.symm
      simp[hij,this]
    ·rw[Q6 (by omega)]at h0
     by_cases hij:i=j
     ·subst hij
      simp only[if_true]at h0
      by_cases h1:s.left.getD i 0-1=0
      ·rw[if_pos h1];simp
      ·rw[if_neg h1]
       exact hb i hi (by omega)
     ·simp only[hij,if_false]at h0
      have:=hb i hi h0
      split
      ·exact List.mem_append_left _ this
      ·exact this
   ·simp only[hc]
    refine⟨⟨[],by simp⟩,hl,fun i hi=>?_,hb⟩
    by_cases hij:j=i
    ·subst hij;simp[hc]
    ·simp[hij]
  obtain⟨⟨e1,h1⟩,h2,h3,h4⟩:=key
  obtain⟨⟨e2,g1⟩,g2,g3,g4⟩:=q3V (M:=M) (n:=n) (r:=r) h2 (fun q hq=>hr q (List.mem_cons_of_mem _ hq)) h4
  simp only[List.foldl_cons]
  refine⟨⟨e1++e2,by rw[g1,h1,List.append_assoc]⟩,g2,fun i hi=>?_,g4⟩
  rw[g3 i hi,h3 i hi]
  by_cases hc:Jv (H8 c i)=true
  ·simp only[hc,if_true]
   have:P7 i ((↑j,p2)::r)=P7 i r+if j=i then 1 else 0:=by
    by_cases hij:j=i
    ·subst hij;simp[P7]
    ·have:¬ ((j:Int)=i):=by omega
     simp[P7,hij,this]
   rw[this]
   split<;>omega
  ·simp[hc]
structure JI (c:Ee) (d:Nat) (s:LS):Prop where
 li:∃ M,LI c.nodes.l.length M s
 le:d<=s.rdy.length
 a:∀ i:Nat,i<c.nodes.l.length->s.left.getD i 0=(c.nodes.l.map Do).getD i 0-if Jv (H8 c i) then(((s.rdy.take d).map fun x=>(q10 c i).count x).sum:Int)else 0
 b:∀ i:Nat,i<c.nodes.l.length->s.left.getD i 0<=0->(i:Int)∈s.rdy
theorem JI.next {c:Ee} (hp:∀ x∈c.nodes.l,∀ p∈x.inn.l,0<=p/\p<c.nodes.l.length) {d:Nat} {s:LS} (h:JI c d s) (hd:d<s.rdy.length):JI c (d+1) ((Fq c (s.rdy.getD d 0).toNat).foldl (D9 c (s.rdy.getD d 0).toNat) s):=by
 obtain⟨M,hli⟩:=h.li
 have hg:s.rdy.getD d 0=s.rdy[d]:=by simp[hd]
 rw[hg]
 obtain⟨n,hn,he,_⟩:=hli.rd _ (List.getElem_mem hd)
 rw[he]
 simp only[Int.toNat_natCast]
 have hr:∀ p∈Fq c n,∃ i:Nat,i<c.nodes.l.length/\p.1=i:=by
  intro p hpp
  have hl:=Uu c
  have e:Fq c n=(Eb c)[n]'(by omega):=by simp[Fq,List.getD,List.getElem?_eq_getElem (show n<(Eb c).length by omega)]
  rw[e]at hpp
  exact q1i c _ (List.getElem_mem _) p hpp
 obtain⟨⟨e,h1⟩,h2,h3,h4⟩:=q3V (M:=M) (c:=c) (n:=n) (r:=Fq c n) hli.ll hr h.b
 refine⟨⟨_,hli.fold hr⟩,by rw[h1];simp;omega,fun i hi=>?_,h4⟩
 rw[h3 i hi,h.a i hi,h1]
 by_cases hc:Jv (H8 c i)=true
 ·simp only[hc,if_true]
  have ht:(s.rdy++e).take (d+1)=s.rdy.take d++[(n:Int)]:=by
   rw[List.take_append_of_le_length (by omega),List.take_add_one,List.getElem?_eq_getElem hd,he]
   rfl
  rw[ht,q3U c hp i n hi]
  simp
  omega
 ·simp[hc]
theorem Zx (p:Int) (L:List Int):∀ R:List Int,(R.map fun x=>(p::L).count x).sum=(R.map fun x=>L.count x).sum+R.count p
 | []=>rfl
 | a::R=>by
  simp only[List.map_cons,List.sum_cons]
  rw[Zx p L R,List.count_cons,List.count_cons]
  by_cases hpa:p=a
  ·subst hpa;simp only[BEq.rfl,if_true];omega
  ·have h1:(p==a)=false:=by simpa using hpa
   have h2:(a==p)=false:=by simpa using fun e=>hpa e.symm
   rw[h1,h2];simp only[Bool.false_eq_true,if_false];omega
theorem q2V:∀ (L R:List Int),R.Nodup->(R.map fun x=>L.count x).sum<=L.length
 | [],R,_=>by
  have:∀ R:List Int,(R.map fun x=>([]:List Int).count x).sum=0:=by
   intro R
   induction R with
   | nil=>rfl
   | cons a R ih=>rw[List.map_cons,List.sum_cons,ih,List.count_nil]
  rw[this];omega
 | p::L,R,h=>by
  have ih:=q2V L R h
  have h1:=List.nodup_iff_count.1 h p
  rw[Zx]
  simp only[List.length_cons];omega
theorem qER {N n:Nat} {c:Ee}:∀ {r:Kw} {s:LS},s.out.length=N->s.left.length=N->(∀ p∈r,∃ i:Nat,i<N/\p.1=i)->(∀ i:Nat,i<N->Jv (H8 c i)=true->(P7 i r:Int)<=s.left.getD i 0)->s.left.getD n 0<=0 ->
  (∀ i:Nat,i<N->s.left.getD i 0<=0->(r.foldl (D9 c n) s).out.getD i 0=s.out.getD i 0)/\(∀ i:Nat,i<N->s.out.getD i 0<=(r.foldl (D9 c n) s).out.getD i 0)/\(∀ i:Nat,i<N->Jv (H8 c i)=true->0<P7 i r->s.out.getD n 0+1<=(r.foldl (D9 c n) s).out.getD i 0)
 | [],s,ho,hl,_,_,_=>⟨fun _ _ _=>rfl,fun _ _=>Int.le_refl _,fun i _ _ h=>by simp[P7]at h⟩
 | (p1,p2)::r,s,ho,hl,hr,hc,hn=>by
  obtain⟨j,hj,he⟩:=hr (p1,p2) List.mem_cons_self
  simp only at he;subst he
  have cnt:∀ i:Nat,P7 i ((↑j,p2)::r)=P7 i r+if j=i then 1 else 0:=fun i=>by
   by_cases hij:j=i
   ·subst hij;simp[P7]
   ·have:¬ ((j:Int)=i):=by omega
    simp[P7,hij,this]
  simp only[List.foldl_cons]
  by_cases hcj:Jv (H8 c j)=true
  case neg =>
   have hs:D9 c n s (↑j,p2)=s:=by unfold D9;simp[hcj]
   rw[hs]
   obtain⟨a1,a2,a3⟩:=qER (n:=n) (c:=c) (r:=r) ho hl (fun p hp=>hr p (List.mem_cons_of_mem _ hp)) (fun i hi hci=>by have:=hc i hi hci;rw[cnt]at this;omega) hn
   refine⟨a1,a2,fun i hi hci h=>a3 i hi hci ?_⟩
   rw[cnt]at h
   have:¬ j=i:=fun e=>hcj (e ▸ hci)
   simpa[this]using h
  have hj1:=hc j hj hcj
  rw[cnt,if_pos rfl]at hj1
  have hnj:¬ n=j:=fun e=>by subst e;omega
  have so:∀ i:Nat,(D9 c n s (↑j,p2)).out.getD i 0=if i=j then max (s.out.getD j 0) (s.out.getD n 0+1)else s.out.getD i 0:=fun i=>by
   unfold D9
   simp only[Int.toNat_natCast,hcj,if_true]
   rw[Q6 (by omega)]
  have sl:∀ i:Nat,(D9 c n s (↑j,p2)).left.getD i 0=if i=j then s.left.getD j 0-1 else s.left.getD i 0:=fun i=>by
   unfold D9
   simp only[Int.toNat_natCast,hcj,if_true]
   rw[Q6 (by omega)]
  have lo:(D9 c n s (↑j,p2)).out.length=N:=by unfold D9;simp[hcj,ho]
  have ll:(D9 c n s (↑j,p2)).left.length=N:=by unfold D9;simp[hcj,hl]
  obtain⟨a1,a2,a3⟩:=qER (n:=n) (c:=c) (r:=r) lo ll (fun p hp=>hr p (List.mem_cons_of_mem _ hp)) (fun i hi hci=>by
   have:=hc i hi hci
   rw[cnt]at this
   rw[sl]
   by_cases hij:i=j
   ·subst hij;simp only[if_true]at this ⊢;omega
   ·have h':¬ j=i:=fun e=>hij e.symm
    simp only[hij,h',if_false]at this ⊢;omega) (by rw[sl,if_neg hnj];exact hn)
  refine⟨fun i hi h0=>?_,fun i hi=>?_,fun i hi hci h=>?_⟩
  ·have hij:¬ i=j:=fun e=>by subst e;omega
   rw[a1 i hi (by rw[sl,if_neg hij];exact h0),so,if_neg hij]
  ·have:=a2 i hi
   rw[so]at this
   split at this
   ·rename_i e;subst e;omega
   ·exact this
  ·by_cases hij:i=j
   ·subst hij
    have:=a2 i hi
    rw[so,if_pos rfl]at this
    omega
   ·have h':¬ j=i:=fun e=>hij e.symm
    rw[cnt,if_neg h']at h
    have:=a3 i hi hci (by omega)
    rw[so,if_neg hnj]at this
    exact this
def KI (c:Ee) (d:Nat) (s:LS):Prop:=∀ i:Nat,i<c.nodes.l.length->Jv (H8 c i)=true->∀ q:Nat,(q:Int)∈q10 c i->(q:Int)∈s.rdy.take d->s.out.getD q 0+1<=s.out.getD i 0
theorem KI.next {c:Ee} (hp:∀ x∈c.nodes.l,∀ p∈x.inn.l,0<=p/\p<c.nodes.l.length) {d:Nat} {s:LS} (h:JI c d s) (hk:KI c d s) (hd:d<s.rdy.length):KI c (d+1) ((Fq c (s.rdy.getD d 0).toNat).foldl (D9 c (s.rdy.getD d 0).toNat) s):=by
 obtain⟨M,hli⟩:=h.li
 have hg:s.rdy.getD d 0=s.rdy[d]:=by simp[hd]
 rw[hg]
 obtain⟨n,hn,he,hn0⟩:=hli.rd _ (List.getElem_mem hd)
 rw[he]
 simp only[Int.toNat_natCast]
 have hr:∀ p∈Fq c n,∃ i:Nat,i<c.nodes.l.length/\p.1=i:=by
  intro p hpp
  have hl:=Uu c
  have e:Fq c n=(Eb c)[n]'(by omega):=by simp[Fq,List.getD,List.getElem?_eq_getElem (show n<(Eb c).length by omega)]
  rw[e]at hpp
  exact q1i c _ (List.getElem_mem _) p hpp
 have htk:s.rdy.take (d+1)=s.rdy.take d++[(n:Int)]:=by
  rw[List.take_add_one,List.getElem?_eq_getElem hd,he];rfl
 have hnd:(s.rdy.take (d+1)).Nodup:=hli.nd.sublist (List.take_sublist _ _)
 have hcnt:∀ i:Nat,i<c.nodes.l.length->Jv (H8 c i)=true->(P7 i (Fq c n):Int)<=s.left.getD i 0:=by
  intro i hi hci
  have:=q2V (q10 c i) _ hnd
  rw[htk]at this
  simp only[List.map_append,List.sum_append,List.map_cons,List.map_nil,List.sum_cons,List.sum_nil]at this
  rw[h.a i hi,qGD c hi,q3U c hp i n hi]
  simp only[hci,if_true]
  omega
 obtain⟨⟨e,h1⟩,_,_,_⟩:=q3V (M:=M) (c:=c) (n:=n) (r:=Fq c n) hli.ll hr h.b
 obtain⟨a1,a2,a3⟩:=qER (n:=n) (c:=c) hli.lo hli.ll hr hcnt hn0
 intro i hi hci q hq hqt
 rw[h1,List.take_append_of_le_length (by omega),htk]at hqt
 rcases List.mem_append.1 hqt with hqt|hqt
 ·obtain⟨q',hq1,hq2,hq3⟩:=hli.rd _ (List.mem_of_mem_take hqt)
  have:q=q':=by omega
  subst this
  rw[a1 q hq1 hq3]
  have h4:=hk i hi hci q hq hqt
  have h5:=a2 i hi
  omega
 ·have:q=n:=by simp at hqt;omega
  subst this
  rw[a1 q hn hn0]
  refine a3 i hi hci ?_
  rw[q3U c hp i q hi]
  exact List.count_pos_iff.2 hq
def qH4 (c:Ee) (i:Nat):Int:=(q3S c).2.out.getD i 0
theorem q9S {c:Ee} (h:Tf c=0):E4 c=0/\¬ (q3S c).1<c.nodes.l.length:=by
 unfold Tf at h
 split at h
 ·rename_i h1;exact absurd h h1
 split at h
 ·cases h
 ·rename_i h1 h2;exact⟨by simpa using h1,h2⟩
def qLJ (lt:Int->Int->Bool):Nat->List Int->List Int
 | 0,l=>l
 | j+1,l=>if lt (l.getD (j+1) 0) (l.getD j 0)then qLJ lt j (qLG l (j+1) j)else l
def qLK (lt:Int->Int->Bool):Nat->Nat->List Int->List Int
 | 0,_,l=>l
 | f+1,i,l=>qLK lt f (i+1) (qLJ lt i l)
def rng (n:Nat):List Int:=(List.range n).map fun i:Nat=>(i:Int)
def qLL (c:Ee) (a b:Int):Bool:=decide (qH4 c a.toNat<qH4 c b.toNat)
def qIo (c:Ee):List Int:=qLK (qLL c) (c.nodes.l.length-1) 1 (rng c.nodes.l.length)
def qIp (c:Ee) (nets:List Int) (i:Nat):List Int:=(q10 c i).map fun k=>nets.getD k.toNat 0
def qLM (c:Ee) (nets:List Int) (n:Int):List Int:=if Jv (H8 c n.toNat)then nets.set n.toNat (qLI (H8 c n.toNat) (qIp c nets n.toNat))else nets
def qMU (c:Ee) (order init:List Int):List Int:=order.foldl (qLM c) init
def qBr:List Int->List Int->List Int->List Int
 | n::ns,v::vs,nets=>qBr ns vs (nets.set n.toNat v)
 | _,_,nets=>nets
def qAo (c:Ee):List Int:=ofL [0] c.nodes.l 0
def qLN (c:Ee) (pin pst:List Int):List Int:=qBr (qAk c) pst (qBr (qAo c) pin (List.replicate c.nodes.l.length 0))
end Go.Lg
namespace Go.Lg
open Go
section
variable {P:Program} {Γ:Tables} {Q:AX->St->Prop} {s:St}
/- probecard/logic.Known (function 85) -/
abbrev Zy:IC:=(.seq (.reg [od 2 (.mv kF)] [kp [0] []]) (.seq (.reg [om 3 0,od 4 (.bin .leq (tm 3) (ku 1)),om 2 4] [kp [2] []]) .ret))
def Zz:List RV:=[.tmp 2]
/- probecard/logic.Not (function 62) -/
abbrev q2W:IC:=(.seq (.reg [od 2 (.mv (ku 0))] [kp [0] []]) (.seq (.seq (.reg [om 3 0,od 4 (.call 85 [(tm 3)])] [kp [0,4] []]) (.cond (tm 4) (.seq (.reg [om 5 0,od 6 (.bin .sub (ku 1) (tm 5)),om 2 6] [kp [2] []]) .ret) .skip)) (.seq (.reg [od
 2 (.mv (ku 2))] [kp [2] []]) .ret)))
def Y2:List RV:=[.tmp 2]
end
end Go.Lg
namespace Go.Lg
open Go Go.Proofs
theorem q4V:Ax Tryz.prog 85 Zy 5 1 Zz=true:=by kernel_rfl
theorem q6a:Ax Tryz.prog 62 q2W 7 1 Y2=true:=by kernel_rfl
end Go.Lg
namespace Go.Lg
open Go Go.Proofs
variable {Γ:Tables}
theorem qAp (v:Int):A6 Tryz.prog Γ 85 [tK v] (tB (q5q v)):=by
 refine Af q4V rfl ?_
 simp[Zy,Zz,Df,q5q]
theorem qES (v:Int) (h0:0<=v):A6 Tryz.prog Γ 62 [tK v] (tK (qAl v)):=by
 refine Af q6a rfl ?_
 simp[q2W]
 refine A4 (qAp v) rfl ?_
 by_cases h:v<=1
 ·simp(disch:=omega) [Y2,Df,q5q,qAl,h,q0e]
 ·simp(disch:=omega) [Y2,Df,q5q,qAl,h,q0e]
abbrev Da (l:List Int):List (List T):=Ak tK l
def tV (s:Sl Int):T:=.sl (Da s.l) s.cap s.nl
theorem ge1 {f:Int->T} {l:List Int} {i:Nat} (hi:i<l.length):(Ak f l)[i]?.getD []=[f (l.getD i 0)]:=by
 have hget:=Ie (f:=f) 0 hi
 have hgg:l[i]?.getD 0=l.getD i 0:=by simp[List.getD_eq_getElem?_getD]
 rw[hgg]at hget
 exact hget
end Go.Lg
namespace Go.Lg
open Go
section
variable {P:Program} {Γ:Tables} {Q:AX->St->Prop} {s:St}
/- probecard/netlists.Inputs (function 29) -/
abbrev Ti:IC:=(.seq (.reg [od 1 (.box true (tm 0)),od 2 (.mv kN)] [kp [1] []]) (.seq (.reg [od 3 (lG 4 1),od 4 (.bsl true 42 1 [(ku 0)]),od 5 (.call 52 [(tm 3),(tm 4)]),om 2 5] [kp [2] []]) .ret))
def Tj:List RV:=[.tmp 2]
end
end Go.Lg
namespace Go.Lg
open Go Go.Proofs
theorem q0r:Ax Tryz.prog 29 Ti 6 1 Tj=true:=by kernel_rfl
end Go.Lg
namespace Go.Lg
open Go Go.Proofs
variable {Γ:Tables}
@[simp] theorem qLO {s:Nat} {e:List T}:Gk s [e]=(e.length=s):=propext ⟨fun h=>h e List.mem_cons_self,fun h x hx=>by simp at hx;subst hx;exact h⟩
def qET (nets:List Int) (n:Int):Int:=if n<0\/(nets.length:Int)<=n then 2 else q3T (nets.getD n.toNat 0)
def qLP (c:Ee) (nets:List Int) (n:Int):Int:=if(q10 c n.toNat).length=1 then q5p (qET nets ((q10 c n.toNat).getD 0 0))else 2
def qMV (c:Ee) (nets:List Int):List Int:=c.outs.l.map (qET nets)
def qAq (c:Ee) (nets:List Int):List Int:=(qAk c).map (qLP c nets)
def nd (c:Ee) (n:Int):Nd:=c.nodes.l.getD n.toNat Nd.d
end Go.Lg
namespace Go.Lg
open Go
section
variable {P:Program} {Γ:Tables} {Q:AX->St->Prop} {s:St}
/- probecard/probecardlaw06.Same (function 25) -/
abbrev q11:IC:=.gh (.seq (.seq (.reg [om 11 5,om 12 0,od 13 (le 0 12),od 14 (.bin .lss (tm 11) (tm 13))] [kp [0,1,5,14] []]) (.cond (tm 14) .skip (.exit 0))) (.seq (.block 1 (.seq (.reg [om 17 0,om 18 5,od 19 (ia 1 17 18),od 20 (ld 1
 19),om 21 1,om 22 5,od 23 (ia 1 21 22),od 24 (ld 1 23),od 25 (.bin .neq (tm 20) (tm 24))] [kp [0,1,5,25] []]) (.cond (tm 25) (.seq (.reg [od 4 (.mv (ki 1))] [kp [4] []]) .ret) .skip))) (.reg [om 15 5,od 16 (.bin .add (tm
 15) (ki 1)),om 5 16] [kp [0,1,5] []]))) [kp [0,1,5] []]
def Pi:IC:=.loop q11
abbrev Vr:IC:=(.seq (.reg [od 4 (.mv (ki 0))] [kp [0,1] []]) (.seq (.seq (.reg [om 6 0,od 7 (le 0 6),om 8 1,od 9 (le 0 8),od 10 (.bin .neq (tm 7) (tm 9))] [kp [0,1,10] []]) (.cond (tm 10) (.seq (.reg [od 4 (.mv (ki 1))] [kp [4] []]) .ret)
 .skip)) (.seq (.seq (.reg [od 5 (.mv (ki 0))] [kp [0,1,5] []]) (.block 0 Pi)) (.seq (.reg [od 4 (.mv (ki 0))] [kp [4] []]) .ret))))
theorem Ux (h:∀ K:St->Prop,K=run P Γ Pi Q->run P Γ q11 (B1 K Q) s):run P Γ Pi Q s:=Au h
def Pj:List RV:=[.tmp 4]
end
end Go.Lg
namespace Go.Lg
open Go Go.Proofs
theorem q5r:Ax Tryz.prog 25 Vr 26 2 Pj=true:=by kernel_rfl
end Go.Lg
namespace Go.Lg
open Go Go.Proofs
variable {Γ:Tables}
def q7U (a b:List Int):Int:=if a=b then 0 else 1
theorem qEU {a b:List Int} (hl:a.length=b.length) (h:∀ j,j<a.length->a.getD j 0=b.getD j 0):a=b:=by
 refine List.ext_getElem hl fun i h1 h2=>?_
 have:=h i h1
 rwa [q4p h1,q4p h2]at this
theorem q7V {Q:AX->St->Prop} (a b:Sl Int) (hl:a.l.length<=1000000000) (he:a.l.length=b.l.length)
  (h0:a.l=b.l->Q (.exit 0) ⟨[(0,.t (tV a)),(1,.t (tV b)),(5,.t (tI a.l.length)),(14,.t (tB false))],[]⟩)
  (h1:a.l≠b.l->Q .ret ⟨[(4,.t (tI 1))],[]⟩):∀ (k i:Nat),k+i=a.l.length->(∀ j,j<i->a.l.getD j 0=b.l.getD j 0) ->
  run Tryz.prog Γ Pi Q ⟨[(0,.t (tV a)),(1,.t (tV b)),(5,.t (tI i))],[]⟩
 | 0,i,h,hp=>by
  refine Ux fun K hK=>?_
  have h2:i=a.l.length:=by omega
  subst h2
  simp[tV,A3]
  exact h0 (qEU he hp)
 | k+1,i,h,hp=>by
  refine Ux fun K hK=>?_
  have h2:i<a.l.length:=by omega
  have h3:i<b.l.length:=by omega
  have e1:=ge1 (f:=tK) h2
  have e2:=ge1 (f:=tK) h3
  by_cases hv:a.l.getD i 0=b.l.getD i 0
  ·have ih:=q7V a b hl he h0 h1 k (i+1) (by omega) (fun j hj=>by
    rcases Nat.lt_succ_iff_lt_or_eq.1 hj with hj|rfl
    ·exact hp j hj
    ·exact hv)
   rw[hv]at e1
   generalize b.l.getD i 0=v at *
   simp(disch:=omega) [h2,h3,tV,A3,Aa,e1,e2,A5]
   rw[hK]
   simpa[tV]using ih
  ·have hne:a.l≠b.l:=fun e=>hv (by rw[e])
   generalize b.l.getD i 0=v at *
   generalize a.l.getD i 0=u at *
   simp(disch:=omega) [h2,h3,tV,A3,Aa,e1,e2,A5,hv]
   exact h1 hne
theorem q7W (a b:Sl Int) (hl:a.l.length<=1000000000):A6 Tryz.prog Γ 25 [tV a,tV b] (tI (q7U a.l b.l)):=by
 refine Af q5r rfl ?_
 by_cases he:a.l.length=b.l.length
 ·have g:=fun Q h0 h1=>q7V (Γ:=Γ) (Q:=Q) a b hl he h0 h1 a.l.length 0 (by omega) (by simp)
  simp[Vr,tV,A3,he]
  simp only[tV]at g
  refine g _ (fun h=>?_) (fun h=>?_)
  ·simp[Pj,Df,q7U,h]
  ·simp[Pj,Df,q7U,h]
 ·have hne:¬ a.l=b.l:=fun e=>he (by rw[e])
  have he':¬ (a.l.length:Int)=b.l.length:=by omega
  simp[Vr,tV,A3,he,he',Pj,Df,q7U,hne]
def v1 (v:Int):Sl Int:=⟨[v],none,none⟩
end Go.Lg
namespace Go.Lg
open Go Go.Proofs Go.Proofs.YtjhbkddcmcfpaaaGreatDoor
theorem qGE:Rd Tryz.prog 22 fun ts=>∃ s:Sl Int,ts=[tV s]/\∀ b∈s.l,Byt b:=by
 refine(qED Tryz.underlying22 qIi (by decide) qMN).mono fun ts ⟨es,cap,nl,h,_,hes⟩=>?_
 obtain⟨l,rfl,hl⟩:=qBq (f:=fun n:Int=>[tK n]) (Q:=Byt) fun x hx=>(hes x hx).1
 exact⟨⟨l,cap,nl⟩,h,hl⟩
end Go.Lg
namespace Go.Proofs.YtjhbkddcmcfpaaaGreatDoor
open Go Go.Lg Go.ChangeShapes Go.WideShapes Go.ChangeAt Go.RowKit
theorem qIq {H:Type} {enc:TypeId×Value->H} {W:World} {base:Nat} {v:Value} {d:DataW H} {p:List MemPlace} (hval:Value.okWide Tryz.prog W .any base 22 v) (h:DataW.Trod enc Tryz.prog W 0 (fun _=>true) true 22 v d p):∃ s:Sl Int,(∀ b∈s.l,Byt b)/\TR W (Old W) (tV s) v:=by
 obtain⟨a,len,cap,rfl⟩:=okWide_slice Tryz.underlying22 hval
 obtain⟨fuel,hf⟩:=h
 obtain⟨ts,⟨s,rfl,hs⟩,htr,_⟩:=qGE H enc W true fuel _ _ hf
 obtain⟨y,ys,he,hy,_⟩:=htr.cons_inv
 simp[Value.cells]at he
 exact⟨s,hs,by rw[he.1];exact hy⟩
end Go.Proofs.YtjhbkddcmcfpaaaGreatDoor
namespace Go.Lg
open Go Go.Proofs
structure NG (B:Bool) (ns:List Nd) (i:Nat) (x:Nd):Prop where
 k:0<=x.k/\x.k<=15
 f:(fan x.k).1<=x.inn.l.length/\(x.inn.l.length:Int)<=(fan x.k).2
 inn:∀ p∈x.inn.l,0<=p/\p<ns.length
 top:1<=x.k/\x.k<=13->∀ p∈x.inn.l,p<i
 bus:x.k=13->∀ p∈x.inn.l,(ns.getD p.toNat Nd.d).k=12
 mm:(x.k≠15->x.mem=0/\x.bit=0)/\(x.k=15->B=true/\x.mem=0/\0<=x.bit/\x.bit<=1)
theorem NG.mono {B:Bool} {ns ys:List Nd} {i:Nat} {x:Nd} (h:NG B ns i x):NG B (ns++ys) i x :=
 ⟨h.k,h.f,fun p hp=>by have:=h.inn p hp;simp;omega,h.top,fun hk p hp=>by
  have h1:=h.inn p hp
  rw[List.getD_eq_getElem?_getD,List.getElem?_append_left (by omega),<- List.getD_eq_getElem?_getD]
  exact h.bus hk p hp,h.mm⟩
def GNs (B:Bool) (ns:List Nd):Prop:=∀ i (h:i<ns.length),NG B ns i ns[i]
theorem GNs.add {B:Bool} {ns:List Nd} {y:Nd} (h:GNs B ns) (hy:NG B (ns++[y]) ns.length y):GNs B (ns++[y]):=by
 intro i hi
 by_cases h1:i<ns.length
 ·rw[List.getElem_append_left h1];exact(h i h1).mono
 ·have:i=ns.length:=by simp at hi;omega
  subst this
  simpa using hy
end Go.Lg
namespace Go.Lg
open Go Go.Proofs
variable {Γ:Tables}
theorem Blw.below {a b:Int} (h:Blw a b):qEP a b=true:=by
 unfold qEP
 rcases h with rfl|rfl
 ·simp
 ·simp[q3T]
theorem qAm.map {α:Type} {f g:α->Int} {l:List α} (h:∀ x∈l,Blw (f x) (g x)):qAm (l.map f) (l.map g):=by
 refine⟨by simp,fun i=>?_⟩
 by_cases hi:i<l.length
 ·rw[q4p (by simpa using hi),q4p (by simpa using hi),List.getElem_map,List.getElem_map]
  exact h _ (List.getElem_mem hi)
 ·rw[List.getD_eq_getElem?_getD,List.getD_eq_getElem?_getD,List.getElem?_eq_none (by simp;omega),List.getElem?_eq_none (by simp;omega)]
  exact .refl _
end Go.Lg
namespace Go.Lg
open Go Go.Proofs
structure T3 where
 a:Int
 b:Int
 d:Int
deriving DecidableEq
def qGF (c:Ee) (rd:List (List Int)):List Int:=(mems c).map fun n=>(rd.getD (nd c n).mem.toNat []).getD (nd c n).bit.toNat 0
def qLQ (c:Ee) (pin pst:List Int) (rd:List (List Int)):List Int:=qBr (mems c) (qGF c rd) (qLN c pin pst)
def qLR (c:Ee) (pin pst:List Int) (rd:List (List Int)):List Int:=qMU c (qIo c) (qLQ c pin pst rd)
def qAr:Nat->List Int->Bool
 | i,[]=>decide (i=0)
 | i,v::l=>if v<=1/\v≠(i:Int) % 2 then false else qAr (i / 2) l
def qH5 (a b:Int):Int:=if a=b then a else 2
def qGG (w:List Int) (b:Nat):Int:=if b<w.length then q5p (w.getD b 0)else 2
def qH6 (w:List Int) (first:Bool):Nat->Nat->List Int->List Int
 | 0,_,out=>out
 | k+1,b,out=>qH6 w first k (b+1) (out.set b (if first then qGG w b else qH5 (out.getD b 0) (qGG w b)))
def qH7 (addr:List Int):Nat->List (List Int)->List Int×Bool->List Int×Bool
 | _,[],s=>s
 | i,w::ws,s=>qH7 addr (i+1) ws (if qAr i addr then(qH6 w s.2 s.1.length 0 s.1,false)else s)
def qH8 (words:List (List Int)) (addr:List Int):List Int:=match words with
 | []=>[]
 | w::ws=>(qH7 addr 0 (w::ws) (List.replicate w.length 2,true)).1
def qLS (addr:List Int) (en:Int):Bool:=decide (en=1) && !addr.any fun v=>!q5q v
def qIr (i:Nat) (addr:List Int) (en old new:Int):Int:=if en=0\/qAr i addr=false then old else if qLS addr en=true then new else qH5 old new
def qEV (i:Nat) (addr data:List Int) (en:Int) (w:List Int):Nat->Nat->List Int
 | 0,_=>[]
 | k+1,b=>qIr i addr en (qGG w b) (qGG data b)::qEV i addr data en w k (b+1)
def qAs (addr data:List Int) (en:Int):Nat->List (List Int)->List (List Int)
 | _,[]=>[]
 | i,w::ws=>qEV i addr data en w w.length 0::qAs addr data en (i+1) ws
end Go.Lg
namespace Go.Lg
open Go
section
variable {P:Program} {Γ:Tables} {Q:AX->St->Prop} {s:St}
/- strconv.Itoa (function 15) -/
abbrev Yh:IC:=(.seq (.reg [od 2 (.mv (.const (sV [])))] [kp [0] []]) (.seq (.reg [om 3 0,od 4 (.call 32 [(tm 3)]),om 2 4] [kp [2] []]) .ret))
def Yi:List RV:=[.tmp 2]
/- internal/strconv.Itoa (function 32) -/
abbrev Uy:IC:=(.seq (.reg [od 2 (.mv (.const (sV [])))] [kp [0] []]) (.seq (.reg [om 3 0,od 4 (.call 54 [(tm 3),(ki 10)]),om 2 4] [kp [2] []]) .ret))
def Uz:List RV:=[.tmp 2]
/- internal/strconv.FormatInt (function 54) -/
end
end Go.Lg
namespace Go.Lg
open Go Go.Proofs
theorem q3W:Ax Tryz.prog 15 Yh 5 1 Yi=true:=by kernel_rfl
theorem q1l:Ax Tryz.prog 32 Uy 5 1 Uz=true:=by kernel_rfl
end Go.Lg
namespace Go.Lg
open Go Go.Proofs
variable {Γ:Tables}
abbrev Pnt:=Int×Int
def qEW (l:List (Int×Pnt)) (n:Int):Pnt:=match l.find? (fun p=>p.1==n) with|some p=>p.2|none=>(0,0)
def qH9 (l:List (Int×Pnt)):Prop:=∀ p∈l,-1000000<=p.2.1/\p.2.1<=1000000 /\ -1000000<=p.2.2/\p.2.2<=1000000
theorem qH9.at {l:List (Int×Pnt)} (h:qH9 l) (n:Int) : -1000000<=(qEW l n).1/\(qEW l n).1<=1000000 /\ -1000000<=(qEW l n).2/\(qEW l n).2<=1000000:=by
 unfold qEW
 split
 ·rename_i p hp
  exact h p (List.mem_of_find?_eq_some hp)
 ·simp
def rowAt:List Pnt:=[(0,0),(5,0),(1,0)]
def qLT (l:List (Sl Int)):List Int:=(l.map fun s=>s.l).flatten
end Go.Lg
namespace Go.Lg
open Go Go.Proofs
def m0 (c:Ee) (ch:List (Sl Int)):Nat:=c.nodes.l.length+1+ch.length
end Go.Lg
namespace Go.Lg
open Go Go.Proofs
variable {Γ:Tables}
def Sl.z:Sl Int:=⟨[],none,none⟩
def Sm (B:Nat) (t:T3):Prop:=(0<=t.a/\t.a<=B)/\(0<=t.b/\t.b<=B)/\(0<=t.d/\t.d<=B)
theorem Sm.mono {B C:Nat} (hBC:B<=C) {t:T3} (h:Sm B t):Sm C t:=by
 obtain⟨⟨a0,a1⟩,⟨b0,b1⟩,⟨d0,d1⟩⟩:=h
 exact⟨⟨a0,by omega⟩,⟨b0,by omega⟩,⟨d0,by omega⟩⟩
structure Stt where
 dff:Sl Int
 words:Sl (Sl (Sl Int))
 read:Sl (Sl Int)
def Stt.rd (s:Stt):List (List Int):=s.read.l.map (·.l)
def Stt.ws (s:Stt):List (List (List Int)):=s.words.l.map fun w=>w.l.map (·.l)
def Sl.zz:Sl (Sl Int):=⟨[],none,none⟩
def q3X (nets:List Int) (l:List Int):List Int:=l.map fun k=>nets.getD k.toNat 0
structure q5s (c:Ee) (s:Stt):Prop where
 d:s.dff.l.length=(qAk c).length
 w:s.words.l.length=c.mems.l.length
 r:s.read.l.length=c.mems.l.length
 wl:∀ i,i<c.mems.l.length->(s.words.l.getD i Sl.zz).l.length=2 ^ (c.mems.l.getD i Mm.d).addr.l.length
 wr:∀ i,i<c.mems.l.length->∀ w∈(s.words.l.getD i Sl.zz).l,w.l.length=(c.mems.l.getD i Mm.d).data.l.length
 rl:∀ i,i<c.mems.l.length->(s.read.l.getD i Sl.z).l.length=(c.mems.l.getD i Mm.d).data.l.length
 vd:∀ v∈s.dff.l,0<=v/\v<=2
 vw:∀ w∈s.words.l,∀ r∈w.l,∀ v∈r.l,0<=v/\v<=2
 vr:∀ r∈s.read.l,∀ v∈r.l,0<=v/\v<=2
theorem qCx {c:Ee} (h:E4 c=0):∀ m∈c.mems.l,(1<=m.addr.l.length/\m.addr.l.length<=8)/\(1<=m.data.l.length/\m.data.l.length<=32)/\(∀ n∈m.addr.l,0<=n/\n<c.nodes.l.length)/\(∀ n∈m.data.l,0<=n/\n<c.nodes.l.length)/\0<=m.write/\m.write<c.nodes.l.length:=by
 unfold E4 at h
 split at h
 ·cases h
 split at h
 ·cases h
 split at h
 ·rename_i h2;exact absurd h h2
 split at h
 ·rename_i h2;exact absurd h h2
 split at h
 ·rename_i h2;exact absurd h h2
 rename_i h2
 intro m hm
 have h3:=Vq (by simpa using h2) m hm
 unfold O2 at h3
 split at h3
 ·cases h3
 rename_i h4
 split at h3
 ·cases h3
 rename_i h5
 simp only[not_or,Bool.not_eq_true]at h4 h5
 obtain⟨a1,a2⟩:=h4
 obtain⟨a3,a4,a5⟩:=h5
 simp[Ta]at a1 a2
 simp[Qh]at a5
 refine⟨⟨by have:=List.length_pos_iff.2 a1.1;omega,by omega⟩,⟨by have:=List.length_pos_iff.2 a2.1;omega,by omega⟩,q2O a3,q2O a4,a5.1,a5.2⟩
structure MOk (c:Ee):Prop where
 ok:COk c
 lev:Tf c=0
 n:c.nodes.l.length<=1000000
theorem MOk.mf {c:Ee} (h:MOk c):∀ m∈c.mems.l,(1<=m.addr.l.length/\m.addr.l.length<=8)/\(1<=m.data.l.length/\m.data.l.length<=32)/\(∀ n∈m.addr.l,0<=n/\n<c.nodes.l.length)/\(∀ n∈m.data.l,0<=n/\n<c.nodes.l.length)/\0<=m.write/\m.write<c.nodes.l.length:=qCx (q9S h.lev).1
theorem q7X {α:Type} {l:List α} {d:α} {i:Nat} (h:i<l.length):l.getD i d∈l:=by
 rw[show l.getD i d=l[i]by simp[List.getD_eq_getElem?_getD,h]]
 exact List.getElem_mem h
theorem q5s.words {c:Ee} {s:Stt} (h:MOk c) (H:q5s c s):∀ w∈s.words.l,w.l.length<=256/\w.l≠[]/\∀ r∈w.l,r.l.length<=32:=by
 intro w hw
 obtain⟨i,hi,rfl⟩:=List.getElem_of_mem hw
 have hi':i<c.mems.l.length:=by rw[<- H.w];exact hi
 have e:s.words.l.getD i Sl.zz=s.words.l[i]:=by simp[List.getD_eq_getElem?_getD,hi]
 have h1:=H.wl i hi'
 have h2:=H.wr i hi'
 have h3:=h.mf _ (q7X (d:=Mm.d) hi')
 rw[e]at h1 h2
 have h4:2 ^ (c.mems.l.getD i Mm.d).addr.l.length<=2 ^ 8:=Nat.pow_le_pow_right (by omega) h3.1.2
 have h5:0<2 ^ (c.mems.l.getD i Mm.d).addr.l.length:=Nat.pow_pos (by omega)
 exact⟨by omega,fun e=>by have:=congrArg List.length e;rw[h1,List.length_nil]at this;omega,fun r hr=>by rw[h2 r hr];exact h3.2.1.2⟩
theorem q5s.reads {c:Ee} {s:Stt} (h:MOk c) (H:q5s c s):∀ r∈s.read.l,r.l.length<=32:=by
 intro r hr
 obtain⟨i,hi,rfl⟩:=List.getElem_of_mem hr
 have hi':i<c.mems.l.length:=by rw[<- H.r];exact hi
 have e:s.read.l.getD i Sl.z=s.read.l[i]:=by simp[List.getD_eq_getElem?_getD,hi]
 have h1:=H.rl i hi'
 have h3:=h.mf _ (q7X (d:=Mm.d) hi')
 rw[e]at h1
 rw[h1];exact h3.2.1.2
def qEX (R:List (List Int)):Sl (Sl Int):=⟨R.map fun r=>⟨r,none,none⟩,some R.length,none⟩
def qEY (nets:List Int) (ms:List Mm) (ws:List (Sl (Sl Int))):List (Sl Int):=List.zipWith (fun m w=>⟨qH8 (w.l.map (·.l)) (q3X nets m.addr.l),none,none⟩) ms ws
def qEZ (nets:List Int) (ms:List Mm) (ws:List (Sl (Sl Int))):List (Sl (Sl Int)):=List.zipWith (fun m w=>qEX (qAs (q3X nets m.addr.l) (q3X nets m.data.l) (nets.getD m.write.toNat 0) 0 (w.l.map (·.l)))) ms ws
def qBs (c:Ee) (s:Stt) (nets:List Int):Stt :=
 ⟨⟨qAq c nets,some (qAq c nets).length,none⟩,⟨qEZ nets c.mems.l s.words.l,some c.mems.l.length,none⟩,⟨qEY nets c.mems.l s.words.l,some c.mems.l.length,none⟩⟩
def q7Y (c:Ee) (s:Stt) (inn:List Int):List Int:=qLR c inn s.dff.l s.rd
def qEa (rel:Int->Int->Prop) (l m:List Int):Prop:=l.length=m.length/\∀ i,i<l.length->rel (l.getD i 0) (m.getD i 0)
structure qIs (rel:Int->Int->Prop) (a b:Stt):Prop where
 d:qEa rel a.dff.l b.dff.l
 rl:a.read.l.length=b.read.l.length
 r:∀ i,i<a.read.l.length->qEa rel (a.read.l.getD i Sl.z).l (b.read.l.getD i Sl.z).l
 wl:a.words.l.length=b.words.l.length
 w:∀ i,i<a.words.l.length->(a.words.l.getD i Sl.zz).l.length=(b.words.l.getD i Sl.zz).l.length/\∀ j,j<(a.words.l.getD i Sl.zz).l.length->qEa rel ((a.words.l.getD i Sl.zz).l.getD j Sl.z).l ((b.words.l.getD i Sl.zz).l.getD j Sl.z).l
end Go.Lg
namespace Go.Lg
open Go Go.Proofs
def V3 (v:Int):Prop:=0<=v/\v<=2
end Go.Lg
namespace Go.Lg
open Go Go.Proofs
variable {Γ:Tables}
theorem qHA {α:Type} {l:List α} (h:l.length=1):∃ a,l=[a]:=by
 match l,h with
 | [a],_=>exact⟨a,rfl⟩
theorem qBt {α:Type} {l:List α} (h:l.length=2):∃ a b,l=[a,b]:=by
 match l,h with
 | [a,b],_=>exact⟨a,b,rfl⟩
theorem st2 {c:Ee} {s:Stt} (H:q5s c s) {m:Mm} (hm:c.mems.l=[m]) (ha:m.addr.l.length=1) (hd:m.data.l.length=2) :
  ∃ W r0 r1 a b cc d rd e f,s.words.l=[W]/\W.l=[r0,r1]/\r0.l=[a,b]/\r1.l=[cc,d]/\s.read.l=[rd]/\rd.l=[e,f]/\V3 a/\V3 b/\V3 cc/\V3 d/\V3 e/\V3 f:=by
 have hl:c.mems.l.length=1:=by rw[hm];rfl
 obtain⟨W,hW⟩:=qHA (H.w.trans hl)
 obtain⟨rd,hr⟩:=qHA (H.r.trans hl)
 have wl:=H.wl 0 (by omega)
 have wr:=H.wr 0 (by omega)
 have rl:=H.rl 0 (by omega)
 have em:c.mems.l.getD 0 Mm.d=m:=by rw[hm];rfl
 have eW:s.words.l.getD 0 Sl.zz=W:=by rw[hW];rfl
 have er:s.read.l.getD 0 Sl.z=rd:=by rw[hr];rfl
 rw[eW,em,ha]at wl
 rw[eW,em,hd]at wr
 rw[er,em,hd]at rl
 obtain⟨r0,r1,hW2⟩:=qBt (show W.l.length=2 from wl)
 obtain⟨e,f,hrd⟩:=qBt rl
 obtain⟨a,b,h0⟩:=qBt (wr r0 (by rw[hW2];simp))
 obtain⟨cc,d,h1⟩:=qBt (wr r1 (by rw[hW2];simp))
 have v0:=H.vw W (by rw[hW];simp) r0 (by rw[hW2];simp)
 have v1:=H.vw W (by rw[hW];simp) r1 (by rw[hW2];simp)
 have v2:=H.vr rd (by rw[hr];simp)
 exact⟨W,r0,r1,a,b,cc,d,rd,e,f,hW,hW2,h0,h1,hr,hrd,v0 a (by rw[h0];simp),v0 b (by rw[h0];simp),v1 cc (by rw[h1];simp),v1 d (by rw[h1];simp),v2 e (by rw[hrd];simp),v2 f (by rw[hrd];simp)⟩
theorem qAm.rel {a b:List Int} (h:qAm a b):qEa Blw a b:=⟨h.1,fun i _=>h.2 i⟩
end Go.Lg
namespace Go.Lg
open Go Go.Proofs
def seqR (c:Ee):Stt->List (List Int)->List (List Int×List Int)
 | _,[]=>[]
 | s,i::is=>(qMV c (q7Y c s i),qAq c (q7Y c s i))::seqR c (qBs c s (q7Y c s i)) is
structure Y3 (a b:Stt):Prop where
 d:a.dff.l=b.dff.l
 w:a.ws=b.ws
 r:a.rd=b.rd
theorem Y3.refl (a:Stt):Y3 a a:=⟨rfl,rfl,rfl⟩
theorem Y3.symm {a b:Stt} (h:Y3 a b):Y3 b a:=⟨h.d.symm,h.w.symm,h.r.symm⟩
theorem Y3.trans {a b d:Stt} (h:Y3 a b) (g:Y3 b d):Y3 a d:=⟨h.d.trans g.d,h.w.trans g.w,h.r.trans g.r⟩
theorem q5t {nets:List Int}:∀ {ms:List Mm} {ws:List (Sl (Sl Int))},qEY nets ms ws=List.zipWith (fun m w=>⟨qH8 w (q3X nets m.addr.l),none,none⟩) ms (ws.map fun w=>w.l.map (·.l))
 | [],_=>rfl
 | _::_,[]=>rfl
 | m::ms,w::ws=>by
  have:=q5t (nets:=nets) (ms:=ms) (ws:=ws)
  unfold qEY at this ⊢
  simp only[List.zipWith_cons_cons,List.map_cons,this]
theorem q5u {nets:List Int}:∀ {ms:List Mm} {ws:List (Sl (Sl Int))},qEZ nets ms ws=List.zipWith (fun m w=>qEX (qAs (q3X nets m.addr.l) (q3X nets m.data.l) (nets.getD m.write.toNat 0) 0 w)) ms (ws.map fun w=>w.l.map (·.l))
 | [],_=>rfl
 | _::_,[]=>rfl
 | m::ms,w::ws=>by
  have:=q5u (nets:=nets) (ms:=ms) (ws:=ws)
  unfold qEZ at this ⊢
  simp only[List.zipWith_cons_cons,List.map_cons,this]
theorem Y3.nets {c:Ee} {a b:Stt} (h:Y3 a b) (i:List Int):q7Y c a i=q7Y c b i:=by unfold q7Y;rw[h.d,h.r]
theorem Y3.next {c:Ee} {a b:Stt} (h:Y3 a b) (N:List Int):qBs c a N=qBs c b N:=by
 unfold qBs
 rw[q5t,q5t,q5u,q5u]
 have hw:=h.w
 unfold Stt.ws at hw
 rw[hw]
theorem Y3.seqR {c:Ee} {a b:Stt} (h:Y3 a b):∀ {is:List (List Int)},seqR c a is=seqR c b is
 | []=>rfl
 | i::is=>by simp only[Lg.seqR];rw[h.nets i,h.next]
theorem q1m {a b:List (Sl Int)} (h:a.map (·.l)=b.map (·.l)) (i:Nat):(a.getD i Sl.z).l=(b.getD i Sl.z).l:=by
 have:=congrArg (fun x=>x.getD i []) h
 simp only[List.getD_eq_getElem?_getD,List.getElem?_map]at this ⊢
 cases ha:a[i]?<;>cases hb:b[i]?<;>simp[ha,hb]at this ⊢<;>first|exact this|(simp[Sl.z,this])
theorem Rw {α β:Type} {f:α->β} {a b:List α} (h:a.map f=b.map f):a.length=b.length:=by
 have:=congrArg List.length h
 simpa using this
theorem q1n {a b:List (Sl (Sl Int))} (h:(a.map fun w=>w.l.map (·.l))=b.map fun w=>w.l.map (·.l)) (i:Nat):(a.getD i Sl.zz).l.map (·.l)=(b.getD i Sl.zz).l.map (·.l):=by
 have:=congrArg (fun x=>x.getD i []) h
 simp only[List.getD_eq_getElem?_getD,List.getElem?_map]at this ⊢
 cases ha:a[i]?<;>cases hb:b[i]?<;>simp[ha,hb]at this ⊢<;>first|exact this|(simp[Sl.zz,this])
theorem qEb {a b:List Int} (h:a=b):qEa (·=·) a b:=by subst h;exact⟨rfl,fun _ _=>rfl⟩
theorem Y3.rel {a b:Stt} (h:Y3 a b):qIs (·=·) a b:=by
 have hw:=h.w
 have hr:=h.r
 unfold Stt.ws at hw
 unfold Stt.rd at hr
 refine⟨qEb h.d,Rw hr,fun i _=>qEb (q1m hr i),Rw hw,fun i _=>?_⟩
 have:=q1n hw i
 exact⟨Rw this,fun j _=>qEb (q1m this j)⟩
theorem q3Y {a b:List (Sl Int)} (h:a.map (·.l)=b.map (·.l)) {r:Sl Int} (hr:r∈a):∃ q∈b,q.l=r.l:=by
 have:r.l∈b.map (·.l):=by rw[<- h];exact List.mem_map.2 ⟨r,hr,rfl⟩
 obtain⟨q,hq,e⟩:=List.mem_map.1 this
 exact⟨q,hq,e⟩
theorem Y3.ok {c:Ee} {a b:Stt} (h:Y3 a b) (H:q5s c b):q5s c a:=by
 have hw:=h.w
 have hr:=h.r
 unfold Stt.ws at hw
 unfold Stt.rd at hr
 refine⟨by rw[h.d,H.d],(Rw hw).trans H.w,(Rw hr).trans H.r,fun i hi=>(Rw (q1n hw i)).trans (H.wl i hi),fun i hi w hw'=>?_,fun i hi=>by rw[q1m hr i];exact H.rl i hi,by rw[h.d];exact H.vd,fun w hw' r hr'=>?_,fun r hr'=>?_⟩
 ·obtain⟨q,hq,e⟩:=q3Y (q1n hw i) hw'
  rw[<- e];exact H.wr i hi q hq
 ·have:w.l.map (·.l)∈b.words.l.map fun w=>w.l.map (·.l):=by rw[<- hw];exact List.mem_map.2 ⟨w,hw',rfl⟩
  obtain⟨W,hW,e⟩:=List.mem_map.1 this
  obtain⟨q,hq,e2⟩:=q3Y e.symm hr'
  rw[<- e2];exact H.vw W hW q hq
 ·obtain⟨q,hq,e⟩:=q3Y hr hr'
  rw[<- e];exact H.vr q hq
def qLU (c:Ee) (is:List (List Int)):Prop:=∀ i∈is,i.length=(qAo c).length/\∀ v∈i,V4 v
end Go.Lg
namespace Go.Lg
open Go Go.Proofs
variable {Γ:Tables}
theorem qIs.refl (s:Stt):qIs (·=·) s s:=⟨⟨rfl,fun _ _=>rfl⟩,rfl,fun _ _=>⟨rfl,fun _ _=>rfl⟩,rfl,fun _ _=>⟨rfl,fun _ _=>⟨rfl,fun _ _=>rfl⟩⟩⟩
def qLV (c:Ee) (l:List (Sl Int)):Prop:=∀ x∈l,x.l.length=(qAo c).length/\∀ v∈x.l,V4 v
theorem qLV.seq {c:Ee} {l:List (Sl Int)} (h:qLV c l):qLU c (l.map (·.l)):=fun i hi=>by
 obtain⟨x,hx,rfl⟩:=List.mem_map.1 hi
 exact h x hx
end Go.Lg
namespace Go.Proofs.YtjhbkddcmcfpaaaGreatDoor
open Go Go.Lg Go.ChangeShapes Go.WideShapes Go.ChangeAt Go.RowKit
theorem qMW {n:Int} (h:(Lit.int .u8 n).wf=true):0<=n/\n<=255:=by
 simp only[Lit.wf,Bool.and_eq_true,decide_eq_true_eq]at h
 have h1:IntKind.u8.min=0:=by decide
 have h2:IntKind.u8.max=255:=by decide
 omega
theorem K7 {P:Program} {x:String×DataW Unit} {l:List (String×DataW Unit)} {w:World} (h:laidMet P (x::l) w):laidMet P l w:=by
 obtain⟨ps,hv,hn,hm⟩:=h
 obtain⟨n,d⟩:=x
 obtain⟨g,t,cs,fuel,p,q,h1,h2,h3,h4,h5,rfl⟩:=hv
 exact⟨q,h5,(List.nodup_append.1 hn).2.1,fun b off hq=>hm b off (List.mem_append_right _ hq)⟩
end Go.Proofs.YtjhbkddcmcfpaaaGreatDoor
namespace Go.Lg
def qAt (v:Int):Int:=if v<=1 then 1-v else 2
def Fz (l:Int):Nat:=if l<0 then(-l-1).toNat else(l-1).toNat
def Kt (a:List Int) (l:Int):Int:=if l<0 then qAt (a.getD (Fz l) 0)else a.getD (Fz l) 0
def Z2 (a:List Int) (l:Int):List Int:=a.set (Fz l) (if l<0 then 0 else 1)
def Ef (a:List Int):List Int->Int->Int->Bool->Int×Int×Bool
 | [],o,la,d=>(o,la,d)
 | l::cl,o,la,d=>if Kt a l=1 then Ef a cl o la true else if Kt a l=2 then Ef a cl (if o=0\/l≠la then o+1 else o) l d else Ef a cl o la d
def H9:List Int->List Int->Bool->List (List Int)->Bool×List Int×List Int×Bool
 | a,tr,ag,[]=>(true,a,tr,ag)
 | a,tr,ag,c::cs =>
  let r:=Ef a c 0 0 false
  if r.2.2=true\/r.1 > 1 then H9 a tr ag cs
  else if r.1=0 then(false,a,tr,ag)
  else H9 (Z2 a r.2.1) (tr++[r.2.1]) true cs
def Ha (cls:List (List Int)):Nat->List Int->List Int->Bool×List Int×List Int
 | 0,a,tr=>(true,a,tr)
 | n+1,a,tr =>
  let r:=H9 a tr false cls
  if r.1=false then(false,r.2.1,r.2.2.1)else if r.2.2.2=true then Ha cls n r.2.1 r.2.2.1 else(true,r.2.1,r.2.2.1)
def Dl (a:List Int) (tr:List Int):List Int:=tr.foldl (fun a l=>a.set (Fz l) 2) a
def Ku:List Int->Nat
 | []=>0
 | v::a=>if v=2 then 0 else Ku a+1
def C7 (cls:List (List Int)) (lim:Int):Nat->List Int->Int->Bool×List Int×Int×Bool
 | 0,a,u=>(false,a,u,false)
 | f+1,a,u =>
  let p:=Ha cls (a.count 2+1) a []
  if p.1=false then(false,Dl p.2.1 p.2.2,u,false)
  else
   let v:=Ku p.2.1
   if p.2.1.length<=v then(true,p.2.1,u,false)
   else if u=lim then(false,Dl p.2.1 p.2.2,u,true)
   else
    let r1:=C7 cls lim f (p.2.1.set v 0) (u+1)
    if r1.1=true then r1
    else if r1.2.2.2=true then(false,Dl (r1.2.1.set v 2) p.2.2,r1.2.2.1,true)
    else
     let r2:=C7 cls lim f ((r1.2.1.set v 2).set v 1) r1.2.2.1
     if r2.1=true then r2 else(false,Dl (r2.2.1.set v 2) p.2.2,r2.2.2.1,r2.2.2.2)
def Dk (n:Nat) (l:Int):Prop:=l≠0 /\ -(n:Int)<=l/\l<=n
def q4I (n:Nat) (cls:List (List Int)):Prop:=∀ c∈cls,∀ l∈c,Dk n l
def CV3 (a:List Int):Prop:=∀ v∈a,v=0\/v=1\/v=2
def q4W (m:List Int):Prop:=∀ v∈m,v=0\/v=1
def q5v (a m:List Int):Prop:=m.length=a.length/\∀ i,a.getD i 0≠2->m.getD i 0=a.getD i 0
def qHB (m:List Int) (c:List Int):Prop:=∃ l∈c,Kt m l=1
def q2X (m:List Int) (cls:List (List Int)):Prop:=∀ c∈cls,qHB m c
theorem Dk.pos {n:Nat} {l:Int} (h:Dk n l):Fz l<n:=by
 unfold Dk at h;unfold Fz;split<;>omega
theorem q2Y {n:Nat} {l:Int} (h:Dk n l):l=(Fz l:Int)+1\/l = -(Fz l:Int)-1:=by
 unfold Dk at h;unfold Fz;split<;>omega
theorem Y4 {α:Type} (a:List α) (i j:Nat) (x d:α):(a.set i x).getD j d=if i=j/\i<a.length then x else a.getD j d:=by
 simp only[List.getD_eq_getElem?_getD,List.getElem?_set]
 by_cases h:i=j
 ·subst h
  by_cases h2:i<a.length
  ·simp[h2]
  ·simp[h2]
 ·simp[h]
theorem CV3.at {a:List Int} (h:CV3 a) (i:Nat):a.getD i 0=0\/a.getD i 0=1\/a.getD i 0=2:=by
 by_cases hi:i<a.length
 ·rw[List.getD_eq_getElem?_getD,List.getElem?_eq_getElem hi];exact h _ (List.getElem_mem hi)
 ·rw[List.getD_eq_getElem?_getD,List.getElem?_eq_none (by omega)];exact .inl rfl
theorem CV3.set {a:List Int} (h:CV3 a) (i:Nat) {x:Int} (hx:x=0\/x=1\/x=2):CV3 (a.set i x):=fun v hv=>by
 rcases List.mem_or_eq_of_mem_set hv with hv|rfl
 ·exact h v hv
 ·exact hx
theorem CV3.sat {a:List Int} (h:CV3 a) (l:Int):CV3 (Z2 a l):=h.set _ (by split<;>simp)
theorem q2Z {a:List Int} (h:CV3 a) (l:Int):Kt a l=2↔a.getD (Fz l) 0=2:=by
 unfold Kt qAt
 rcases h.at (Fz l)with e|e|e<;>rw[e]<;>split<;>simp
theorem q5v.val {a m:List Int} (he:q5v a m) (h:CV3 a) {l:Int} (hv:Kt a l≠2):Kt m l=Kt a l:=by
 have h1:=he.2 (Fz l) fun e=>hv ((q2Z h l).2 e)
 unfold Kt
 rw[h1]
theorem qEc {m:List Int} (hm:q4W m) {l:Int} {n:Nat} (hl:Dk n l) (hn:m.length=n) (h:Kt m l=1):m.getD (Fz l) 0=if l<0 then 0 else 1:=by
 unfold Kt qAt at h
 have hp:=hl.pos
 have:m.getD (Fz l) 0=0\/m.getD (Fz l) 0=1:=by
  rw[List.getD_eq_getElem?_getD,List.getElem?_eq_getElem (by omega)];exact hm _ (List.getElem_mem _)
 rcases this with e|e<;>rw[e]at h ⊢<;>split<;>split at h<;>simp_all
theorem q5v.sat {n:Nat} {a m:List Int} (he:q5v a m) (hm:q4W m) {l:Int} (hl:Dk n l) (hn:a.length=n) (h:Kt m l=1):q5v (Z2 a l) m:=by
 refine⟨by simp[Z2,he.1],fun i hi=>?_⟩
 unfold Z2 at hi ⊢
 rw[Y4]at hi ⊢
 split
 ·rename_i hc
  rw[<- hc.1];exact qEc hm hl (he.1.trans hn) h
 ·rename_i hc
  rw[if_neg hc]at hi
  exact he.2 i hi
theorem P8 {a:List Int} (h3:CV3 a):∀ (cl:List Int) (o la:Int) (d:Bool),0<=o ->
  ((Ef a cl o la d).2.2=true↔d=true\/∃ l∈cl,Kt a l=1)/\o<=(Ef a cl o la d).1/\((Ef a cl o la d).1=0->∀ l∈cl,Kt a l≠2) /\
  ((Ef a cl o la d).1=1->(o=1->(Ef a cl o la d).2.1=la)/\(o=0->(Ef a cl o la d).2.1∈cl/\Kt a (Ef a cl o la d).2.1=2)/\∀ l∈cl,Kt a l=2->l=(Ef a cl o la d).2.1)/\((Ef a cl o la d).1=o->o=0->(Ef a cl o la d).2.1=la)
 | [],o,la,d,ho=>by simp[Ef];omega
 | l::cl,o,la,d,ho=>by
  unfold Ef
  split
  ·rename_i h1
   obtain⟨i1,i2,i3,i4,i5⟩:=P8 h3 cl o la true ho
   refine⟨?_,i2,fun e=>?_,fun e=>?_,i5⟩
   ·rw[i1];simp[h1]
   ·intro x hx
    rcases List.mem_cons.1 hx with rfl|hx
    ·rw[h1];decide
    ·exact i3 e x hx
   ·obtain⟨j1,j2,j3⟩:=i4 e
    refine⟨j1,fun e0=>⟨List.mem_cons_of_mem _ (j2 e0).1,(j2 e0).2⟩,fun x hx h2=>?_⟩
    rcases List.mem_cons.1 hx with rfl|hx
    ·rw[h1]at h2;cases h2
    ·exact j3 x hx h2
  ·split
   ·rename_i h1 h2
    by_cases hc:o=0\/l≠la
    ·rw[if_pos hc]
     obtain⟨i1,i2,i3,i4,i5⟩:=P8 h3 cl (o+1) l d (by omega)
     refine⟨?_,by omega,fun e=>by omega,fun e=>?_,fun e=>by omega⟩
     ·rw[i1];simp[h1]
     ·obtain⟨j1,j2,j3⟩:=i4 e
      have ho1:o=0:=by omega
      have hla:=j1 (by omega)
      refine⟨fun e=>by omega,fun _=>⟨by rw[hla];exact List.mem_cons_self,by rw[hla];exact h2⟩,fun x hx hx2=>?_⟩
      rcases List.mem_cons.1 hx with rfl|hx
      ·exact hla.symm
      ·exact j3 x hx hx2
    ·rw[if_neg hc]
     have hc2:o≠0/\l=la:=⟨fun e=>hc (.inl e),Classical.byContradiction fun e=>hc (.inr e)⟩
     obtain⟨hc1,rfl⟩:=hc2
     obtain⟨i1,i2,i3,i4,i5⟩:=P8 h3 cl o l d ho
     refine⟨?_,i2,fun e=>by omega,fun e=>?_,fun e e0=>absurd e0 hc1⟩
     ·rw[i1];simp[h1]
     ·obtain⟨j1,j2,j3⟩:=i4 e
      refine⟨j1,fun e=>absurd e hc1,fun x hx hx2=>?_⟩
      rcases List.mem_cons.1 hx with rfl|hx
      ·exact(j1 (by omega)).symm
      ·exact j3 x hx hx2
   ·rename_i h1 h2
    obtain⟨i1,i2,i3,i4,i5⟩:=P8 h3 cl o la d ho
    refine⟨?_,i2,fun e=>?_,fun e=>?_,i5⟩
    ·rw[i1];simp[h1]
    ·intro x hx
     rcases List.mem_cons.1 hx with rfl|hx
     ·exact h2
     ·exact i3 e x hx
    ·obtain⟨j1,j2,j3⟩:=i4 e
     refine⟨j1,fun e0=>⟨List.mem_cons_of_mem _ (j2 e0).1,(j2 e0).2⟩,fun x hx hx2=>?_⟩
     rcases List.mem_cons.1 hx with rfl|hx
     ·exact absurd hx2 h2
     ·exact j3 x hx hx2
theorem q3Z (a:List Int) (tr:List Int):(Dl a tr).length=a.length:=by
 unfold Dl
 induction tr generalizing a with
 | nil=>rfl
 | cons l tr ih=>simp[ih]
theorem qAu (a:List Int) (tr:List Int) (l:Int):Dl a (tr++[l])=(Dl a tr).set (Fz l) 2:=by simp[Dl]
theorem q7Z {i:Nat}:∀ {tr:List Int} {a:List Int},a.getD i 0=2->(Dl a tr).getD i 0=2
 | [],_,h=>h
 | l::tr,a,h=>by
  show(Dl (a.set (Fz l) 2) tr).getD i 0=2
  refine q7Z ?_
  rw[Y4];split
  ·rfl
  ·exact h
theorem q7a:∀ {tr:List Int} {a:List Int} {i:Nat} {x:Int},(Dl (a.set i x) tr).set i 2=(Dl a tr).set i 2
 | [],a,i,x=>by simp[Dl]
 | l::tr,a,i,x=>by
  show(Dl ((a.set i x).set (Fz l) 2) tr).set i 2=(Dl (a.set (Fz l) 2) tr).set i 2
  by_cases h:i=Fz l
  ·subst h;simp
  ·rw[List.set_comm _ _ h];exact q7a
theorem Tm {a:List Int} {i:Nat} {x:Int} (h:a.getD i 0=x) (hi:i<a.length):a.set i x=a:=by
 rw[List.getD_eq_getElem?_getD,List.getElem?_eq_getElem hi]at h
 simp at h;subst h;exact List.set_getElem_self hi
structure Rl (n:Nat) (a0 a tr:List Int):Prop where
 v3:CV3 a
 ln:a.length=n
 un:Dl a tr=a0
 ok:∀ l∈tr,Dk n l
 le:a.count 2+tr.length=a0.count 2
theorem Jy {a:List Int} {i:Nat} {x:Int} (h:a.getD i 0=2) (hi:i<a.length) (hx:x≠2):(a.set i x).count 2+1=a.count 2:=by
 induction a generalizing i with
 | nil=>simp at hi
 | cons v a ih =>
  cases i with
  | zero=>simp at h;subst h;simp[List.count_cons,hx]
  | succ i =>
   have:=ih (i:=i) (by simpa using h) (by simpa using hi)
   simp[List.count_cons];omega
theorem Rl.sat {n:Nat} {a0 a tr:List Int} (h:Rl n a0 a tr) {l:Int} (hl:Dk n l) (hv:Kt a l=2):Rl n a0 (Z2 a l) (tr++[l]):=by
 have hp:=hl.pos
 have h2:=(q2Z h.v3 l).1 hv
 refine⟨h.v3.sat l,by simp[Z2,h.ln],?_,fun x hx=>?_,?_⟩
 ·rw[qAu]
  unfold Z2
  rw[q7a,h.un]
  have:=q7Z (tr:=tr) h2
  rw[h.un]at this
  refine Tm this ?_
  rw[<- h.un,q3Z,h.ln];exact hp
 ·rcases List.mem_append.1 hx with hx|hx
  ·exact h.ok x hx
  ·simp at hx;subst hx;exact hl
 ·have:=Jy (x:=if l<0 then 0 else 1) h2 (by rw[h.ln];exact hp) (by split<;>decide)
  have h4:=h.le
  simp only[Z2,List.length_append,List.length_cons,List.length_nil];omega
theorem Y5 {n:Nat} {a0:List Int}:∀ {cls:List (List Int)} {a tr:List Int} {ag:Bool},q4I n cls->Rl n a0 a tr ->
  Rl n a0 (H9 a tr ag cls).2.1 (H9 a tr ag cls).2.2.1 /\
  (∀ m,q4W m->q5v a m->q2X m cls->(H9 a tr ag cls).1=true/\q5v (H9 a tr ag cls).2.1 m) /\
  (∀ i,a.getD i 0≠2->(H9 a tr ag cls).2.1.getD i 0=a.getD i 0) /\
  ((H9 a tr ag cls).2.2.2=false->(H9 a tr ag cls).2.1=a/\(H9 a tr ag cls).2.2.1=tr/\ag=false/\((H9 a tr ag cls).1=true->∀ c∈cls,(∃ l∈c,Kt a l=1)\/∃ l∈c,Kt a l=2)) /\
  ((H9 a tr ag cls).2.2.2=true->ag=false->tr.length<(H9 a tr ag cls).2.2.1.length)/\tr.length<=(H9 a tr ag cls).2.2.1.length
 | [],a,tr,ag,hc,hp=>by
  refine⟨hp,fun m _ he _=>⟨rfl,he⟩,fun i _=>rfl,fun e=>⟨rfl,rfl,e,fun _ c hc=>by cases hc⟩,fun e e2=>?_,Nat.le_refl _⟩
  have e:ag=true:=e
  rw[e]at e2;cases e2
 | c::cs,a,tr,ag,hc,hp=>by
  have hcs:q4I n cs:=fun x hx=>hc x (List.mem_cons_of_mem _ hx)
  obtain⟨s1,s2,s3,s4,_⟩:=P8 hp.v3 c 0 0 false (by omega)
  simp only[H9]
  split
  ·rename_i hd
   obtain⟨i1,i2,i3,i4,i5,i6⟩:=Y5 (ag:=ag) hcs hp
   refine⟨i1,fun m hm he hs=>i2 m hm he fun x hx=>hs x (List.mem_cons_of_mem _ hx),i3,fun e=>?_,i5,i6⟩
   obtain⟨j1,j2,j3,j4⟩:=i4 e
   refine⟨j1,j2,j3,fun e2 x hx=>?_⟩
   rcases List.mem_cons.1 hx with rfl|hx
   ·rcases hd with hd|hd
    ·exact .inl ((s1.1 hd).resolve_left (by simp))
    ·refine .inr (Classical.byContradiction fun hno=>?_)
     have:∀ (cl:List Int) (d:Bool) (la:Int),(∀ l∈cl,Kt a l≠2)->(Ef a cl 0 la d).1=0:=by
      intro cl
      induction cl with
      | nil=>intro d la _;rfl
      | cons l cl ih =>
       intro d la h
       unfold Ef
       split
       ·exact ih _ _ fun x hx=>h x (List.mem_cons_of_mem _ hx)
       ·rw[if_neg (h l List.mem_cons_self)]
        exact ih _ _ fun x hx=>h x (List.mem_cons_of_mem _ hx)
     have:=this x false 0 fun l hl e=>hno ⟨l,hl,e⟩
     omega
   ·exact j4 e2 x hx
  ·rename_i hd
   have hd1:¬ ∃ l∈c,Kt a l=1:=fun e=>hd (.inl (s1.2 (.inr e)))
   split
   ·rename_i h0
    refine⟨hp,fun m hm he hs=>?_,fun i _=>rfl,fun e=>⟨rfl,rfl,e,fun h=>(by cases h)⟩,fun e e2=>?_,Nat.le_refl _⟩
    rotate_left
    ·have e:ag=true:=e
     rw[e]at e2;cases e2
    exfalso
    obtain⟨l,hl,hv⟩:=hs c List.mem_cons_self
    have h2:=s3 h0 l hl
    rw[he.val hp.v3 h2]at hv
    exact hd1 ⟨l,hl,hv⟩
   ·rename_i h0
    have ho:(Ef a c 0 0 false).1=1:=by
     have:¬ (Ef a c 0 0 false).1 > 1:=fun e=>hd (.inr e)
     omega
    obtain⟨_,j2,j3⟩:=s4 ho
    obtain⟨j4,j5⟩:=j2 rfl
    generalize (Ef a c 0 0 false).2.1=la at *
    have hla:=hc c List.mem_cons_self la j4
    obtain⟨i1,i2,i3,i4,i5,i6⟩:=Y5 (ag:=true) hcs (hp.sat hla j5)
    refine⟨i1,fun m hm he hs=>?_,fun i hi=>?_,fun e=>?_,fun e e2=>?_,?_⟩
    ·obtain⟨l,hl,hv⟩:=hs c List.mem_cons_self
     have hl2:l=la:=by
      refine j3 l hl (Classical.byContradiction fun h2=>?_)
      rw[he.val hp.v3 h2]at hv
      exact hd1 ⟨l,hl,hv⟩
     subst hl2
     exact i2 m hm (he.sat hm hla hp.ln hv) fun x hx=>hs x (List.mem_cons_of_mem _ hx)
    ·have e:(Z2 a la).getD i 0=a.getD i 0:=by
      unfold Z2;rw[Y4,if_neg]
      rintro⟨rfl,_⟩
      exact hi ((q2Z hp.v3 la).1 j5)
     rw[i3 i (by rw[e];exact hi),e]
    ·have:=(i4 e).2.2.1;cases this
    ·simp only[List.length_append,List.length_cons,List.length_nil]at i6;omega
    ·simp only[List.length_append,List.length_cons,List.length_nil]at i6;omega
theorem Y6 {n:Nat} {a0:List Int} {cls:List (List Int)} (hc:q4I n cls):∀ {f:Nat} {a tr:List Int},Rl n a0 a tr->a.count 2<f ->
  Rl n a0 (Ha cls f a tr).2.1 (Ha cls f a tr).2.2 /\
  (∀ m,q4W m->q5v a m->q2X m cls->(Ha cls f a tr).1=true/\q5v (Ha cls f a tr).2.1 m) /\
  (∀ i,a.getD i 0≠2->(Ha cls f a tr).2.1.getD i 0=a.getD i 0) /\
  ((Ha cls f a tr).1=true->∀ c∈cls,(∃ l∈c,Kt (Ha cls f a tr).2.1 l=1)\/∃ l∈c,Kt (Ha cls f a tr).2.1 l=2)
 | 0,a,tr,hp,hf=>by omega
 | f+1,a,tr,hp,hf=>by
  obtain⟨i1,i2,i3,i4,i5,i6⟩:=Y5 (ag:=false) hc hp
  simp only[Ha]
  split
  ·rename_i h1
   refine⟨i1,fun m hm he hs=>?_,i3,fun e=>(by cases e)⟩
   have:=(i2 m hm he hs).1;rw[h1]at this;cases this
  ·split
   ·rename_i h1 h2
    have hlt:=i5 h2 rfl
    have h7:=i1.le
    have h8:=hp.le
    obtain⟨k1,k2,k3,k4⟩:=Y6 hc (f:=f) i1 (by omega)
    refine⟨k1,fun m hm he hs=>k2 m hm (i2 m hm he hs).2 hs,fun i hi=>?_,k4⟩
    rw[k3 i (by rw[i3 i hi];exact hi),i3 i hi]
   ·rename_i h1 h2
    obtain⟨j1,j2,_,j4⟩:=i4 (by simpa using h2)
    refine⟨i1,fun m hm he hs=>⟨rfl,(i2 m hm he hs).2⟩,i3,fun _=>?_⟩
    simp only[j1]
    exact j4 (by simpa using h1)
theorem Y7:∀ {a:List Int},(a.length<=Ku a->∀ v∈a,v≠2)/\(Ku a<a.length->a.getD (Ku a) 0=2)
 | []=>⟨fun _ v hv=>(by cases hv),fun h=>(by simp at h)⟩
 | v::a=>by
  obtain⟨h1,h2⟩:=Y7 (a:=a)
  unfold Ku
  split
  ·rename_i h;subst h;exact⟨fun e=>by simp at e,fun _=>rfl⟩
  ·rename_i h
   refine⟨fun e x hx=>?_,fun e=>?_⟩
   ·rcases List.mem_cons.1 hx with rfl|hx
    ·exact h
    ·exact h1 (by simpa using e) x hx
   ·simpa using h2 (by simpa using e)
structure qGH (n:Nat) (cls:List (List Int)) (lim:Int) (a:List Int) (u:Int) (r:Bool×List Int×Int×Bool):Prop where
 back:r.1=false->r.2.1=a
 tot:r.1=true->q4W r.2.1/\r.2.1.length=n/\q2X r.2.1 cls/\r.2.2.2=false
 none:r.1=false->r.2.2.2=false->∀ m,q4W m->q5v a m->¬ q2X m cls
 lo:u<=r.2.2.1
 hi:r.2.2.1<=lim
 few:r.2.2.1+1<=u+2 ^ a.count 2
 spent:u+2 ^ a.count 2<=lim+1->r.2.2.2=false
theorem qEd {k j:Nat} (h:k<=j):(2:Int) ^ k<=2 ^ j:=by
 have:=Nat.pow_le_pow_right (n:=2) (by decide) h
 exact_mod_cast this
theorem q7b (k:Nat):(1:Int)<=2 ^ k:=by
 have:=Nat.one_le_two_pow (n:=k)
 exact_mod_cast this
theorem Hg {n:Nat} {cls:List (List Int)} (hc:q4I n cls) {lim:Int}:∀ {f:Nat} {a:List Int} {u:Int},CV3 a->a.length=n->a.count 2<f->u<=lim->qGH n cls lim a u (C7 cls lim f a u)
 | 0,a,u,h3,hn,hf,hu=>by omega
 | f+1,a,u,h3,hn,hf,hu=>by
  obtain⟨p1,p2,p3,p4⟩:=Y6 hc (f:=a.count 2+1) (a0:=a) (a:=a) (tr:=[]) ⟨h3,hn,rfl,(fun l hl=>by cases hl),by simp⟩ (by omega)
  simp only[C7]
  generalize Ha cls (a.count 2+1) a []=p at *
  obtain⟨ok,a1,tr⟩:=p
  simp only at p1 p2 p3 p4 ⊢
  have hk:=q7b (a.count 2)
  have hun:=p1.un
  split
  ·rename_i h1
   subst h1
   exact⟨fun _=>hun,(fun e=>by cases e),fun _ _ m hm he hs=>(by have:=(p2 m hm he hs).1;cases this),by simp,hu,by simp only;omega,fun _=>rfl⟩
  ·rename_i h1
   have h1:ok=true:=by simpa using h1
   subst h1
   have p4:=p4 rfl
   obtain⟨o1,o2⟩:=Y7 (a:=a1)
   generalize Ku a1=v at *
   split
   ·rename_i hv
    have htot:q4W a1:=fun x hx=>by
     have:=p1.v3 x hx
     have:=o1 hv x hx
     omega
    refine⟨(fun e=>by cases e),fun _=>⟨htot,p1.ln,fun c hcc=>?_,rfl⟩,(fun e=>by cases e),by simp,hu,by simp only;omega,fun _=>rfl⟩
    rcases p4 c hcc with h|⟨l,hl,h2⟩
    ·exact h
    ·exfalso
     have h5:=(hc c hcc l hl).pos
     have:=(q2Z p1.v3 l).1 h2
     rw[List.getD_eq_getElem?_getD,List.getElem?_eq_getElem (by rw[p1.ln];exact h5)]at this
     exact o1 hv _ (List.getElem_mem (by rw[p1.ln];exact h5)) this
   ·rename_i hv
    have hv:v<a1.length:=by omega
    have h2:=o2 hv
    have hle:a1.count 2<=a.count 2:=by have:=p1.le;omega
    have c0:=Jy (x:=0) h2 hv (by decide)
    have c1:=Jy (x:=1) h2 hv (by decide)
    have hpow:(2:Int) ^ a1.count 2=2*2 ^ (a1.set v 0).count 2:=by rw[<- c0,Int.pow_succ];omega
    have hc01:(a1.set v 1).count 2=(a1.set v 0).count 2:=by omega
    have hpos:=q7b ((a1.set v 0).count 2)
    have hmon:=qEd hle
    split
    ·rename_i hul
     subst hul
     exact⟨fun _=>hun,(fun e=>by cases e),fun _ e=>(by cases e),by simp,by simp,by simp only;omega,fun e=>by omega⟩
    ·rename_i hul
     have r1ok:=Hg hc (lim:=lim) (f:=f) (a:=a1.set v 0) (u:=u+1) (p1.v3.set _ (.inl rfl)) (by simp[p1.ln]) (by omega) (by omega)
     generalize C7 cls lim f (a1.set v 0) (u+1)=r1 at *
     obtain⟨f1,b1,u1,s1⟩:=r1
     simp only
     have q1:=r1ok.lo
     have q2:=r1ok.hi
     have q3:=r1ok.few
     simp only at q1 q2 q3
     split
     ·rename_i hf1
      subst hf1
      have:=r1ok.tot rfl
      exact⟨(fun e=>by cases e),fun _=>this,(fun e=>by cases e),by simp only;omega,q2,by simp only;omega,fun _=>this.2.2.2⟩
     ·rename_i hf1
      have hf1:f1=false:=by simpa using hf1
      subst hf1
      have hb:=r1ok.back rfl
      simp only at hb
      subst hb
      have hset:(a1.set v 0).set v 2=a1:=by rw[List.set_set];exact Tm h2 hv
      split
      ·rename_i hs1
       subst hs1
       rw[hset]
       exact⟨fun _=>hun,(fun e=>by cases e),fun _ e=>(by cases e),by simp only;omega,q2,by simp only;omega,fun e=>r1ok.spent (by omega)⟩
      ·rename_i hs1
       have hs1:s1=false:=by simpa using hs1
       subst hs1
       rw[hset]
       have r2ok:=Hg hc (lim:=lim) (f:=f) (a:=a1.set v 1) (u:=u1) (p1.v3.set _ (.inr (.inl rfl))) (by simp[p1.ln]) (by omega) q2
       generalize C7 cls lim f (a1.set v 1) u1=r2 at *
       obtain⟨f2,b2,u2,s2⟩:=r2
       simp only
       have q4:=r2ok.lo
       have q5:=r2ok.hi
       have q6:=r2ok.few
       simp only[hc01]at q4 q5 q6
       split
       ·rename_i hf2
        subst hf2
        have:=r2ok.tot rfl
        exact⟨(fun e=>by cases e),fun _=>this,(fun e=>by cases e),by simp only;omega,q5,by simp only;omega,fun _=>this.2.2.2⟩
       ·rename_i hf2
        have hf2:f2=false:=by simpa using hf2
        subst hf2
        have hb:=r2ok.back rfl
        simp only at hb
        subst hb
        have hset:(a1.set v 1).set v 2=a1:=by rw[List.set_set];exact Tm h2 hv
        rw[hset]
        refine⟨fun _=>hun,(fun e=>by cases e),fun _ e m hm he hs=>?_,by simp only;omega,q5,by simp only;omega,fun e=>r2ok.spent (by simp only[hc01];omega)⟩
        simp only at e
        subst e
        have he1:=(p2 m hm he hs).2
        have hlm:v<m.length:=by rw[he1.1];exact hv
        have hmv:m.getD v 0=0\/m.getD v 0=1:=by
         rw[List.getD_eq_getElem?_getD,List.getElem?_eq_getElem hlm];exact hm _ (List.getElem_mem _)
        have ext:∀ x,m.getD v 0=x->q5v (a1.set v x) m:=fun x hx=>⟨by simp[he1.1],fun i hi=>by
         rw[Y4]at hi ⊢
         split
         ·rename_i hcc;rw[<- hcc.1];exact hx
         ·rename_i hcc;rw[if_neg hcc]at hi;exact he1.2 i hi⟩
        rcases hmv with e|e
        ·exact r1ok.none rfl rfl m hm (ext 0 e) hs
        ·exact r2ok.none rfl rfl m hm (ext 1 e) hs
theorem q1o {n:Nat} {cls:List (List Int)} (hc:q4I n cls) {lim lim':Int} (hl:lim<=lim'):∀ {f:Nat} {a:List Int} {u:Int},CV3 a->a.length=n->a.count 2<f->u<=lim->(C7 cls lim f a u).2.2.2=false->C7 cls lim' f a u=C7 cls lim f a u
 | 0,a,u,h3,hn,hf,hu,h=>rfl
 | f+1,a,u,h3,hn,hf,hu,h=>by
  obtain⟨p1,p2,p3,p4⟩:=Y6 hc (f:=a.count 2+1) (a0:=a) (a:=a) (tr:=[]) ⟨h3,hn,rfl,(fun l hl=>by cases hl),by simp⟩ (by omega)
  simp only[C7]at h ⊢
  generalize Ha cls (a.count 2+1) a []=p at *
  obtain⟨ok,a1,tr⟩:=p
  simp only at p1 p2 p3 p4 h ⊢
  by_cases h1:ok=false
  ·rw[if_pos h1,if_pos h1]
  ·rw[if_neg h1]at h
   rw[if_neg h1,if_neg h1]
   obtain⟨o1,o2⟩:=Y7 (a:=a1)
   generalize Ku a1=v at *
   by_cases hv:a1.length<=v
   ·rw[if_pos hv,if_pos hv]
   ·rw[if_neg hv]at h
    rw[if_neg hv,if_neg hv]
    have hv:v<a1.length:=by omega
    have h2:=o2 hv
    have hle:a1.count 2<=a.count 2:=by have:=p1.le;omega
    have c0:=Jy (x:=0) h2 hv (by decide)
    have c1:=Jy (x:=1) h2 hv (by decide)
    by_cases hul:u=lim
    ·rw[if_pos hul]at h;cases h
    ·rw[if_neg hul]at h
     rw[if_neg hul,if_neg (by omega)]
     have r1ok:=Hg hc (lim:=lim) (f:=f) (a:=a1.set v 0) (u:=u+1) (p1.v3.set _ (.inl rfl)) (by simp[p1.ln]) (by omega) (by omega)
     have ih1:=q1o hc hl (f:=f) (a:=a1.set v 0) (u:=u+1) (p1.v3.set _ (.inl rfl)) (by simp[p1.ln]) (by omega) (by omega)
     generalize hr1:C7 cls lim f (a1.set v 0) (u+1)=r1 at *
     obtain⟨f1,b1,u1,s1⟩:=r1
     simp only at h ih1 r1ok
     by_cases hs1:s1=true
     ·subst hs1
      cases f1 with
      | true=>simp only[if_true]at h;cases h
      | false=>simp at h
     ·have hs1:s1=false:=by simpa using hs1
      subst hs1
      rw[ih1 rfl]
      simp only
      by_cases hf1:f1=true
      ·rw[if_pos hf1,if_pos hf1]
      ·rw[if_neg hf1]at h
       rw[if_neg hf1,if_neg hf1]
       have hf1:f1=false:=by simpa using hf1
       subst hf1
       have hb:=r1ok.back rfl
       simp only at hb
       subst hb
       have hset:(a1.set v 0).set v 2=a1:=by rw[List.set_set];exact Tm h2 hv
       rw[hset]at h ⊢
       simp only[Bool.false_eq_true,if_false]at h ⊢
       have q2:=r1ok.hi
       simp only at q2
       have ih2:=q1o hc hl (f:=f) (a:=a1.set v 1) (u:=u1) (p1.v3.set _ (.inr (.inl rfl))) (by simp[p1.ln]) (by omega) q2
       generalize C7 cls lim f (a1.set v 1) u1=r2 at *
       obtain⟨f2,b2,u2,s2⟩:=r2
       simp only at h ih2
       have hs2:s2=false:=by
        cases f2 with
        | true=>simpa using h
        | false=>simpa using h
       rw[ih2 hs2]
end Go.Lg
namespace Go.Lg
open Go
section
variable {P:Program} {Γ:Tables} {Q:AX->St->Prop} {s:St}
/- probecard/cnfs.Check (function 10) -/
abbrev q12:IC:=.gh (.seq (.reg [od 34 (.bin .lss (tm 33) (tm 32))] [kp [1,22,23,24,31,32,33,34] []]) (.seq (.cond (tm 34) .skip (.exit 3)) (.seq (.block 4 (.seq (.reg [od 35 (ia 1 31 33),od 36 (ld 1 35),om 6 36] [kp [1,6,22,23,24,
 31,32,33] []]) (.seq (.reg [om 37 6,od 38 (.bin .eql (tm 37) (ki 0)),om 39 38,oF 40 (.mv (tm 6)) 39,oF 41 (fa 0 1) 39,oF 42 (ld 1 41) 39,oF 43 (.un .neg (tm 42)) 39,oF 44 (.bin .lss (tm 40) (tm 43)) 39,od 45 (.pick (tm
 39) kT (tm 44)),om 46 45,oF 47 (.mv (tm 6)) 46,oF 48 (fa 0 1) 46,oF 49 (ld 1 48) 46,oF 50 (.bin .gtr (tm 47) (tm 49)) 46,od 51 (.pick (tm 46) kT (tm 50))] [kp [1,22,23,24,31,32,33,51] []]) (.cond (tm 51) (.seq (.reg
 [od 2 (.mv (ki 1))] [kp [2] []]) .ret) .skip)))) (.reg [od 52 (.bin .add (tm 33) (ki 1)),om 33 52] [kp [1,22,23,24,31,32,33] []])))) [kp [1,22,23,24,31,32,33] []]
def Pl:IC:=.loop q12
abbrev q13:IC:=.gh (.seq (.reg [od 25 (.bin .lss (tm 24) (tm 23))] [kp [1,22,23,24,25] []]) (.seq (.cond (tm 25) .skip (.exit 1)) (.seq (.block 2 (.seq (.reg [od 26 (ia 1 22 24),od 27 (ld 1 26),om 4 27] [kp [1,4,22,23,24] []]) (.seq
 (.seq (.reg [om 28 4,od 29 (le 0 28),od 30 (.bin .gtr (tm 29) (ki 4096))] [kp [1,4,22,23,24,30] []]) (.cond (tm 30) (.seq (.reg [od 2 (.mv (ki 3))] [kp [2] []]) .ret) .skip)) (.seq (.reg [om 31 4,od 32 (le 0 31),od 33 (.mv
 (ki 0))] [kp [1,22,23,24,31,32,33] []]) (.block 3 Pl))))) (.reg [od 53 (.bin .add (tm 24) (ki 1)),om 24 53] [kp [1,22,23,24] []])))) [kp [1,22,23,24] []]
def Pm:IC:=.loop q13
abbrev Lh:IC:=(.seq (.reg [od 1 (.box true (tm 0)),od 2 (.mv (ki 0))] [kp [1] []]) (.seq (.block 0 (.seq (.reg [od 8 (fa 0 1),od 9 (ld 1 8),od 10 (.bin .lss (tm 9) (ki 0)),om 7 10] [kp [1,7] []]) (.cond (tm 7) (.seq (.reg [od 2 (.mv (ki
 1))] [kp [2] []]) .ret) (.seq (.reg [od 12 (fa 0 1),od 13 (ld 1 12),od 14 (.bin .gtr (tm 13) (ki 65536)),om 15 14,oF 16 (fa 1 1) 15,oF 17 (ld 1 16) 15,oF 18 (le 0 17) 15,oF 19 (.bin .gtr (tm 18) (ki 262144)) 15,od 20 (.pick
 (tm 15) kT (tm 19)),om 11 20] [kp [1,11] []]) (.cond (tm 11) (.seq (.reg [od 2 (.mv (ki 3))] [kp [2] []]) .ret) .skip))))) (.seq (.seq (.reg [od 21 (fa 1 1),od 22 (ld 1 21),od 23 (le 0 22),od 24 (.mv (ki 0))] [kp [1,22,23,
 24] []]) (.block 1 Pm)) (.seq (.reg [od 2 (.mv (ki 0))] [kp [2] []]) .ret))))
theorem V0 (h:∀ K:St->Prop,K=run P Γ Pl Q->run P Γ q12 (B1 K Q) s):run P Γ Pl Q s:=Au h
theorem V1 (h:∀ K:St->Prop,K=run P Γ Pm Q->run P Γ q13 (B1 K Q) s):run P Γ Pm Q s:=Au h
def Im:List RV:=[.tmp 2]
/- probecard/cnfs.Holds (function 23) -/
abbrev q14:IC:=.gh (.seq (.reg [od 31 (.bin .lss (tm 30) (tm 29))] [kp [1,5,8,22,23,24,28,29,30,31] []]) (.seq (.cond (tm 31) .skip (.exit 2)) (.seq (.block 3 (.seq (.reg [od 32 (ia 1 28 30),od 33 (ld 1 32),om 10 33] [kp [1,5,8,10,
 22,23,24,28,29,30] []]) (.reg [om 34 8,om 35 34,oF 36 (.mv (tm 5)) 35,oF 37 (.mv (tm 1)) 35,oF 38 (.mv (tm 10)) 35,oF 39 (.callv (tm 36) [(tm 37),(tm 38)]) 35,oF 40 (.bin .eql (tm 39) (ku 1)) 35,od 41 (.pick (tm 35) kT
 (tm 40)),om 8 41] [kp [1,5,8,22,23,24,28,29,30] []]))) (.reg [od 42 (.bin .add (tm 30) (ki 1)),om 30 42] [kp [1,5,8,22,23,24,28,29,30] []])))) [kp [1,5,8,22,23,24,28,29,30] []]
def Pn:IC:=.loop q14
abbrev q15:IC:=.gh (.seq (.reg [od 25 (.bin .lss (tm 24) (tm 23))] [kp [1,5,22,23,24,25] []]) (.seq (.cond (tm 25) .skip (.exit 0)) (.seq (.block 1 (.seq (.reg [od 26 (ia 1 22 24),od 27 (ld 1 26),om 7 27] [kp [1,5,7,22,23,24] []])
 (.seq (.reg [od 8 (.mv kF)] [kp [1,5,7,8,22,23,24] []]) (.seq (.seq (.reg [om 28 7,od 29 (le 0 28),od 30 (.mv (ki 0))] [kp [1,5,8,22,23,24,28,29,30] []]) (.block 2 Pn)) (.seq (.reg [om 43 8,od 44 (.un
 .not (tm 43))] [kp [1,5,22,23,24,44] []]) (.cond (tm 44) (.seq (.reg [od 4 (.mv kF)] [kp [4] []]) .ret) .skip)))))) (.reg [od 45 (.bin .add (tm 24) (ki 1)),om 24 45] [kp [1,5,22,23,24] []])))) [kp [1,5,22,23,24] []]
def Po:IC:=.loop q15
abbrev q16:IC:=(.seq (.reg [od 2 (.box true (tm 0)),od 4 (.mv kF)] [kp [1,2] []]) (.seq (.seq (.reg [od 11 (lG 2 2),od 12 (.call 10 [(tm 11)]),od 13 (.bin .neq (tm 12) (ki 0)),om 14 13,oF 15 (.mv (tm 1)) 14,oF 16 (le 0 15) 14,oF 17 (fa 0
 2) 14,oF 18 (ld 1 17) 14,oF 19 (.bin .neq (tm 16) (tm 18)) 14,od 20 (.pick (tm 14) kT (tm 19))] [kp [1,2,20] []]) (.cond (tm 20) (.seq (.reg [od 4 (.mv kF)] [kp [4] []]) .ret) .skip)) (.seq (.reg [od 5 (.mv (.func 37))] [kp
 [1,2,5] []]) (.seq (.seq (.reg [od 21 (fa 1 2),od 22 (ld 1 21),od 23 (le 0 22),od 24 (.mv (ki 0))] [kp [1,5,22,23,24] []]) (.block 0 Po)) (.seq (.reg [od 4 (.mv kT)] [kp [4] []]) .ret)))))
theorem V2 (h:∀ K:St->Prop,K=run P Γ Pn Q->run P Γ q14 (B1 K Q) s):run P Γ Pn Q s:=Au h
theorem V5 (h:∀ K:St->Prop,K=run P Γ Po Q->run P Γ q15 (B1 K Q) s):run P Γ Po Q s:=Au h
def Vs:List RV:=[.tmp 4]
/- (probecard/cnfs.assignment).of (function 37) -/
abbrev Iu:IC:=(.seq (.reg [od 4 (.mv (ku 0))] [kp [0,1] []]) (.seq (.seq (.reg [om 5 1,od 6 (.bin .lss (tm 5) (ki 0))] [kp [0,1,6] []]) (.cond (tm 6) (.seq (.reg [om 7 0,om 8 1,od 9 (.un .neg (tm 8)),od 10 (.bin .sub (tm 9) (ki 1)),od 11
 (ia 1 7 10),od 12 (ld 1 11),od 13 (.call 62 [(tm 12)]),om 4 13] [kp [4] []]) .ret) .skip)) (.seq (.reg [om 14 0,om 15 1,od 16 (.bin .sub (tm 15) (ki 1)),od 17 (ia 1 14 16),od 18 (ld 1 17),om 4 18] [kp [4] []]) .ret)))
def Iw:List RV:=[.tmp 4]
/- (probecard/cnfs.assignment).satisfy (function 41) -/
abbrev Fa:IC:=(.seq (.reg [om 4 1,od 5 (.bin .lss (tm 4) (ki 0))] [kp [0,1,5] [1000000]]) (.cond (tm 5) (.reg [om 6 0,om 7 1,od 8 (.un .neg (tm 7)),od 9 (.bin .sub (tm 8) (ki 1)),od 10 (ia 1 6 9),on (.store 1 (tm 10) (ku 0))] [kp []
 [1000000]]) (.reg [om 11 0,om 12 1,od 13 (.bin .sub (tm 12) (ki 1)),od 14 (ia 1 11 13),on (.store 1 (tm 14) (ku 1))] [kp [] [1000000]])))
def Fb:List RV:=[]
/- (*probecard/cnfs.solver).propagate (function 38) -/
abbrev Lj:IC:=.gh (.seq (.reg [od 27 (.bin .lss (tm 26) (tm 25))] [kp [0,2,4,5,8,9,10,18,19,20,24,25,26,27] [61,1000000,1000001]]) (.seq (.cond (tm 27) .skip (.exit 4)) (.seq (.block 5 (.seq (.reg [od 28 (ia 1 24 26),od 29 (ld 1
 28),om 12 29] [kp [0,2,4,5,8,9,10,12,18,19,20,24,25,26] [61,1000000,1000001]]) (.seq (.reg [om 30 4,om 31 0,od 32 (.nck (tm 31)),od 33 (fa 2 32),od 34 (ld 1 33),om 35 12,od 36 (.callv (tm 30) [(tm 34),(tm
 35)])] [kp [0,2,4,5,8,9,10,12,18,19,20,24,25,26,36] [61,1000000,1000001]]) (.block 6 (.seq (.reg [od 38 (.bin .eql (tm 36) (ku 1)),om 37 38] [kp [0,2,4,5,8,9,10,12,18,19,20,24,25,26,36,37] [61,
 1000000,1000001]]) (.cond (tm 37) (.reg [od 10 (.mv kT)] [kp [0,2,4,5,8,9,10,18,19,20,24,25,26] [61,1000000,1000001]]) (.seq (.reg [od 40 (.bin .eql (tm 36) (ku 2)),om 39 40] [kp [0,2,4,5,8,9,10,12,18,19,
 20,24,25,26,39] [61,1000000,1000001]]) (.cond (tm 39) (.seq (.seq (.reg [om 41 8,od 42 (.bin .eql (tm 41) (ki 0)),om 43 42,oF 44 (.mv (tm 12)) 43,oF 45 (.mv (tm 9)) 43,oF 46 (.bin .neq (tm 44) (tm 45)) 43,od 47 (.pick
 (tm 43) kT (tm 46))] [kp [0,2,4,5,8,10,12,18,19,20,24,25,26,47] [61,1000000,1000001]]) (.cond (tm 47) (.reg [om 48 8,od 49 (.bin .add (tm 48) (ki 1)),om 8 49] [kp [0,2,4,5,8,10,12,18,19,20,24,25,26]
 [61,1000000,1000001]]) .skip)) (.reg [om 50 12,om 9 50] [kp [0,2,4,5,8,9,10,18,19,20,24,25,26] [61,1000000,1000001]])) .skip)))))))) (.reg [od 51 (.bin .add (tm 26) (ki 1)),om 26 51] [kp [0,2,4,5,8,9,10,18,
 19,20,24,25,26] [61,1000000,1000001]])))) [kp [0,2,4,5,8,9,10,18,19,20,24,25,26] [61,1000000,1000001]]
def Du:IC:=.loop Lj
abbrev Ll:IC:=.gh (.seq (.reg [od 21 (.bin .lss (tm 20) (tm 19))] [kp [0,2,4,5,18,19,20,21] [61,1000000,1000001]]) (.seq (.cond (tm 21) .skip (.exit 2)) (.seq (.block 3 (.seq (.reg [od 22 (ia 1 18 20),od 23 (ld 1 22),om 7 23] [kp [0,
 2,4,5,7,18,19,20] [61,1000000,1000001]]) (.seq (.reg [od 8 (.mv (ki 0)),od 9 (.mv (ki 0)),od 10 (.mv kF)] [kp [0,2,4,5,7,8,9,10,18,19,20] [61,1000000,1000001]]) (.seq (.seq (.reg [om 24 7,od 25 (le 0 24),od
 26 (.mv (ki 0))] [kp [0,2,4,5,8,9,10,18,19,20,24,25,26] [61,1000000,1000001]]) (.block 4 Du)) (.block 7 (.seq (.reg [om 63 10,om 64 63,oF 65 (.mv (tm 8)) 64,oF 66 (.bin .gtr (tm 65) (ki 1))
 64,od 67 (.pick (tm 64) kT (tm 66)),om 62 67] [kp [0,2,4,5,8,9,18,19,20,62] [61,1000000,1000001]]) (.cond (tm 62) .skip (.seq (.reg [om 69 8,od 70 (.bin .eql (tm 69) (ki 0)),om 68 70] [kp [0,2,4,9,18,19,20,68]
 [61,1000000,1000001]]) (.cond (tm 68) (.seq (.reg [om 71 2,om 2 71,od 3 (.mv kF)] [.frz 61,kp [2,3] [61,1000000,1000001]]) .ret) (.seq (.reg [om 52 0,od 53 (.nck (tm 52)),od 54 (fa 2 53),od 55 (ld 1 54),om 56 9,od 57
 (.hcall 41 [(tm 55),(tm 56)] [1000001] 57000)] [kp [0,2,4,9,18,19,20] [61,1000000,1000001]]) (.seq (.reg [om 58 2,om 59 9,od 60 (.bsl true 3 1 [(tm 59)]),od 61 (.app false 3 1 (tm 58) (tm 60)),om 2 61] [kp [0,2,4,
 18,19,20] [61,1000000,1000001]]) (.reg [od 5 (.mv kT)] [kp [0,2,4,5,18,19,20] [61,1000000,1000001]])))))))))))) (.reg [od 72 (.bin .add (tm 20) (ki 1)),om 20 72] [kp [0,2,4,5,18,19,20] [61,1000000,1000001]]))))
 [kp [0,2,4,5,18,19,20] [61,1000000,1000001]]
def Dv:IC:=.loop Ll
abbrev Lm:IC:=.gh (.seq (.seq (.reg [om 13 5] [kp [0,2,4,13] [61,1000000,1000001]]) (.cond (tm 13) .skip (.exit 0))) (.block 1 (.seq (.reg [od 5 (.mv kF)] [kp [0,2,4,5] [61,1000000,1000001]]) (.seq (.reg [om 14 0,od 15 (.nck (tm 14)),
 od 16 (fa 0 15),od 17 (fa 1 16),od 18 (ld 1 17),od 19 (le 0 18),od 20 (.mv (ki 0))] [kp [0,2,4,5,18,19,20] [61,1000000,1000001]]) (.block 2 Dv))))) [kp [0,2,4,5] [61,1000000,1000001]]
def Dw:IC:=.loop Lm
abbrev Ln:IC:=(.seq (.reg [od 2 (.mv kN),od 3 (.mv kF)] [.nl 2 61 3 1,kp [0,2] [61,1000000,1000001]]) (.seq (.reg [od 4 (.mv (.func 37))] [kp [0,2,4] [61,1000000,1000001]]) (.seq (.seq (.reg [od 5 (.mv kT)] [kp [0,2,4,5] [61,
 1000000,1000001]]) (.block 0 Dw)) (.seq (.reg [om 73 2,om 2 73,od 3 (.mv kT)] [.frz 61,kp [2,3] [61,1000000,1000001]]) .ret))))
theorem Ig (h:∀ K:St->Prop,K=run P Γ Du Q->run P Γ Lj (B1 K Q) s):run P Γ Du Q s:=Au h
theorem Ih (h:∀ K:St->Prop,K=run P Γ Dv Q->run P Γ Ll (B1 K Q) s):run P Γ Dv Q s:=Au h
theorem Ii (h:∀ K:St->Prop,K=run P Γ Dw Q->run P Γ Lm (B1 K Q) s):run P Γ Dw Q s:=Au h
def Gg:List RV:=[.tmp 2,.tmp 3]
/- (*probecard/cnfs.solver).undo (function 40) -/
abbrev Qr:IC:=.gh (.seq (.reg [od 9 (.bin .lss (tm 8) (tm 7))] [kp [0,6,7,8,9] [1000000,1000001]]) (.seq (.cond (tm 9) .skip (.exit 0)) (.seq (.block 1 (.seq (.reg [od 10 (ia 1 6 8),od 11 (ld 1 10),om 5 11] [kp [0,5,6,7,8] [1000000,
 1000001]]) (.reg [om 12 0,od 13 (.nck (tm 12)),od 14 (fa 2 13),od 15 (ld 1 14),om 16 5,om 17 5,od 18 (.un .neg (tm 17)),od 19 (.mmx true [(tm 16),(tm 18)]),od 20 (.bin .sub (tm 19) (ki 1)),od 21 (ia 1 15 20),on (.store 1
 (tm 21) (ku 2))] [kp [0,6,7,8] [1000000,1000001]]))) (.reg [od 22 (.bin .add (tm 8) (ki 1)),om 8 22] [kp [0,6,7,8] [1000000,1000001]])))) [kp [0,6,7,8] [1000000,1000001]]
def Gp:IC:=.loop Qr
abbrev Qs:IC:=(.seq (.reg [om 6 1,od 7 (le 0 6),od 8 (.mv (ki 0))] [kp [0,6,7,8] [1000000,1000001]]) (.block 0 Gp))
theorem N6 (h:∀ K:St->Prop,K=run P Γ Gp Q->run P Γ Qr (B1 K Q) s):run P Γ Gp Q s:=Au h
def Qu:List RV:=[]
/- (*probecard/cnfs.solver).visit$1 (function 39) -/
abbrev Hv:IC:=(.seq (.reg [od 3 (ld 1 0),od 4 (.un .not (tm 3))] [kp [1,2,4] [1000000,1000001,1000002,1000003,1000004]]) (.cond (tm 4) (.reg [od 5 (ld 1 1),od 6 (ld 1 2),od 7 (.hcall 40 [(tm 5),(tm 6)] [1000003,1000004] 7000)] [kp []
 [1000000,1000001,1000002,1000003,1000004]]) .skip))
def Hw:List RV:=[]
/- probecard/cnfs.steps (function 26) -/
abbrev Pq:IC:=(.seq (.reg [od 2 (.mv (ki 0))] [kp [0] []]) (.seq (.block 0 (.seq (.reg [om 4 0,od 5 (.bin .lss (tm 4) (ki 0)),om 3 5] [kp [0,3] []]) (.cond (tm 3) (.seq (.reg [od 2 (.mv (ki 1))] [kp [2] []]) .ret) (.seq (.reg [om 7 0,od 8
 (.bin .gtr (tm 7) (ki 1000000)),om 6 8] [kp [6] []]) (.cond (tm 6) (.seq (.reg [od 2 (.mv (ki 3))] [kp [2] []]) .ret) .skip))))) (.seq (.reg [od 2 (.mv (ki 0))] [kp [2] []]) .ret)))
def Pv:List RV:=[.tmp 2]
/- probecard/cnfs.Solve (function 12) -/
abbrev q17:IC:=.gh (.seq (.reg [od 35 (.bin .lss (tm 34) (tm 33))] [kp [9,33,34,35] [25,28]]) (.seq (.cond (tm 35) .skip (.exit 0)) (.seq (.block 1 (.seq (.reg [om 36 34,om 10 36] [kp [9,10,33,34] [25,28]]) (.reg [om 37 9,od 38 (.nck
 (tm 37)),od 39 (fa 2 38),od 40 (ld 1 39),om 41 10,od 42 (ia 1 40 41),on (.store 1 (tm 42) (ku 2))] [kp [9,33,34] [25,28]]))) (.reg [od 43 (.bin .add (tm 34) (ki 1)),om 34 43] [kp [9,33,34] [25,28]])))) [kp [9,33,34]
 [25,28]]
def Px:IC:=.loop q17
abbrev q18:IC:=(.seq (.reg [od 2 (.box true (tm 0)),od 4 (.mv kN),od 5 (.mv kF),od 6 (.mv (ki 0))] [kp [1,2] []]) (.seq (.seq (.reg [od 12 (lG 2 2),od 13 (.call 10 [(tm 12)]),om 7 13] [kp [1,2,7] []]) (.seq (.reg [om 14 7,od 15 (.bin
 .neq (tm 14) (ki 0))] [kp [1,2,7,15] []]) (.cond (tm 15) (.seq (.reg [om 16 7,od 4 (.mv kN),od 5 (.mv kF),om 6 16] [kp [4,5,6] [25]]) .ret) .skip))) (.seq (.seq (.reg [om 17 1,od 18 (.call 26 [(tm 17)]),om 8 18] [kp [1,
 2,8] []]) (.seq (.reg [om 19 8,od 20 (.bin .neq (tm 19) (ki 0))] [kp [1,2,8,20] []]) (.cond (tm 20) (.seq (.reg [om 21 8,od 4 (.mv kN),od 5 (.mv kF),om 6 21] [kp [4,5,6] [25]]) .ret) .skip))) (.seq (.reg [od 22 (lG 2 2),
 od 23 (fa 0 2),od 24 (ld 1 23),od 25 (.mk 41 1 [(.int .u8 0)] (tm 24) (tm 24)),om 26 1,od 27 (.build [(2,(tm 22)),(1,(tm 25)),(1,(tm 26)),(1,(ki 0)),(1,kF)]),od 28 (.box false (tm 27)),om 9 28] [kp [9] [25,28]])
 (.seq (.seq (.reg [om 29 9,od 30 (.nck (tm 29)),od 31 (fa 2 30),od 32 (ld 1 31),od 33 (le 0 32),od 34 (.mv (ki 0))] [kp [9,33,34] [25,28]]) (.block 0 Px)) (.seq (.seq (.reg [om 44 9,od 45 (.hcall 27 [(tm 44)]
 [28,25] 45000),om 11 45] [kp [9,11] [25,28]]) (.block 2 (.seq (.reg [om 47 11,om 46 47] [kp [9,46] [25,28]]) (.cond (tm 46) (.seq (.reg [om 48 9,od 49 (.nck (tm 48)),od 50 (fa 2 49),od 51 (ld 1 50),om 4 51,od 5 (.mv
 kT),od 6 (.mv (ki 0))] [kp [4,5,6] [25]]) .ret) (.seq (.reg [om 53 9,od 54 (.nck (tm 53)),od 55 (fa 5 54),od 56 (ld 1 55),om 52 56] [kp [52] [25]]) (.cond (tm 52) (.seq (.reg [od 4 (.mv kN),od 5 (.mv kF),od 6 (.mv (ki 0))]
 [kp [4,5,6] [25]]) .ret) .skip)))))) (.seq (.reg [od 4 (.mv kN),od 5 (.mv kT),od 6 (.mv (ki 9))] [kp [4,5,6] [25]]) .ret)))))))
theorem V6 (h:∀ K:St->Prop,K=run P Γ Px Q->run P Γ q17 (B1 K Q) s):run P Γ Px Q s:=Au h
def Gi:List RV:=[.tmp 4,.tmp 5,.tmp 6]
end
end Go.Lg
namespace Go.Lg
open Go Go.Proofs
theorem q5w:Ax Tryz.prog 10 Lh 54 1 Im=true:=by kernel_rfl
theorem q5x:Ax Tryz.prog 23 q16 46 2 Vs=true:=by kernel_rfl
theorem Y8:Ax Tryz.prog 37 Iu 19 2 Iw=true:=by kernel_rfl
theorem Rm:Ax Tryz.prog 41 Fa 15 2 Fb=true:=by kernel_rfl
theorem Ue:Ax Tryz.prog 38 Ln 74 1 Gg=true:=by kernel_rfl
theorem q00:Ax Tryz.prog 40 Qs 23 2 Qu=true:=by kernel_rfl
theorem We:Ax Tryz.prog 39 Hv 8 3 Hw=true:=by kernel_rfl
theorem q5y:Ax Tryz.prog 26 Pq 9 1 Pv=true:=by kernel_rfl
theorem q5z:Ax Tryz.prog 12 q18 57 2 Gi=true:=by kernel_rfl
end Go.Lg
namespace Go.Lg
open Go Go.Proofs
variable {Γ:Tables}
theorem Qi {α:Type} {f:α->T} {l:List α} {i:Nat} (d:α) (h0:i<l.length):∀ h:i<(Ak f l).length,(Ak f l)[i]=[f (l.getD i d)]:=fun h=>by
 have:=Ie (f:=f) d h0
 rw[List.getElem?_eq_getElem h]at this
 simpa[List.getD_eq_getElem?_getD]using this
theorem elC {α:Type} {f:α->T} {l:List α} {i:Nat} (d:α) (h0:i<l.length):(Ak f l)[i]?.getD []=[f (l.getD i d)]:=by
 rw[List.getElem?_eq_getElem (by rw[A3];exact h0)]
 exact Qi d h0 _
theorem Dp {α:Type} {l:List α} {i:Nat} {d:α} (h:i<l.length):l.getD i d∈l:=by
 rw[List.getD_eq_getElem?_getD,List.getElem?_eq_getElem h];exact List.getElem_mem h
structure Cf where
 vars:Int
 cls:Sl (Sl Int)
def He (f:Cf):List T:=[tI f.vars,B5 f.cls]
def Cf.L (f:Cf):List (List Int):=f.cls.l.map (·.l)
theorem qEe (a:Sl Int) (l:Int) (h0:Dk a.l.length l) (hn:a.l.length<=1000000000) (hv:∀ v∈a.l,0<=v):A6 Tryz.prog Γ 37 [tV a,tI l] (tK (Kt a.l l)):=by
 refine Af Y8 rfl ?_
 have hp:=h0.pos
 have e1:=elC (f:=tK) 0 hp
 have e1':=Qi (f:=tK) 0 hp
 have hm:=hv _ (Dp (d:=0) hp)
 have hi:=q2Y h0
 have hc:Kt a.l l=if l<0 then qAt (a.l.getD (Fz l) 0)else a.l.getD (Fz l) 0:=rfl
 rw[hc]
 unfold Dk at h0
 generalize a.l.getD (Fz l) 0=x at *
 by_cases hl:l<0
 ·have hl2:l = -(Fz l:Int)-1:=by omega
  generalize Fz l=p at *
  have w1:IntKind.i64.wrap (-l)=(p:Int)+1:=by rw[A5]<;>omega
  have w2:IntKind.i64.wrap (p:Int)=p:=by rw[A5]<;>omega
  simp[Iu,hl,tV,w1,w2,A3,Aa,hp,e1,e1']
  refine A4 (qES x hm) rfl ?_
  simp[Iw,hl]
  rfl
 ·have hl2:l=(Fz l:Int)+1:=by omega
  generalize Fz l=p at *
  have w2:IntKind.i64.wrap (l-1)=p:=by rw[A5]<;>omega
  simp[Iu,hl,tV,w2,A3,Aa,hp,e1,e1',Iw]
theorem q7c (a:List Int) (l:Int) (h0:Dk a.length l) (hn:a.length<=1000000000):Bl Tryz.prog Γ 41 [(1000000,.sl 41 1 (Da a))] [.ls 1000000 0 a.length none,.t (tI l)] (.t (.tup [])) [(1000000,.sl 41 1 (Da (Z2 a l)))]:=by
 refine N4 Rm rfl ?_
 have hp:=h0.pos
 have hi:=q2Y h0
 have hs:∀ x:Int,(Da a).set (Fz l) [tK x]=Da (a.set (Fz l) x):=fun x=>S5
 have hc:Z2 a l=a.set (Fz l) (if l<0 then 0 else 1):=rfl
 rw[hc]
 unfold Dk at h0
 by_cases hl:l<0
 ·have hl2:l = -(Fz l:Int)-1:=by omega
  generalize Fz l=p at *
  have w1:IntKind.i64.wrap (-l)=(p:Int)+1:=by rw[A5]<;>omega
  have w2:IntKind.i64.wrap (p:Int)=p:=by rw[A5]<;>omega
  simp[Fa,hl,w1,w2,A3,Aa,hp,hs,Fb]
 ·have hl2:l=(Fz l:Int)+1:=by omega
  generalize Fz l=p at *
  have w2:IntKind.i64.wrap (l-1)=p:=by rw[A5]<;>omega
  simp[Fa,hl,w2,A3,Aa,hp,hs,Fb]
theorem qAv (n:Int):A6 Tryz.prog Γ 26 [tI n] (tI (if n<0 then 1 else if n > 1000000 then 3 else 0)):=by
 refine Af q5y rfl ?_
 by_cases h:n<0
 ·simp[Pq,Pv,h]
 ·by_cases h2:n > 1000000
  ·simp[Pq,Pv,h,h2]
  ·simp[Pq,Pv,h,h2]
def q2a (v l:Int):Bool:=decide (l=0)||decide (l < -v)||decide (v<l)
def q01 (v:Int):List (List Int)->Int
 | []=>0
 | c::cs=>if 4096<c.length then 3 else if c.any (q2a v)then 1 else q01 v cs
def Jz (f:Cf):Int:=if f.vars<0 then 1 else if 65536<f.vars\/262144<f.cls.l.length then 3 else q01 f.vars f.L
theorem q9T {Q:AX->St->Prop} (f:Cf) (hv:0<=f.vars) (hv2:f.vars<=65536) (A B C:AV) (c:Sl Int) (hl:c.l.length<=4096)
  (h0:(∀ x∈c.l,q2a f.vars x=false)->Q (.exit 3) ⟨[(1,.t (.ip (He f) 0)),(22,A),(23,B),(24,C),(31,.t (Bh c)),(32,.t (tI c.l.length)),(33,.t (tI c.l.length)),(34,.t (tB false))],[]⟩)
  (h1:(∃ x∈c.l,q2a f.vars x=true)->Q .ret ⟨[(2,.t (tI 1))],[]⟩):∀ (k i:Nat),k+i=c.l.length->(∀ j,j<i->q2a f.vars (c.l.getD j 0)=false) ->
  run Tryz.prog Γ Pl Q ⟨[(1,.t (.ip (He f) 0)),(22,A),(23,B),(24,C),(31,.t (Bh c)),(32,.t (tI c.l.length)),(33,.t (tI i))],[]⟩
 | 0,i,h,hj=>by
  refine V0 fun K hK=>?_
  have h2:i=c.l.length:=by omega
  subst h2
  have h0:=h0 fun x hx=>by
   obtain⟨j,hj2,rfl⟩:=List.getElem_of_mem hx
   have:=hj j hj2
   rwa [List.getD_eq_getElem?_getD,List.getElem?_eq_getElem hj2]at this
  simp[Bh,He]at h0 ⊢
  simpa using h0
 | k+1,i,h,hj=>by
  refine V0 fun K hK=>?_
  have h2:i<c.l.length:=by omega
  have e1:=elC (f:=tI) 0 h2
  have e1':=Qi (f:=tI) 0 h2
  have w1:IntKind.i64.wrap ((i:Int)+1)=(i:Int)+1:=by rw[A5]<;>omega
  have w2:IntKind.i64.wrap (-f.vars) = -f.vars:=by rw[A5]<;>omega
  have hm:=Dp (d:=0) h2
  have hcb:q2a f.vars (c.l.getD i 0)=(decide (c.l.getD i 0=0)||decide (c.l.getD i 0 < -f.vars)||decide (f.vars<c.l.getD i 0)):=rfl
  cases hb:q2a f.vars (c.l.getD i 0) with
  | true =>
   have h1:=h1 ⟨_,hm,hb⟩
   rw[hcb]at hb
   generalize c.l.getD i 0=x at *
   have h3:x=0\/x < -f.vars\/f.vars<x:=by simpa[or_assoc]using hb
   by_cases x0:x=0
   ·subst x0
    simp[Bh,He,A3,Aa,h2,e1,e1',w1,w2]
    simpa using h1
   ·by_cases x1:x < -f.vars
    ·simp[Bh,He,A3,Aa,h2,e1,e1',w1,w2,x0,x1]
     simpa using h1
    ·have x2:f.vars<x:=by omega
     simp[Bh,He,A3,Aa,h2,e1,e1',w1,w2,x0,x1,x2]
     simpa using h1
  | false =>
   have ih:=q9T f hv hv2 A B C c hl h0 h1 k (i+1) (by omega) fun j hj2=>by
    by_cases e:j=i
    ·subst e;exact hb
    ·exact hj j (by omega)
   rw[hcb]at hb
   generalize c.l.getD i 0=x at *
   have h3:¬ x=0/\¬ x < -f.vars/\¬ f.vars<x:=by simpa[and_assoc]using hb
   obtain⟨x0,x1,x2⟩:=h3
   simp[Bh,He]at ih
   simp[Bh,He,A3,Aa,h2,e1,e1',w1,w2,x0,x1,x2]
   rw[hK]
   simpa using ih
theorem qBu {v:Int}:∀ {cs:List (List Int)} {i:Nat},i<cs.length->q01 v (cs.drop i)=(if 4096<(cs.getD i []).length then 3 else if(cs.getD i []).any (q2a v)then 1 else q01 v (cs.drop (i+1)))
 | [],i,h=>by simp at h
 | c::cs,0,h=>rfl
 | c::cs,i+1,h=>by simpa using qBu (cs:=cs) (i:=i) (by simpa using h)
theorem q9U {Q:AX->St->Prop} (f:Cf) (hv:0<=f.vars) (hv2:f.vars<=65536) (hn:f.cls.l.length<=262144)
  (h0:q01 f.vars f.L=0->Q (.exit 1) ⟨[(1,.t (.ip (He f) 0)),(22,.t (B5 f.cls)),(23,.t (tI f.cls.l.length)),(24,.t (tI f.cls.l.length)),(25,.t (tB false))],[]⟩)
  (h1:q01 f.vars f.L≠0->Q .ret ⟨[(2,.t (tI (q01 f.vars f.L)))],[]⟩):∀ (k i:Nat),k+i=f.cls.l.length->q01 f.vars (f.L.drop i)=q01 f.vars f.L ->
  run Tryz.prog Γ Pm Q ⟨[(1,.t (.ip (He f) 0)),(22,.t (B5 f.cls)),(23,.t (tI f.cls.l.length)),(24,.t (tI i))],[]⟩
 | 0,i,h,hj=>by
  refine V1 fun K hK=>?_
  have h2:i=f.cls.l.length:=by omega
  subst h2
  have h0:=h0 (by rw[<- hj,List.drop_eq_nil_of_le (by simp[Cf.L])];rfl)
  simp[B5,He]at h0 ⊢
  simpa using h0
 | k+1,i,h,hj=>by
  refine V1 fun K hK=>?_
  have h2:i<f.cls.l.length:=by omega
  have e1:=elC (f:=Bh) Sl.d h2
  have e1':=Qi (f:=Bh) Sl.d h2
  have w1:IntKind.i64.wrap ((i:Int)+1)=(i:Int)+1:=by rw[A5]<;>omega
  have hL:f.L.getD i []=(f.cls.l.getD i Sl.d).l:=by simp[Cf.L,List.getD_eq_getElem?_getD,List.getElem?_map,List.getElem?_eq_getElem h2]
  have hat:=qBu (v:=f.vars) (cs:=f.L) (i:=i) (by simpa[Cf.L]using h2)
  rw[hj,hL]at hat
  have ih:=q9U f hv hv2 hn h0 h1 k (i+1) (by omega)
  generalize f.cls.l.getD i Sl.d=c at *
  have ec:Bh c=.sl (Bc c.l) c.cap c.nl:=rfl
  by_cases hbig:4096<c.l.length
  ·rw[if_pos hbig]at hat
   have h1:=h1 (by rw[hat];decide)
   rw[hat]at h1
   have hb2:(4096:Int)<c.l.length:=by omega
   simp[B5,He,A3,Aa,h2,e1,e1',w1,ec,hb2]
   simpa using h1
  ·rw[if_neg hbig]at hat
   have hb2:¬ (4096:Int)<c.l.length:=by omega
   have g:=fun Q h0 h1=>q9T (Γ:=Γ) (Q:=Q) f hv hv2 (.t (B5 f.cls)) (.t (tI f.cls.l.length)) (.t (tI i)) c (by omega) h0 h1 c.l.length 0 (by omega) (fun j hj=>by omega)
   simp[Bh,He,B5]at g
   simp[B5,He,A3,Aa,h2,e1,e1',w1,ec,hb2]
   refine g _ (fun hx=>?_) (fun x hx hx2=>?_)
   ·have hany:c.l.any (q2a f.vars)=false:=by
     rw[List.any_eq_false];intro x hx2;rw[hx x hx2];simp
    rw[if_neg (by rw[hany];simp)]at hat
    have ih:=ih hat.symm
    simp[B5,He]at ih
    simp[w1]
    rw[hK]
    simpa using ih
   ·have hany:c.l.any (q2a f.vars)=true:=List.any_eq_true.2 ⟨x,hx,hx2⟩
    rw[if_pos hany]at hat
    have h1:=h1 (by rw[hat];decide)
    rw[hat]at h1
    simpa[Dy]using h1
theorem Dx (f:Cf) (hi:Vv f.vars):A6 Tryz.prog Γ 10 [.agg (He f)] (tI (Jz f)):=by
 refine Af q5w rfl ?_
 by_cases h:f.vars<0
 ·simp[Lh,Im,He,B5,h,Jz]
 ·by_cases h2:65536<f.vars
  ·simp[Lh,Im,He,B5,h,h2,Jz,A3]
  ·by_cases h3:262144<f.cls.l.length
   ·have h3':(262144:Int)<f.cls.l.length:=by omega
    simp[Lh,Im,He,B5,h,h2,h3,h3',Jz,A3]
   ·have h3':¬ (262144:Int)<f.cls.l.length:=by omega
    have g:=fun Q h0 h1=>q9U (Γ:=Γ) (Q:=Q) f (by omega) (by omega) (by omega) h0 h1 f.cls.l.length 0 (by omega) rfl
    simp[He,B5]at g
    simp[Lh,He,B5,h,h2,h3,h3',A3]
    have he:Jz f=q01 f.vars f.L:=by unfold Jz;rw[if_neg h,if_neg (by omega)]
    refine g _ (fun e=>?_) (fun e=>?_)
    ·simp[Im,he,e]
    ·simp[Im,he]
def hS (f:Cf) (lim u:Int) (sp:Bool) (a:List Int):List (Nat×Aj):=[(1000000,.bx [.t (tI f.vars),.t (B5 f.cls),.ls 1000001 0 a.length none,.t (tI lim),.t (tI u),.t (tB sp)]),(1000001,.sl 41 1 (Da a))]
theorem qMX (l:Int):(if l < -l then -l else l)-1=(if l<0 then -l-1 else l-1):=by split<;>split<;>omega
theorem qBv {Q:AX->St->Prop} (f:Cf) (lim u:Int) (sp:Bool) (n:Nat) (hn:n<=1000000000) (tr:Sl Int) (htr:tr.l.length<=1000000000) (hok:∀ l∈tr.l,Dk n l) (a0:List Int) (ha:a0.length=n)
  (h0:Q (.exit 0) ⟨[(0,.lp 1000000 0 0),(6,.t (Bh tr)),(7,.t (tI tr.l.length)),(8,.t (tI tr.l.length)),(9,.t (tB false))],hS f lim u sp (Dl a0 tr.l)⟩):∀ (k i:Nat),k+i=tr.l.length->∀ a:List Int,a.length=n->Dl a (tr.l.drop i)=Dl a0 tr.l ->
  run Tryz.prog Γ Gp Q ⟨[(0,.lp 1000000 0 0),(6,.t (Bh tr)),(7,.t (tI tr.l.length)),(8,.t (tI i))],hS f lim u sp a⟩
 | 0,i,h,a,ha1,hu=>by
  refine N6 fun K hK=>?_
  have h2:i=tr.l.length:=by omega
  subst h2
  rw[List.drop_length]at hu
  have hu:a=Dl a0 tr.l:=hu
  rw[<- hu]at h0
  simp[Bh,hS]at h0 ⊢
  simpa using h0
 | k+1,i,h,a,ha1,hu=>by
  refine N6 fun K hK=>?_
  have h2:i<tr.l.length:=by omega
  have e1:=elC (f:=tI) 0 h2
  have e1':=Qi (f:=tI) 0 h2
  have w1:IntKind.i64.wrap ((i:Int)+1)=(i:Int)+1:=by rw[A5]<;>omega
  have hl:=hok _ (Dp (d:=0) h2)
  have hd:tr.l.drop i=tr.l.getD i 0::tr.l.drop (i+1):=by
   rw[List.getD_eq_getElem?_getD,List.getElem?_eq_getElem h2];exact List.drop_eq_getElem_cons h2
  rw[hd]at hu
  have ih:=qBv f lim u sp n hn tr htr hok a0 ha h0 k (i+1) (by omega) (a.set (Fz (tr.l.getD i 0)) 2) (by simp[ha1]) hu
  generalize tr.l.getD i 0=l at *
  have hp:=hl.pos
  have hi:=q2Y hl
  have hx:(if l < -l then -l else l)-1=Fz l:=by rw[qMX];unfold Dk at hl;split<;>omega
  unfold Dk at hl
  have w2:IntKind.i64.wrap (-l) = -l:=by rw[A5]<;>omega
  have w3:IntKind.i64.wrap ((if l < -l then -l else l)-1)=Fz l:=by rw[hx,A5]<;>omega
  have hs:(Da a).set (Fz l) [tK 2]=Da (a.set (Fz l) 2):=S5
  have hpa:Fz l<a.length:=by omega
  simp[Bh,hS]at ih
  simp[Bh,hS,A3,Aa,h2,e1,e1',w1,w2,w3,Vf,G2,hpa,hs]
  rw[hK]
  simpa using ih
theorem qIt (f:Cf) (lim u:Int) (sp:Bool) (a:List Int) (hn:a.length<=1000000000) (tr:Sl Int) (htr:tr.l.length<=1000000000) (hok:∀ l∈tr.l,Dk a.length l):Bl Tryz.prog Γ 40 (hS f lim u sp a) [.lp 1000000 0 0,.t (Bh tr)] (.t (.tup [])) (hS f lim u sp (Dl a tr.l)):=by
 refine N4 q00 rfl ?_
 have g:=fun Q h0=>qBv (Γ:=Γ) (Q:=Q) f lim u sp a.length hn tr htr hok a rfl h0 tr.l.length 0 (by omega) a rfl rfl
 simp[Bh,hS]at g
 simp[Qs,Bh,hS,A3]
 refine g _ ?_
 simp[Qu]
abbrev hP (f:Cf) (lim u:Int) (sp:Bool) (a tr:List Int):List (Nat×Aj):=(61,.sl 3 1 (Bc tr))::hS f lim u sp a
theorem qCy {f:Cf} {lim u:Int} {sp:Bool} {a tr:List Int} {l:Int}:Ac (List.map (Aq (hP f lim u sp a tr) 4) [.ls 1000001 0 a.length none,.t (tI l)])=some [tV ⟨a,none,none⟩,tI l]:=by
 simp[Aq,A2,Ac,tV,hS]
theorem qBw {Q:AX->St->Prop} (f:Cf) (lim u:Int) (sp ag:Bool) (a tr:List Int) (hn:a.length<=1000000000) (hv:CV3 a) (c:Sl Int) (hc:c.l.length<=1000000000) (hok:∀ l∈c.l,Dk a.length l) (A B:AV) (R:Int×Int×Bool)
  (h0:Q (.exit 4) ⟨[(0,.lp 1000000 0 0),(2,.ls 61 0 tr.length none),(4,.t (.fn 37 [])),(5,.t (tB ag)),(8,.t (tI R.1)),(9,.t (tI R.2.1)),(10,.t (tB R.2.2)),(18,.t (B5 f.cls)),(19,A),(20,B),(24,.t (Bh c)),(25,.t (tI c.l.length)),(26,.t (tI c.l.length)),(27,.t (tB false))],hP f lim u sp a tr⟩) :
  ∀ (k i:Nat),k+i=c.l.length->∀ (o la:Int) (d:Bool),0<=o->o<=i->Ef a (c.l.drop i) o la d=R ->
  run Tryz.prog Γ Du Q ⟨[(0,.lp 1000000 0 0),(2,.ls 61 0 tr.length none),(4,.t (.fn 37 [])),(5,.t (tB ag)),(8,.t (tI o)),(9,.t (tI la)),(10,.t (tB d)),(18,.t (B5 f.cls)),(19,A),(20,B),(24,.t (Bh c)),(25,.t (tI c.l.length)),(26,.t (tI i))],hP f lim u sp a tr⟩
 | 0,i,h,o,la,d,ho,hoi,hR=>by
  refine Ig fun K hK=>?_
  have h2:i=c.l.length:=by omega
  subst h2
  rw[List.drop_length]at hR
  simp only[Ef]at hR
  subst hR
  simp[Bh,B5,hP,hS]at h0 ⊢
  simpa using h0
 | k+1,i,h,o,la,d,ho,hoi,hR=>by
  refine Ig fun K hK=>?_
  have h2:i<c.l.length:=by omega
  have e1:=elC (f:=tI) 0 h2
  have e1':=Qi (f:=tI) 0 h2
  have w1:IntKind.i64.wrap ((i:Int)+1)=(i:Int)+1:=by rw[A5]<;>omega
  have w2:IntKind.i64.wrap (o+1)=o+1:=by rw[A5]<;>omega
  have hl:=hok _ (Dp (d:=0) h2)
  have hd:c.l.drop i=c.l.getD i 0::c.l.drop (i+1):=by
   rw[List.getD_eq_getElem?_getD,List.getElem?_eq_getElem h2];exact List.drop_eq_getElem_cons h2
  rw[hd]at hR
  simp only[Ef]at hR
  have ih:=fun o la d=>qBw f lim u sp ag a tr hn hv c hc hok A B R h0 k (i+1) (by omega) o la d
  generalize c.l.getD i 0=l at *
  have hspec:=qEe (Γ:=Γ) ⟨a,none,none⟩ l hl hn (fun v hm=>by have:=hv v hm;omega)
  simp[Bh,B5,hP,hS,A3,Aa,h2,e1,e1']
  refine A4 hspec (qCy (f:=f) (lim:=lim) (u:=u) (sp:=sp) (tr:=tr)) ?_
  generalize Kt a l=x at *
  by_cases x1:x=1
  ·rw[if_pos x1]at hR
   subst x1
   have ih:=ih o la true ho (by omega) hR
   simp[Bh,B5,hP,hS]at ih
   simp[Bh,B5,hP,hS,w1,A3]
   rw[hK]
   simpa using ih
  ·rw[if_neg x1]at hR
   by_cases x2:x=2
   ·rw[if_pos x2]at hR
    subst x2
    by_cases hc1:o=0
    ·have ih:=ih (o+1) l d (by omega) (by omega) (by rwa [if_pos (.inl hc1)]at hR)
     simp[Bh,B5,hP,hS]at ih
     subst hc1
     have w2:IntKind.i64.wrap 1=1:=by rw[A5]<;>omega
     simp[Bh,B5,hP,hS,w1,w2,A3]
     rw[hK]
     simpa using ih
    ·by_cases hc2:l=la
     ·have ih:=ih o l d ho (by omega) (by rwa [if_neg (by rintro(e|e)<;>contradiction)]at hR)
      simp[Bh,B5,hP,hS]at ih
      subst hc2
      simp[Bh,B5,hP,hS,w1,w2,hc1,A3]
      rw[hK]
      simpa using ih
     ·have ih:=ih (o+1) l d (by omega) (by omega) (by rwa [if_pos (.inr hc2)]at hR)
      simp[Bh,B5,hP,hS]at ih
      simp[Bh,B5,hP,hS,w1,w2,hc1,hc2,A3]
      rw[hK]
      simpa using ih
   ·rw[if_neg x2]at hR
    have ih:=ih o la d ho (by omega) hR
    simp[Bh,B5,hP,hS]at ih
    simp[Bh,B5,hP,hS,w1,x1,x2,A3]
    rw[hK]
    simpa using ih
end Go.Lg
