/- Plain data as trees, and how calls are taken. Conditions: none. -/
import Derived.Test.YtafhjckfgmcphaaGreatDoorPkC
import Derived.Test.YtafhjckfgmcphaaGreatDoorProg
import Derived.KernelRfl
import Derived.Lib.Bytealg
import Derived.Test.YtafhjckfgmcphaaGreatDoorRows
import Derived.Test.YtafhjckfgmcphaaGreatDoorCards
import Derived.Test.YtafhjckfgmcphaaGreatDoorTie
import Derived.ProofKit
import Derived.Deep.DeepHandedRow
import Derived.SevenTiedAt
set_option linter.unusedSimpArgs false
set_option linter.unusedVariables false
namespace Go.Lg
open Go
attribute [simp] Dj Cj T.one AV.one Value.oneCell' Dv Ge Fo Ax Zz ret qHa
@[simp] theorem qKp (a b:Int):(a==b)=decide (a=b):=rfl
@[simp] theorem qQH (a b:Int):(a != b)=!decide (a=b):=rfl
@[simp] theorem qQI (s:List UInt8):(ByteArray.mk s.toArray).size=s.length:=by simp[ByteArray.size]
def Au {α:Type} (f:α->T) (l:List α):List (List T):=l.map fun n=>[f n]
theorem A6 {α:Type} {f:α->T} {l:List α}:(Au f l).length=l.length:=by simp[Au]
theorem D8 {α:Type} {f:α->T} {l:List α} {i:Nat} (d:α) (h:i<l.length):(Au f l)[i]?.getD []=[f (l[i]?.getD d)]:=by simp[Au,h]
theorem A9 {α:Type} {f:α->T} {l:List α}:Em 1 (Au f l):=by
 intro e he;obtain⟨x,_,rfl⟩:=xqy.1 he;rfl
theorem qBu {α:Type} {f:α->T} {l:List α} {n:Nat}:(Au f l).take n=Au f (l.take n):=by simp[Au,List.map_take]
theorem Gf {α:Type} {f:α->T} {l:List α} {n:Nat} {x:α}:(Au f l).set n [f x]=Au f (l.set n x):=by simp[Au,List.map_set]
theorem Gy {α:Type} {f:α->T}:Au f []=[]:=rfl
@[simp] theorem qKq {s:Nat}:Em s []:=fun e h=>by cases h
def Bc {α:Type} (f:α->List T) (l:List α):List (List T):=l.map f
theorem Ab {α:Type} {f:α->List T} {l:List α}:(Bc f l).length=l.length:=by simp[Bc]
theorem Es {α:Type} {f:α->List T} {l:List α} {i:Nat} (d:α) (h:i<l.length):(Bc f l)[i]?.getD []=f (l[i]?.getD d):=by simp[Bc,h]
theorem q0y {α:Type} {f:α->List T} {l:List α} {s:Nat} (h:∀ x,(f x).length=s):Em s (Bc f l):=by
 intro e he;obtain⟨x,_,rfl⟩:=xqy.1 he;exact h x
theorem q3N {α:Type} {f:α->List T} {l m:List α}:Bc f l++Bc f m=Bc f (l++m):=by simp[Bc]
@[simp] theorem Dq {α:Type} {f:α->T} {l:List α}:(Au f l).take l.length=Au f l:=by rw[xqw (by simp[Au])]
theorem E0 {α:Type} {f:α->T} {l:List α} {x:α}:Au f l++[[f x]]=Au f (l++[x]):=by simp[Au]
@[simp] theorem qBF {α:Type} {f:α->List T} {l:List α}:(Bc f l).take l.length=Bc f l:=by rw[xqw (by simp[Bc])]
theorem q0z {α:Type} {f:α->List T} {l:List α} {x:α}:Bc f l++[f x]=Bc f (l++[x]):=by simp[Bc]
structure Sl (α:Type) where
 l:List α
 cap:Option Nat
 nl:Option Bool
abbrev tI (n:Int):T:=.v (.int .i64 n)
abbrev tK (n:Int):T:=.v (.int .u8 n)
abbrev tB (b:Bool):T:=.v (.bool b)
abbrev Af (l:List Int):List (List T):=Au tI l
def As (s:Sl Int):T:=.sl (Af s.l) s.cap s.nl
@[simp] theorem qNI {cs:List AV}:Ru (.bx cs)=∀ c∈cs,Fo c:=rfl
@[simp] theorem qNJ {s:ByteArray} {p:Nat}:Ru (.it s p)=True:=rfl
@[simp] theorem qLr {ty s:Nat}:Ru (.sl ty s [])=True:=by simp[Ru]
theorem q21 {α:Type} {f:α->T} {l:List α} {ty s:Nat} (h:∀ x,Ax (f x)=true):Ru (.sl ty s (Au f l)):=by
 intro e he t ht
 obtain⟨x,_,rfl⟩:=xqy.1 he
 simp only[xzh]at ht;subst ht;exact h x
@[simp] theorem qHb {l:List Int} {ty s:Nat}:Ru (.sl ty s (Au tI l))=True:=eq_true (q21 fun _=>rfl)
@[simp] theorem qOb {l:List Int} {ty s:Nat}:Ru (.sl ty s (Au tK l))=True:=eq_true (q21 fun _=>rfl)
@[simp] theorem qOc {l:List Bool} {ty s:Nat}:Ru (.sl ty s (Au tB l))=True:=eq_true (q21 fun _=>rfl)
section
variable {P:Program} {Γ:Tables} {hp:List (Nat×B9)} {f:FuncId} {avs:List AV} {K:T->Prop} {ts:List T} {res:T}
theorem Aq (h:Az P Γ f ts res) (ht:Ak (avs.map toT)=some ts) (hk:K res):q8Y P Γ hp f avs K ⟨⟩:=⟨res,.inl ⟨ts,ht,h⟩,hk⟩
theorem A4 (h:A8 P Γ f ts res) (ht:Ak (avs.map (Ai hp 4))=some ts) (hk:K res):q8Y P Γ hp f avs K ⟨⟩:=⟨res,.inr ⟨ts,ht,h⟩,hk⟩
theorem Bz {ic:IC} {N n:Nat} {rvs:List RV} {args:List T} (hc:Ba P f ic N n rvs=true) (hn:args.length=n) (h:run P Γ ic (ret false rvs fun r=>r=res) ⟨params 0 args,[]⟩):Az P Γ f args res:=by
 obtain⟨r,h1,rfl⟩:=run_pure hc hn h;exact h1
theorem Ae {ic:IC} {N n:Nat} {rvs:List RV} {args:List T} (hc:Ba P f ic N n rvs=true) (hn:args.length=n) (h:run P Γ ic (ret true rvs fun r=>r=res) ⟨params 0 args,[]⟩):A8 P Γ f args res:=by
 obtain⟨r,h1,rfl⟩:=qBr hc hn h;exact h1
theorem Ee {ic:IC} {N n:Nat} {rvs:List RV} {args:List AV} {r0:AV} {hp':List (Nat×B9)} (hc:Ba P f ic N n rvs=true) (hn:args.length=n) (h:run P Γ ic (qHa rvs fun r h=>r=r0/\h=hp') ⟨q8y 0 args,hp⟩):Bm P Γ f hp args r0 hp':=by
 obtain⟨r,h',h1,rfl,rfl⟩:=q6U hc hn h;exact h1
end
end Go.Lg
namespace Go.Lg
open Go
section
variable {P:Program} {Γ:Tables} {Q:AX->St->Prop} {s:St}
/- probecard/netlists.Check (function 133) -/
abbrev q3O:IC:=.gh (.seq (.reg [od 12 (.bin .lss (tm 11) (tm 10))] [kp [1,5,9,10,11,12] [23]]) (.seq (.cond (tm 12) .skip (.exit 0)) (.seq (.block 1 (.seq (.reg [om 13 11,od 14 (ia 4 9 11),od 15 (lG 4 14),od 7 (.alloc false [(.int .u8 0),
 (.slice none 0 0),(.int .i64 0),(.int .i64 0)]),om 6 13,on (.store 4 (tm 7) (tm 15))] [kp [1,5,6,7,9,10,11] [7,23]]) (.seq (.reg [om 16 1,od 17 (fa 0 7),od 18 (ld 1 17),od 19 (.call 159 [(tm 16),(tm 18)])] [kp [1,5,
 6,9,10,11,19] [23]]) (.cond (tm 19) (.reg [om 20 5,om 21 6,od 22 (.bsl true 3 1 [(tm 21)]),od 23 (.app false 3 1 (tm 20) (tm 22)),om 5 23] [kp [1,5,9,10,11] [23]]) .skip)))) (.reg [od 24 (.bin .add (tm 11) (ki 1)),om
 11 24] [kp [1,5,9,10,11] [23]])))) [kp [1,5,9,10,11] [23]]
def Rw:IC:=.loop q3O
abbrev q3P:IC:=(.seq (.reg [od 2 (.box true (tm 0)),od 4 (.mv kN)] [kp [1,2] []]) (.seq (.reg [od 5 (.mv kN)] [.nl 5 23 3 1,kp [1,2,5] [23]]) (.seq (.seq (.reg [od 8 (fa 0 2),od 9 (ld 1 8),od 10 (le 0 9),od 11 (.mv (ki 0))] [kp [1,5,9,
 10,11] [23]]) (.block 0 Rw)) (.seq (.reg [om 25 5,od 26 (.hcall 49 [(tm 25)] [23] 26000),om 4 26] [kp [4] [23]]) .ret))))
theorem Yr (h:∀ K:St->Prop,K=run P Γ Rw Q->run P Γ q3O (Aw K Q) s):run P Γ Rw Q s:=Ah h
def q3Q:List RV:=[.tmp 4]
/- probecard/netlists.States (function 39) -/
abbrev Ys:IC:=(.seq (.reg [od 1 (.box true (tm 0)),od 2 (.mv kN)] [kp [1] []]) (.seq (.reg [od 3 (lG 4 1),od 4 (.bsl true 48 1 [(ku 14)]),od 5 (.call 102 [(tm 3),(tm 4)]),om 2 5] [kp [2] []]) .ret))
def Yt:List RV:=[.tmp 2]
/- probecard/netlists.Comb (function 14) -/
abbrev q10:IC:=(.seq (.reg [od 2 (.mv kF)] [kp [0] []]) (.seq (.reg [om 3 0,od 4 (.bin .geq (tm 3) (ku 1)),om 5 4,oT 6 (.mv (tm 0)) 5,oT 7 (.bin .leq (tm 6) (ku 13)) 5,od 8 (.pick (tm 5) (tm 7) kF),om 2 8] [kp [2] []]) .ret))
def q12:List RV:=[.tmp 2]
/- slices.Clip[[]int,int] (function 49) -/
abbrev Q6:IC:=(.seq (.reg [od 2 (.mv kN)] [kp [0] [1000000]]) (.seq (.reg [om 3 0,om 4 0,od 5 (le 0 4),om 6 0,od 7 (le 0 6),od 8 (.slice 1 (tm 3) none (some (tm 5)) (some (tm 7))),om 2 8] [kp [2] [1000000]]) .ret))
def Q7:List RV:=[.tmp 2]
/- probecard/netlists.Levels (function 40) -/
def Gg:List RO:=[om 45 6,om 46 8,od 47 (ia 1 45 46),od 48 (ld 1 47),od 49 (.bin .eql (tm 48) (ki 0))]
def Ou:List RO:=[om 50 7,om 51 8,od 52 (.bsl true 3 1 [(tm 51)]),od 53 (.app false 3 1 (tm 50) (tm 52)),om 7 53]
def Ov:List RO:=[od 54 (.bin .add (tm 31) (ki 1)),om 31 54]
abbrev Yu:IC:=.gh (.seq (.reg [od 32 (.bin .lss (tm 31) (tm 30))] [kp [1,5,6,7,29,30,31,32] [23,27,53]]) (.seq (.cond (tm 32) .skip (.exit 0)) (.seq (.block 1 (.seq (.reg [om 33 31,od 34 (ia 4 29 31),od 35 (lG 4 34),od 9 (.alloc
 false [(.int .u8 0),(.slice none 0 0),(.int .i64 0),(.int .i64 0)]),om 8 33,on (.store 4 (tm 9) (tm 35))] [kp [1,5,6,7,8,9,29,30,31] [9,23,27,53]]) (.seq (.seq (.reg [od 36 (fa 0 9),od 37 (ld 1 36),od 38 (.call 14
 [(tm 37)])] [kp [1,5,6,7,8,9,29,30,31,38] [9,23,27,53]]) (.cond (tm 38) (.reg [om 39 6,om 40 8,od 41 (fa 1 9),od 42 (ld 1 41),od 43 (le 0 42),od 44 (ia 1 39 40),on (.store 1 (tm 44) (tm 43))] [kp [1,5,6,7,8,
 29,30,31] [23,27,53]]) .skip)) (.seq (.reg Gg [kp [1,5,6,7,8,29,30,31,49] [23,27,53]]) (.cond (tm 49) (.reg Ou [kp [1,5,6,7,29,30,31] [23,27,53]]) .skip))))) (.reg
 Ov [kp [1,5,6,7,29,30,31] [23,27,53]])))) [kp [1,5,6,7,29,30,31] [23,27,53]]
def Jj:IC:=.loop Yu
abbrev Yv:IC:=.gh (.seq (.reg [od 79 (.bin .lss (tm 78) (tm 77))] [kp [1,5,6,7,10,11,12,76,77,78,79] [23,27,53]]) (.seq (.cond (tm 79) .skip (.exit 4)) (.seq (.block 5 (.seq (.reg [od 80 (ia 2 76 78),od 81 (lG 2 80),od 14 (.alloc
 false [(.int .i64 0),(.int .i64 0)]),on (.store 2 (tm 14) (tm 81))] [kp [1,5,6,7,10,11,12,14,76,77,78] [14,23,27,53]]) (.seq (.seq (.reg [od 82 (fa 0 1),od 83 (ld 1 82),od 84 (fa 0 14),od 85 (ld 1 84),od 86 (ia 4
 83 85),od 87 (fa 0 86),od 88 (ld 1 87),od 89 (.call 14 [(tm 88)]),od 90 (.un .not (tm 89))] [kp [1,5,6,7,10,11,12,14,76,77,78,90] [14,23,27,53]]) (.cond (tm 90) (.exit 5) .skip)) (.seq (.reg [om 91 5,od 92 (fa 0
 14),od 93 (.ldR 14 1 false (tm 92)),om 94 5,od 95 (fa 0 14),od 96 (.ldR 14 1 false (tm 95)),od 97 (ia 1 94 96),od 98 (.ldR 23 1 false (tm 97)),om 99 5,om 100 12,od 101 (ia 1 99 100),od 102 (.ldR 23 1 false (tm 101)),od
 103 (.bin .add (tm 102) (ki 1)),od 104 (.mmx true [(tm 98),(tm 103)]),od 105 (ia 1 91 93),on (.stR 23 1 (tm 105) (tm 104))] [kp [1,5,6,7,10,11,12,14,76,77,78] [14,23,27,53]]) (.seq (.reg [om 106 6,od 107 (fa 0
 14),od 108 (ld 1 107),od 109 (ia 1 106 108),od 110 (ld 1 109),od 111 (.bin .sub (tm 110) (ki 1)),od 112 (ia 1 106 108),on (.store 1 (tm 112) (tm 111))] [kp [1,5,6,7,10,11,12,14,76,77,78] [14,23,27,53]]) (.seq
 (.reg [om 113 6,od 114 (fa 0 14),od 115 (ld 1 114),od 116 (ia 1 113 115),od 117 (ld 1 116),od 118 (.bin .eql (tm 117) (ki 0))] [kp [1,5,6,7,10,11,12,14,76,77,78,118] [14,23,27,53]]) (.cond (tm 118) (.reg [om 119
 7,od 120 (fa 0 14),od 121 (ld 1 120),od 122 (.bsl true 3 1 [(tm 121)]),oz 123 (.app false 3 1 (tm 119) (tm 122)) 53,om 7 123] [kp [1,5,6,7,10,11,12,76,77,78] [23,27,53]]) .skip))))))) (.reg [od 124 (.bin .add (tm
 78) (ki 1)),om 78 124] [kp [1,5,6,7,10,11,12,76,77,78] [23,27,53]])))) [kp [1,5,6,7,10,11,12,76,77,78] [23,27,53]]
def Jk:IC:=.loop Yv
abbrev Yw:IC:=.gh (.seq (.seq (.reg [om 57 11,om 58 7,od 59 (le 0 58),od 60 (.bin .lss (tm 57) (tm 59))] [kp [1,5,6,7,10,11,60] [23,27,53]]) (.cond (tm 60) .skip (.exit 2))) (.block 3 (.seq (.reg [om 61 7,om 62 11,od 63 (ia 1 61
 62),od 64 (ld 1 63),om 12 64] [kp [1,5,6,7,10,11,12] [23,27,53]]) (.seq (.reg [om 65 11,od 66 (.bin .add (tm 65) (ki 1)),om 11 66] [kp [1,5,6,7,10,11,12] [23,27,53]]) (.seq (.seq (.reg [om 67 10,om 68 12,od 69
 (ia 1 67 68),od 70 (ld 1 69),od 71 (le 0 70),od 72 (.bin .eql (tm 71) (ki 0))] [kp [1,5,6,7,10,11,12,72] [23,27,53]]) (.cond (tm 72) (.exit 3) .skip)) (.seq (.reg [om 73 10,om 74 12,od 75 (ia 1 73 74),od 76 (ld 1
 75),od 77 (le 0 76),od 78 (.mv (ki 0))] [kp [1,5,6,7,10,11,12,76,77,78] [23,27,53]]) (.block 4 Jk))))))) [kp [1,5,6,7,10,11] [23,27,53]]
def Jl:IC:=.loop Yw
abbrev Yx:IC:=(.seq (.reg [od 1 (.box true (tm 0)),od 2 (.mv kN),od 3 (.mv (ki 0))] [kp [1] []]) (.scope (.seq (.seq (.reg [od 15 (lG 4 1),od 16 (.call 103 [(tm 15)]),om 4 16] [kp [1,4] []]) (.seq (.reg [om 17 4,od 18 (.bin .neq (tm 17)
 (ki 0))] [kp [1,4,18] []]) (.cond (tm 18) (.seq (.reg [om 19 4,od 2 (.mv kN),om 3 19] [kp [2,3] [23]]) .ret) .skip))) (.seq (.reg [od 20 (fa 0 1),od 21 (ld 1 20),od 22 (le 0 21),od 23 (.mk 3 1 [(.int .i64 0)] (tm 22) (tm
 22)),om 5 23] [kp [1,5] [23]]) (.seq (.reg [od 24 (fa 0 1),od 25 (ld 1 24),od 26 (le 0 25),od 27 (.mk 3 1 [(.int .i64 0)] (tm 26) (tm 26)),om 6 27] [kp [1,5,6] [23,27]]) (.seq (.reg [od 7 (.mv kN)] [.nl 7 53 3 1,kp [1,5,
 6,7] [23,27,53]]) (.seq (.seq (.reg [od 28 (fa 0 1),od 29 (ld 1 28),od 30 (le 0 29),od 31 (.mv (ki 0))] [kp [1,5,6,7,29,30,31] [23,27,53]]) (.block 0 Jj)) (.seq (.reg [od 55 (lG 4 1),od 56 (.call 41
 [(tm 55)]),om 10 56] [kp [1,5,6,7,10] [23,27,53]]) (.seq (.reg [od 11 (.mv (ki 0))] [kp [1,5,6,7,10,11] [23,27,53]]) (.seq .skip (.seq (.block 2 Jl) (.seq (.seq (.reg [om 125 11,od 126 (fa 0 1),od
 127 (ld 1 126),od 128 (le 0 127),od 129 (.bin .lss (tm 125) (tm 128))] [kp [5,129] [23]]) (.cond (tm 129) (.seq (.reg [od 2 (.mv kN),od 3 (.mv (ki 6))] [kp [2,3] [23]]) .ret) .skip)) (.seq (.reg [om 130 5,om 2 130,od 3 (.mv
 (ki 0))] [kp [2,3] [23]]) .ret)))))))))))))
theorem Rx (h:∀ K:St->Prop,K=run P Γ Jj Q->run P Γ Yu (Aw K Q) s):run P Γ Jj Q s:=Ah h
theorem Ry (h:∀ K:St->Prop,K=run P Γ Jk Q->run P Γ Yv (Aw K Q) s):run P Γ Jk Q s:=Ah h
theorem Rz (h:∀ K:St->Prop,K=run P Γ Jl Q->run P Γ Yw (Aw K Q) s):run P Γ Jl Q s:=Ah h
attribute [simp] Gg Ou Ov
def Jm:List RV:=[.tmp 2,.tmp 3]
/- slices.Contains[[]probecard/api.Kind,probecard/api.Kind] (function 159) -/
abbrev La:IC:=(.seq (.reg [od 4 (.mv kF)] [kp [0,1] []]) (.seq (.reg [om 5 0,om 6 1,od 7 (.call 191 [(tm 5),(tm 6)]),od 8 (.bin .geq (tm 7) (ki 0)),om 4 8] [kp [4] []]) .ret))
def Lc:List RV:=[.tmp 4]
/- probecard/netlists.shape (function 103) -/
abbrev q01:IC:=.gh (.seq (.reg [od 39 (.bin .lss (tm 38) (tm 37))] [kp [1,36,37,38,39] []]) (.seq (.cond (tm 39) .skip (.exit 1)) (.seq (.block 2 (.seq (.reg [od 40 (ia 4 36 38),od 41 (lG 4 40),od 4 (.alloc false [(.int .u8 0),(.slice none
 0 0),(.int .i64 0),(.int .i64 0)]),on (.store 4 (tm 4) (tm 41))] [kp [1,4,36,37,38] [4]]) (.seq (.reg [od 42 (lG 4 1),od 43 (lG 4 4),od 44 (.call 160 [(tm 42),(tm 43)]),om 5 44] [kp [1,5,36,37,38] []]) (.seq (.reg
 [om 45 5,od 46 (.bin .neq (tm 45) (ki 0))] [kp [1,5,36,37,38,46] []]) (.cond (tm 46) (.seq (.reg [om 47 5,om 2 47] [kp [2] []]) .ret) .skip))))) (.reg [od 48 (.bin .add (tm 38) (ki 1)),om 38 48] [kp [1,36,37,38] []]))))
 [kp [1,36,37,38] []]
def Ld:IC:=.loop q01
abbrev q02:IC:=.gh (.seq (.reg [od 58 (.bin .lss (tm 57) (tm 56))] [kp [1,55,56,57,58] []]) (.seq (.cond (tm 58) .skip (.exit 3)) (.seq (.block 4 (.seq (.reg [od 59 (ia 3 55 57),od 60 (lG 3 59),od 8 (.alloc false [(.slice none 0 0),(.slice
 none 0 0),(.int .i64 0)]),on (.store 3 (tm 8) (tm 60))] [kp [1,8,55,56,57] [8]]) (.seq (.reg [od 61 (lG 4 1),od 62 (lG 3 8),od 63 (.call 162 [(tm 61),(tm 62)]),om 9 63] [kp [1,9,55,56,57] []]) (.seq (.reg [om 64 9,od
 65 (.bin .neq (tm 64) (ki 0))] [kp [1,9,55,56,57,65] []]) (.cond (tm 65) (.seq (.reg [om 66 9,om 2 66] [kp [2] []]) .ret) .skip))))) (.reg [od 67 (.bin .add (tm 57) (ki 1)),om 57 67] [kp [1,55,56,57] []])))) [kp [1,55,
 56,57] []]
def Le:IC:=.loop q02
abbrev G4:IC:=(.seq (.reg [od 1 (.box true (tm 0)),od 2 (.mv (ki 0))] [kp [1] []]) (.seq (.block 0 (.seq (.reg [od 11 (fa 0 1),od 12 (ld 1 11),od 13 (le 0 12),od 14 (.bin .gtr (tm 13) (ki 16384)),om 15 14,oF 16 (fa 2 1) 15,oF 17 (ld 1 16)
 15,oF 18 (le 0 17) 15,oF 19 (.bin .gtr (tm 18) (ki 16)) 15,od 20 (.pick (tm 15) kT (tm 19)),om 21 20,oF 22 (fa 3 1) 21,oF 23 (ld 1 22) 21,oF 24 (le 0 23) 21,oF 25 (.bin .gtr (tm 24) (ki 16384)) 21,od 26 (.pick (tm 21) kT
 (tm 25)),om 10 26] [kp [1,10] []]) (.cond (tm 10) (.seq (.reg [od 2 (.mv (ki 3))] [kp [2] []]) .ret) (.seq (.reg [od 28 (fa 1 1),od 29 (ld 1 28),od 30 (le 0 29),od 31 (fa 0 1),od 32 (ld 1 31),od 33 (le 0 32),od 34 (.bin
 .neq (tm 30) (tm 33)),om 27 34] [kp [1,27] []]) (.cond (tm 27) (.seq (.reg [od 2 (.mv (ki 8))] [kp [2] []]) .ret) .skip))))) (.seq (.seq (.reg [od 35 (fa 0 1),od 36 (ld 1 35),od 37 (le 0 36),od 38 (.mv (ki 0))] [kp [1,36,37,
 38] []]) (.block 1 Ld)) (.seq (.seq (.reg [od 49 (lG 4 1),od 50 (.call 161 [(tm 49)]),om 6 50] [kp [1,6] []]) (.seq (.reg [om 51 6,od 52 (.bin .neq (tm 51) (ki 0))] [kp [1,6,52] []]) (.cond (tm 52) (.seq (.reg
 [om 53 6,om 2 53] [kp [2] []]) .ret) .skip))) (.seq (.seq (.reg [od 54 (fa 2 1),od 55 (ld 1 54),od 56 (le 0 55),od 57 (.mv (ki 0))] [kp [1,55,56,57] []]) (.block 3 Le)) (.seq (.seq (.reg [od 68 (fa 3 1),od 69
 (ld 1 68),od 70 (lG 4 1),od 71 (.call 104 [(tm 70)]),od 72 (.call 163 [(tm 69),(tm 71)])] [kp [72] []]) (.cond (tm 72) (.seq (.reg [od 2 (.mv (ki 1))] [kp [2] []]) .ret) .skip)) (.seq (.reg [od 2 (.mv (ki 0))] [kp [2] []])
 .ret)))))))
theorem U0 (h:∀ K:St->Prop,K=run P Γ Ld Q->run P Γ q01 (Aw K Q) s):run P Γ Ld Q s:=Ah h
theorem U1 (h:∀ K:St->Prop,K=run P Γ Le Q->run P Γ q02 (Aw K Q) s):run P Γ Le Q s:=Ah h
def Db:List RV:=[.tmp 2]
/- probecard/netlists.Fanout (function 41) -/
def Ew:List RO:=[om 37 3,om 38 8,om 39 3,om 40 8,od 41 (ia 1 39 40),od 42 (ld 1 41),om 43 5,om 44 7,od 45 (.build [(1,(tm 43)),(1,(tm 44))]),od 46 (.bsl true 113 2 [(tm 45)]),od 47 (.app false 113 2 (tm 42) (tm 46)),od 48 (ia 1 37
 38),on (.store 1 (tm 48) (tm 47))]
def Ox:List RO:=[od 49 (.bin .add (tm 28) (ki 1)),om 28 49]
abbrev Yy:IC:=.gh (.seq (.reg [od 29 (.bin .lss (tm 28) (tm 27))] [.keepB [3,4,5,18,19,20,26,27,28,29] [14] 100000 16384]) (.seq (.cond (tm 29) .skip (.exit 2)) (.seq (.block 3 (.seq (.reg [om 30 28,od 31 (ia 1 26 28),od 32 (ld 1 31),
 om 7 30,om 8 32] [.keepB [3,4,5,7,8,18,19,20,26,27,28] [14] 100000 16384]) (.seq (.reg [om 33 4,om 34 8,od 35 (.callv (tm 33) [(tm 34)]),od 36 (.un .not (tm 35))] [.keepB [3,4,5,7,8,18,19,20,26,27,28,36]
 [14] 100000 16384]) (.cond (tm 36) (.reg Ew [.renS 47 100000 8,.keepB [3,4,5,18,19,20,26,27,28] [14] 100000 16384]) .skip)))) (.reg Ox [.keepB [3,4,5,18,19,20,26,27,28] [14] 100000
 16384])))) [.keepB [3,4,5,18,19,20,26,27,28] [14] 100000 16384]
def Jn:IC:=.loop Yy
abbrev Yz:IC:=.gh (.seq (.reg [od 21 (.bin .lss (tm 20) (tm 19))] [.keepB [3,4,18,19,20,21] [14] 100000 16384]) (.seq (.cond (tm 21) .skip (.exit 0)) (.seq (.block 1 (.seq (.reg [om 22 20,od 23 (ia 4 18 20),od 24 (lG 4 23),od 6 (.alloc
 false [(.int .u8 0),(.slice none 0 0),(.int .i64 0),(.int .i64 0)]),om 5 22,on (.store 4 (tm 6) (tm 24))] [.keepB [3,4,5,6,18,19,20] [6,14] 100000 16384]) (.seq (.reg [od 25 (fa 1 6),od 26 (ld 1 25),od 27 (le 0 26),
 od 28 (.mv (ki 0))] [.keepB [3,4,5,18,19,20,26,27,28] [14] 100000 16384]) (.block 2 Jn)))) (.reg [od 50 (.bin .add (tm 20) (ki 1)),om 20 50] [.keepB [3,4,18,19,20] [14] 100000 16384])))) [.keepB [3,4,
 18,19,20] [14] 100000 16384]
def Jo:IC:=.loop Yz
abbrev Z0:IC:=.gh (.seq (.reg [od 54 (.bin .lss (tm 53) (tm 52))] [kp [3,51,52,53,54] [14,47]]) (.seq (.cond (tm 54) .skip (.exit 4)) (.seq (.block 5 (.seq (.reg [om 55 53,od 56 (ia 1 51 53),od 57 (ld 1 56),om 9 55,om 10 57] [kp [3,9,
 10,51,52,53] [14,47]]) (.reg [om 58 3,om 59 9,om 60 10,od 61 (.call 105 [(tm 60)]),od 62 (ia 1 58 59),on (.store 1 (tm 62) (tm 61))] [kp [3,51,52,53] [14,47]]))) (.reg [od 63 (.bin .add (tm 53) (ki 1)),om 53 63] [kp
 [3,51,52,53] [14,47]])))) [kp [3,51,52,53] [14,47]]
def Jp:IC:=.loop Z0
abbrev Z1:IC:=(.seq (.reg [od 1 (.box true (tm 0)),od 2 (.mv kN)] [kp [1] []]) (.seq (.reg [od 11 (fa 0 1),od 12 (ld 1 11),od 13 (le 0 12),od 14 (.mkB 111 [(.slice none 0 0)] (tm 13) (tm 13)),om 3 14] [.keepB [1,3] [14] 100000 16384])
 (.seq (.reg [od 15 (lG 4 1),od 16 (.call 104 [(tm 15)]),om 4 16] [.keepB [1,3,4] [14] 100000 16384]) (.seq (.seq (.reg [od 17 (fa 0 1),od 18 (ld 1 17),od 19 (le 0 18),od 20 (.mv (ki 0))] [.keepB [3,4,18,19,20] [14]
 100000 16384]) (.block 0 Jo)) (.seq (.seq (.reg [om 51 3,od 52 (le 0 51),od 53 (.mv (ki 0))] [.frzs 100000 16384,kp [3,51,52,53] [14,47]]) (.block 4 Jp)) (.seq (.reg [om 64 3,om 2 64] [kp [2]
 [14,47]]) .ret))))))
theorem S0 (h:∀ K:St->Prop,K=run P Γ Jn Q->run P Γ Yy (Aw K Q) s):run P Γ Jn Q s:=Ah h
theorem S1 (h:∀ K:St->Prop,K=run P Γ Jo Q->run P Γ Yz (Aw K Q) s):run P Γ Jo Q s:=Ah h
theorem S3 (h:∀ K:St->Prop,K=run P Γ Jp Q->run P Γ Z0 (Aw K Q) s):run P Γ Jp Q s:=Ah h
attribute [simp] Ew Ox
def Z2:List RV:=[.tmp 2]
/- slices.Index[[]probecard/api.Kind,probecard/api.Kind] (function 191) -/
abbrev P4:IC:=.gh (.seq (.reg [od 9 (.bin .lss (tm 8) (tm 7))] [kp [0,1,7,8,9] []]) (.seq (.cond (tm 9) .skip (.exit 0)) (.seq (.block 1 (.seq (.reg [om 10 8,om 5 10] [kp [0,1,5,7,8] []]) (.seq (.reg [om 11 1,om 12 0,om 13 5,od 14
 (ia 1 12 13),od 15 (ld 1 14),od 16 (.bin .eql (tm 11) (tm 15))] [kp [0,1,5,7,8,16] []]) (.cond (tm 16) (.seq (.reg [om 17 5,om 4 17] [kp [4] []]) .ret) .skip)))) (.reg [od 18 (.bin .add (tm 8) (ki 1)),om 8 18] [kp [0,1,
 7,8] []])))) [kp [0,1,7,8] []]
def Ff:IC:=.loop P4
def I6:List RO:=[od 4 (.mv (.const (.int .i64 (-1))))]
abbrev P5:IC:=(.seq (.reg [od 4 (.mv (ki 0))] [kp [0,1] []]) (.seq (.seq (.reg [om 6 0,od 7 (le 0 6),od 8 (.mv (ki 0))] [kp [0,1,7,8] []]) (.block 0 Ff)) (.seq (.reg I6 [kp [4] []]) .ret)))
theorem K7 (h:∀ K:St->Prop,K=run P Γ Ff Q->run P Γ P4 (Aw K Q) s):run P Γ Ff Q s:=Ah h
attribute [simp] I6
def E2:List RV:=[.tmp 4]
/- probecard/logic.Fanin (function 119) -/
abbrev Z3:IC:=(.seq (.reg [od 2 (.mv (ki 0)),od 3 (.mv (ki 0))] [kp [0] []]) (.seq (.seq (.reg [om 4 0,od 5 (.conv .i64 (tm 4)),od 6 (.bin .geq (tm 5) (ki 16))] [kp [0,6] []]) (.cond (tm 6) (.seq (.reg [od 2 (.mv (ki 0)),od 3 (.mv (.const
 (.int .i64 (-1))))] [kp [2,3] []]) .ret) .skip)) (.seq (.reg [om 7 0,od 8 (.iadrA 16 2 (.global 0) (tm 7)),od 9 (.iadrA 2 1 (tm 8) (ki 0)),od 10 (ld 1 9),om 11 0,od 12 (.iadrA 16 2 (.global 0) (tm 11)),od 13 (.iadrA 2 1 (tm
 12) (ki 1)),od 14 (ld 1 13),om 2 10,om 3 14] [kp [2,3] []]) .ret)))
def Z4:List RV:=[.tmp 2,.tmp 3]
/- strings.IndexByte (function 110) -/
abbrev Vn:IC:=(.seq (.reg [od 4 (.mv (ki 0))] [kp [0,1] []]) (.seq (.reg [om 5 0,om 6 1,od 7 (.call 176 [(tm 5),(tm 6)]),om 4 7] [kp [4] []]) .ret))
def Vo:List RV:=[.tmp 4]
/- probecard/netlists.node (function 160) -/
abbrev q13:IC:=(.seq (.reg [od 2 (.box true (tm 0)),od 3 (.box true (tm 1)),od 4 (.mv (ki 0))] [kp [2,3] []]) (.seq (.reg [od 9 (fa 0 3),od 10 (ld 1 9),od 11 (.call 119 [(tm 10)]),om 8 11,od 12 (ex 8 0),od 13 (ex 8 1),om 5 12,om 6 13]
 [kp [2,3,5,6] []]) (.seq (.reg [od 14 (.mkf 192 [(tm 2)]),om 7 14] [kp [2,3,5,6,7] []]) (.seq (.block 0 (.seq (.reg [od 16 (fa 0 3),od 17 (ld 1 16),od 18 (.bin .gtr (tm 17) (ku 15)),om 15 18] [kp [2,3,5,6,7,15] []])
 (.cond (tm 15) (.seq (.reg [od 4 (.mv (ki 7))] [kp [4] []]) .ret) (.seq (.reg [od 20 (fa 1 3),od 21 (ld 1 20),od 22 (le 0 21),om 23 5,od 24 (.bin .lss (tm 22) (tm 23)),om 25 24,oF 26 (fa 1 3) 25,oF 27 (ld 1 26) 25,oF 28 (le
 0 27) 25,oF 29 (.mv (tm 6)) 25,oF 30 (.bin .gtr (tm 28) (tm 29)) 25,od 31 (.pick (tm 25) kT (tm 30)),om 19 31] [kp [2,3,7,19] []]) (.cond (tm 19) (.seq (.reg [od 4 (.mv (ki 8))] [kp [4] []]) .ret) (.seq (.reg [od 33 (fa 1
 3),od 34 (ld 1 33),od 35 (lG 4 2),od 36 (.call 104 [(tm 35)]),od 37 (.call 163 [(tm 34),(tm 36)]),om 32 37] [kp [2,3,7,32] []]) (.cond (tm 32) (.seq (.reg [od 4 (.mv (ki 1))] [kp [4] []]) .ret) (.seq (.reg [od 39 (fa 0 3),
 od 40 (ld 1 39),od 41 (.bin .eql (tm 40) (ku 13)),om 42 41,oT 43 (fa 1 3) 42,oT 44 (ld 1 43) 42,oT 45 (.mv (tm 7)) 42,oT 46 (.call 163 [(tm 44),(tm 45)]) 42,od 47 (.pick (tm 42) (tm 46) kF),om 38 47] [kp [2,3,38] []])
 (.cond (tm 38) (.seq (.reg [od 4 (.mv (ki 7))] [kp [4] []]) .ret) (.seq (.reg [od 49 (lG 4 2),od 50 (lG 4 3),od 51 (.call 193 [(tm 49),(tm 50)]),od 52 (.un .not (tm 51)),om 48 52] [kp [48] []]) (.cond (tm 48) (.seq (.reg [od 4
 (.mv (ki 1))] [kp [4] []]) .ret) .skip))))))))))) (.seq (.reg [od 4 (.mv (ki 0))] [kp [4] []]) .ret)))))
def Ef:List RV:=[.tmp 4]
/- probecard/netlists.names (function 161) -/
abbrev q03:IC:=.gh (.seq (.reg [od 11 (.bin .lss (tm 10) (tm 9))] [kp [3,8,9,10,11] [6]]) (.seq (.cond (tm 11) .skip (.exit 0)) (.seq (.block 1 (.seq (.reg [od 12 (ia 1 8 10),od 13 (ld 1 12),om 5 13] [kp [3,5,8,9,10] [6]]) (.seq (.seq
 (.reg [om 14 5,od 15 (.call 194 [(tm 14)]),od 16 (.un .not (tm 15)),om 17 16,oF 18 (.mv (tm 3)) 17,oF 19 (.mv (tm 5)) 17,oF 20 (.lkup .str (.bool false) false (tm 18) (tm 19)) 17,od 21 (.pick (tm 17) kT (tm 20))] [kp [3,5,
 8,9,10,21] [6]]) (.cond (tm 21) (.seq (.reg [od 2 (.mv (ki 5))] [kp [2] []]) .ret) .skip)) (.reg [om 22 3,om 23 5,on (.mup .str (tm 22) (tm 23) kT)] [kp [3,8,9,10] [6]])))) (.reg [od 24 (.bin .add (tm 10) (ki 1)),om 10 24]
 [kp [3,8,9,10] [6]])))) [kp [3,8,9,10] [6]]
def Lh:IC:=.loop q03
abbrev q04:IC:=(.seq (.reg [od 1 (.box true (tm 0)),od 2 (.mv (ki 0))] [kp [1] []]) (.seq (.reg [od 6 (.mkmap),om 3 6] [kp [1,3] [6]]) (.seq (.seq (.reg [od 7 (fa 1 1),od 8 (ld 1 7),od 9 (le 0 8),od 10 (.mv (ki 0))] [kp [3,8,9,10] [6]])
 (.block 0 Lh)) (.seq (.reg [od 2 (.mv (ki 0))] [kp [2] []]) .ret))))
theorem U2 (h:∀ K:St->Prop,K=run P Γ Lh Q->run P Γ q03 (Aw K Q) s):run P Γ Lh Q s:=Ah h
def S4:List RV:=[.tmp 2]
/- probecard/netlists.memory (function 162) -/
abbrev Z5:IC:=(.seq (.reg [od 2 (.box true (tm 0)),od 3 (.box true (tm 1)),od 4 (.mv (ki 0))] [kp [2,3] []]) (.seq (.reg [od 5 (.mv (.func 195))] [kp [2,3,5] []]) (.seq (.reg [od 7 (lG 4 2),od 8 (.call 104 [(tm 7)]),om 6 8] [kp [3,5,6]
 []]) (.seq (.block 0 (.seq (.reg [om 10 5,od 11 (fa 0 3),od 12 (ld 1 11),od 13 (.callv (tm 10) [(tm 12),(ki 8)]),om 14 13,oF 15 (.mv (tm 5)) 14,oF 16 (fa 1 3) 14,oF 17 (ld 1 16) 14,oF 18 (.callv (tm 15) [(tm 17),(ki 32)])
 14,od 19 (.pick (tm 14) kT (tm 18)),om 9 19] [kp [3,6,9] []]) (.cond (tm 9) (.seq (.reg [od 4 (.mv (ki 8))] [kp [4] []]) .ret) (.seq (.reg [od 21 (fa 0 3),od 22 (ld 1 21),om 23 6,od 24 (.call 163 [(tm 22),(tm 23)]),om 25
 24,oF 26 (fa 1 3) 25,oF 27 (ld 1 26) 25,oF 28 (.mv (tm 6)) 25,oF 29 (.call 163 [(tm 27),(tm 28)]) 25,od 30 (.pick (tm 25) kT (tm 29)),om 31 30,oF 32 (.mv (tm 6)) 31,oF 33 (fa 2 3) 31,oF 34 (ld 1 33) 31,oF 35 (.callv (tm
 32) [(tm 34)]) 31,od 36 (.pick (tm 31) kT (tm 35)),om 20 36] [kp [20] []]) (.cond (tm 20) (.seq (.reg [od 4 (.mv (ki 1))] [kp [4] []]) .ret) .skip))))) (.seq (.reg [od 4 (.mv (ki 0))] [kp [4] []]) .ret)))))
def Eb:List RV:=[.tmp 4]
/- slices.ContainsFunc[[]int,int] (function 163) -/
abbrev N2:IC:=(.seq (.reg [od 4 (.mv kF)] [kp [0,1] []]) (.seq (.reg [om 5 0,om 6 1,od 7 (.call 196 [(tm 5),(tm 6)]),od 8 (.bin .geq (tm 7) (ki 0)),om 4 8] [kp [4] []]) .ret))
def N3:List RV:=[.tmp 4]
/- probecard/netlists.outside (function 104) -/
abbrev X9:IC:=(.seq (.reg [od 1 (.box true (tm 0)),od 2 (.mv (.const .nilFunc))] [kp [1] []]) (.seq (.reg [od 3 (.mkf 164 [(tm 1)]),om 2 3] [kp [2] []]) .ret))
def Xa:List RV:=[.tmp 2]
/- slices.Clip[[]probecard/api.Line,probecard/api.Line] (function 105) -/
abbrev Qi:IC:=(.seq (.reg [od 2 (.mv kN)] [kp [0] []]) (.seq (.reg [om 3 0,om 4 0,od 5 (le 0 4),om 6 0,od 7 (le 0 6),od 8 (.slice 2 (tm 3) none (some (tm 5)) (some (tm 7))),om 2 8] [kp [2] []]) .ret))
def Qj:List RV:=[.tmp 2]
/- internal/stringslite.IndexByte (function 176) -/
abbrev N5:IC:=(.seq (.reg [od 4 (.mv (ki 0))] [kp [0,1] []]) (.seq (.reg [om 5 0,om 6 1,od 7 (.call 202 [(tm 5),(tm 6)]),om 4 7] [kp [4] []]) .ret))
def N6:List RV:=[.tmp 4]
/- probecard/netlists.node$1 (function 192) -/
abbrev Z6:IC:=(.seq (.reg [od 3 (.mv kF)] [kp [0,1] []]) (.seq (.reg [od 4 (fa 0 1),od 5 (ld 1 4),om 6 0,od 7 (ia 4 5 6),od 8 (fa 0 7),od 9 (ld 1 8),od 10 (.bin .neq (tm 9) (ku 12)),om 3 10] [kp [3] []]) .ret))
def Z7:List RV:=[.tmp 3]
/- probecard/netlists.bit (function 193) -/
abbrev G6:IC:=(.seq (.reg [od 2 (.box true (tm 0)),od 3 (.box true (tm 1)),od 4 (.mv kF)] [kp [2,3] []]) (.seq (.seq (.reg [od 5 (fa 0 3),od 6 (ld 1 5),od 7 (.bin .neq (tm 6) (ku 15))] [kp [2,3,7] []]) (.cond (tm 7) (.seq (.reg [od 8 (fa
 2 3),od 9 (ld 1 8),od 10 (.bin .eql (tm 9) (ki 0)),om 11 10,oT 12 (fa 3 3) 11,oT 13 (ld 1 12) 11,oT 14 (.bin .eql (tm 13) (ki 0)) 11,od 15 (.pick (tm 11) (tm 14) kF),om 4 15] [kp [4] []]) .ret) .skip)) (.seq (.reg [od 16
 (fa 2 3),od 17 (ld 1 16),od 18 (.bin .geq (tm 17) (ki 0)),om 19 18,oT 20 (fa 2 3) 19,oT 21 (ld 1 20) 19,oT 22 (fa 2 2) 19,oT 23 (ld 1 22) 19,oT 24 (le 0 23) 19,oT 25 (.bin .lss (tm 21) (tm 24)) 19,od 26 (.pick (tm 19) (tm
 25) kF),om 27 26,oT 28 (fa 3 3) 27,oT 29 (ld 1 28) 27,oT 30 (.bin .geq (tm 29) (ki 0)) 27,od 31 (.pick (tm 27) (tm 30) kF),om 32 31,oT 33 (fa 3 3) 32,oT 34 (ld 1 33) 32,oT 35 (fa 2 2) 32,oT 36 (ld 1 35) 32,oT 37 (fa 2 3)
 32,oT 38 (ld 1 37) 32,oT 39 (ia 3 36 38) 32,oT 40 (fa 1 39) 32,oT 41 (ld 1 40) 32,oT 42 (le 0 41) 32,oT 43 (.bin .lss (tm 34) (tm 42)) 32,od 44 (.pick (tm 32) (tm 43) kF),om 4 44] [kp [4] []]) .ret)))
def G7:List RV:=[.tmp 4]
/- probecard/netlists.IsName (function 194) -/
abbrev Jq:IC:=(.seq (.reg [od 2 (.mv kF)] [kp [0] []]) (.seq (.reg [od 3 (.mv (.func 209))] [kp [0,3] []]) (.seq (.reg [om 4 0,od 5 (.bin .neq (tm 4) (.const (sV []))),om 6 5,oT 7 (.mv (tm 0)) 6,oT 8 (le 1 7) 6,oT 9 (.bin .leq (tm 8) (ki
 32)) 6,od 10 (.pick (tm 6) (tm 9) kF),om 11 10,oT 12 (.mv (tm 0)) 11,oT 13 (.mv (tm 3)) 11,oT 14 (.call 211 [(tm 12),(tm 13)]) 11,oT 15 (.un .not (tm 14)) 11,od 16 (.pick (tm 11) (tm 15) kF),om 2 16] [kp [2] []]) .ret)))
def Jr:List RV:=[.tmp 2]
/- probecard/netlists.memory$1 (function 195) -/
abbrev Vp:IC:=(.seq (.reg [od 4 (.mv kF)] [kp [0,1] []]) (.seq (.reg [om 5 0,od 6 (le 0 5),od 7 (.bin .eql (tm 6) (ki 0)),om 8 7,oF 9 (.mv (tm 0)) 8,oF 10 (le 0 9) 8,oF 11 (.mv (tm 1)) 8,oF 12 (.bin .gtr (tm 10) (tm 11)) 8,od 13 (.pick
 (tm 8) kT (tm 12)),om 4 13] [kp [4] []]) .ret))
def Vq:List RV:=[.tmp 4]
/- slices.IndexFunc[[]int,int] (function 196) -/
abbrev Qk:IC:=.gh (.seq (.reg [od 9 (.bin .lss (tm 8) (tm 7))] [kp [0,1,7,8,9] []]) (.seq (.cond (tm 9) .skip (.exit 0)) (.seq (.block 1 (.seq (.reg [om 10 8,om 5 10] [kp [0,1,5,7,8] []]) (.seq (.reg [om 11 1,om 12 0,om 13 5,od 14
 (ia 1 12 13),od 15 (ld 1 14),od 16 (.callv (tm 11) [(tm 15)])] [kp [0,1,5,7,8,16] []]) (.cond (tm 16) (.seq (.reg [om 17 5,om 4 17] [kp [4] []]) .ret) .skip)))) (.reg [od 18 (.bin .add (tm 8) (ki 1)),om 8 18] [kp [0,1,7,
 8] []])))) [kp [0,1,7,8] []]
def G5:IC:=.loop Qk
abbrev Ql:IC:=(.seq (.reg [od 4 (.mv (ki 0))] [kp [0,1] []]) (.seq (.seq (.reg [om 6 0,od 7 (le 0 6),od 8 (.mv (ki 0))] [kp [0,1,7,8] []]) (.block 0 G5)) (.seq (.reg [od 4 (.mv (.const (.int .i64 (-1))))] [kp [4] []])
 .ret)))
theorem Lj (h:∀ K:St->Prop,K=run P Γ G5 Q->run P Γ Qk (Aw K Q) s):run P Γ G5 Q s:=Ah h
def J1:List RV:=[.tmp 4]
/- probecard/netlists.outside$1 (function 164) -/
abbrev U3:IC:=(.seq (.reg [od 3 (.mv kF)] [kp [0,1] []]) (.seq (.reg [om 4 0,od 5 (.bin .lss (tm 4) (ki 0)),om 6 5,oF 7 (.mv (tm 0)) 6,oF 8 (fa 0 1) 6,oF 9 (ld 1 8) 6,oF 10 (le 0 9) 6,oF 11 (.bin .geq (tm 7) (tm 10)) 6,od 12 (.pick (tm
 6) kT (tm 11)),om 3 12] [kp [3] []]) .ret))
def U4:List RV:=[.tmp 3]
/- probecard/netlists.IsName$1 (function 209) -/
abbrev Hn:IC:=(.seq (.reg [od 2 (.mv kF)] [kp [0] []]) (.seq (.reg [om 3 0,od 4 (.bin .leq (tm 3) (.const (.int .i32 32))),om 5 4,oF 6 (.mv (tm 0)) 5,oF 7 (.bin .gtr (tm 6) (.const (.int .i32 126))) 5,od 8 (.pick (tm 5) kT (tm 7)),om 9 8,
 oF 10 (.mv (tm 0)) 9,oF 11 (.call 210 [(.const (sV [40,41,61,44,35])),(tm 10)]) 9,od 12 (.pick (tm 9) kT (tm 11)),om 2 12] [kp [2] []]) .ret))
def Ho:List RV:=[.tmp 2]
/- strings.ContainsRune (function 210) -/
abbrev Qm:IC:=(.seq (.reg [od 4 (.mv kF)] [kp [0,1] []]) (.seq (.reg [om 5 0,om 6 1,od 7 (.call 221 [(tm 5),(tm 6)]),od 8 (.bin .geq (tm 7) (ki 0)),om 4 8] [kp [4] []]) .ret))
def Qn:List RV:=[.tmp 4]
/- strings.ContainsFunc (function 211) -/
abbrev Qo:IC:=(.seq (.reg [od 4 (.mv kF)] [kp [0,1] []]) (.seq (.reg [om 5 0,om 6 1,od 7 (.call 222 [(tm 5),(tm 6)]),od 8 (.bin .geq (tm 7) (ki 0)),om 4 8] [kp [4] []]) .ret))
def Qp:List RV:=[.tmp 4]
/- strings.IndexRune (function 221) -/
abbrev Vr:IC:=(.seq (.reg [od 4 (.mv (ki 0))] [kp [0,1] []]) (.block 0 (.seq (.reg [om 161 1,od 162 (.bin .leq (.const (.int .i32 0)) (tm 161)),om 163 162,oT 164 (.mv (tm 1)) 163,oT 165 (.bin .lss (tm 164) (.const (.int .i32 128))) 163,od
 166 (.pick (tm 163) (tm 165) kF),om 160 166] [kp [0,1,160] []]) (.cond (tm 160) (.seq (.reg [om 167 0,om 168 1,od 169 (.conv .u8 (tm 168)),od 170 (.call 110 [(tm 167),(tm 169)]),om 4 170] [kp [4] []]) .ret) (.seq (.reg [om
 172 1,od 173 (.bin .eql (tm 172) (.const (.int .i32 65533))),om 171 173] [kp [1,171] []]) (.cond (tm 171) .dead (.seq (.reg [om 184 1,od 185 (.call 230 [(tm 184)]),od 186 (.un .not (tm 185)),om 183 186] [kp [183] []]) (.cond
 (tm 183) .dead .dead))))))))
def Vs:List RV:=[.tmp 4]
/- strings.IndexFunc (function 222) -/
abbrev Vt:IC:=(.seq (.reg [od 4 (.mv (ki 0))] [kp [0,1] []]) (.seq (.reg [om 5 0,om 6 1,od 7 (.call 233 [(tm 5),(tm 6),kT]),om 4 7] [kp [4] []]) .ret))
def Vu:List RV:=[.tmp 4]
/- unicode/utf8.ValidRune (function 230) -/
abbrev Vv:IC:=.gh (.seq (.reg [od 11 (.nxt (tm 10)),od 12 (ex 11 0)] [kp [1,2,10,11,12] [10]]) (.seq (.cond (tm 12) .skip (.exit 0)) (.block 1 (.seq (.reg [od 13 (ex 11 1),od 14 (ex 11 2),om 7 13,om 8 14] [kp [1,2,7,8,10] [10]])
 (.seq (.reg [om 15 1,om 16 8,od 17 (.callv (tm 15) [(tm 16)]),om 18 2,od 19 (.eqb true (tm 17) (tm 18))] [kp [1,2,7,10,19] [10]]) (.cond (tm 19) (.seq (.reg [om 20 7,om 6 20] [kp [6] []]) .ret) .skip)))))) [kp [1,2,10]
 [10]]
def Hq:IC:=.loop Vv
abbrev Vw:IC:=(.seq (.reg [od 6 (.mv (ki 0))] [kp [0,1,2] []]) (.seq (.seq (.reg [om 9 0,od 10 (.rng (tm 9))] [kp [1,2,10] [10]]) (.block 0 Hq)) (.seq (.reg [od 6 (.mv (.const (.int .i64 (-1))))] [kp [6] []]) .ret)))
theorem P6 (h:∀ K:St->Prop,K=run P Γ Hq Q->run P Γ Vv (Aw K Q) s):run P Γ Hq Q s:=Ah h
def N7:List RV:=[.tmp 6]
/- slices.Clone[[]int,int] (function 158) -/
abbrev Il:IC:=(.seq (.reg [od 2 (.mv kN)] [kp [0] []]) (.seq (.seq (.reg [om 3 0,od 4 (.isNil true (tm 3))] [kp [0,4] []]) (.cond (tm 4) (.seq (.reg [od 2 (.mv kN)] [kp [2] [7]]) .ret) .skip)) (.seq (.reg [od 5 (.bsl true 3 1 []),om 6 0,od 7
 (.app false 3 1 (tm 5) (tm 6)),om 2 7] [kp [2] [7]]) .ret)))
def Im:List RV:=[.tmp 2]
end
end Go.Lg
namespace Go.Lg
open Go Go.Proofs
theorem q8z:Ba Tryz.prog 102 q3P 27 2 q3Q=true:=by kernel_rfl
theorem q4f:Ba Tryz.prog 39 Ys 6 1 Yt=true:=by kernel_rfl
theorem q6W:Ba Tryz.prog 14 q10 9 1 q12=true:=by kernel_rfl
theorem Xb:Ba Tryz.prog 49 Q6 9 1 Q7=true:=by kernel_rfl
theorem q4g:Ba Tryz.prog 40 Yx 131 1 Jm=true:=by kernel_rfl
theorem Wv:Ba Tryz.prog 159 La 9 2 Lc=true:=by kernel_rfl
theorem q5p:Ba Tryz.prog 103 G4 73 1 Db=true:=by kernel_rfl
theorem q4h:Ba Tryz.prog 41 Z1 65 1 Z2=true:=by kernel_rfl
theorem Zx:Ba Tryz.prog 191 P5 19 2 E2=true:=by kernel_rfl
theorem q90:Ba Tryz.prog 119 Z3 15 1 Z4=true:=by kernel_rfl
theorem q2y:Ba Tryz.prog 110 Vn 8 2 Vo=true:=by kernel_rfl
theorem q6X:Ba Tryz.prog 160 q13 53 2 Ef=true:=by kernel_rfl
theorem q5q:Ba Tryz.prog 161 q04 25 1 S4=true:=by kernel_rfl
theorem q4i:Ba Tryz.prog 162 Z5 37 2 Eb=true:=by kernel_rfl
theorem Xz:Ba Tryz.prog 163 N2 9 2 N3=true:=by kernel_rfl
theorem q3R:Ba Tryz.prog 104 X9 4 1 Xa=true:=by kernel_rfl
theorem q0a:Ba Tryz.prog 105 Qi 9 1 Qj=true:=by kernel_rfl
theorem Y0:Ba Tryz.prog 176 N5 8 2 N6=true:=by kernel_rfl
theorem q4j:Ba Tryz.prog 192 Z6 11 2 Z7=true:=by kernel_rfl
theorem q7u:Ba Tryz.prog 193 G6 45 2 G7=true:=by kernel_rfl
theorem q4k:Ba Tryz.prog 194 Jq 17 1 Jr=true:=by kernel_rfl
theorem q2z:Ba Tryz.prog 195 Vp 14 2 Vq=true:=by kernel_rfl
theorem q0b:Ba Tryz.prog 196 Ql 19 2 J1=true:=by kernel_rfl
theorem q22:Ba Tryz.prog 164 U3 13 2 U4=true:=by kernel_rfl
theorem q30:Ba Tryz.prog 209 Hn 13 1 Ho=true:=by kernel_rfl
theorem q0c:Ba Tryz.prog 210 Qm 9 2 Qn=true:=by kernel_rfl
theorem q0d:Ba Tryz.prog 211 Qo 9 2 Qp=true:=by kernel_rfl
theorem q31:Ba Tryz.prog 221 Vr 187 2 Vs=true:=by kernel_rfl
theorem q32:Ba Tryz.prog 222 Vt 8 2 Vu=true:=by kernel_rfl
theorem q33:Ba Tryz.prog 233 Vw 21 3 N7=true:=by kernel_rfl
theorem q3S:Ba Tryz.prog 158 Il 8 1 Im=true:=by kernel_rfl
end Go.Lg
set_option maxRecDepth 100000
namespace Go.Lg
open Go Go.Proofs
variable {Γ:Tables}
theorem qA1 (es:List (List T)) (cap:Option Nat) (nl:Option Bool) (hw:Em 1 es):Az Tryz.prog Γ 49 [.sl es cap nl] (.sl es (some es.length) nl):=by
 refine Bz Xb rfl ?_
 simp[Q6,Q7,ret,hw]
theorem qBv (es:List (List T)) (cap:Option Nat) (nl:Option Bool) (hw:Em 2 es):Az Tryz.prog Γ 105 [.sl es cap nl] (.sl es (some es.length) nl):=by
 refine Bz q0a rfl ?_
 simp[Qi,Qj,ret,hw]
theorem qA2 (ty:Nat) (es:List (List T)) (len:Nat) (cap:Option Nat) (hw:Em 1 es):Bm Tryz.prog Γ 49 [(1000000,.sl ty 1 es)] [.ls 1000000 0 len cap] (.ls 1000000 0 len (some len)) [(1000000,.sl ty 1 es)]:=by
 refine Ee Xb rfl ?_
 simp[Q6,Q7,qHa,hw]
def q0e {α:Type} (p:α->Bool) (l:List α):Int:=match l.findIdx? p with|some i=>i|none => -1
theorem q24 {α:Type} {p:α->Bool} {l:List α} {i:Nat} (hp:∀ j,j<i->∀ x,l[j]? = some x->p x=false) (x:α) (hx:l[i]? = some x) (h:p x=true):l.findIdx? p=some i:=by
 rw[List.findIdx?_eq_some_iff_getElem]
 have hi:=(xqi.1 hx).1
 refine⟨hi,?_,fun j hj=>?_⟩
 ·have:=(xqi.1 hx).2;rw[this];exact h
 ·have:=hp j hj l[j] (xqg (by omega))
  simp[this]
theorem q2Z (l:List Int) (c:Option Nat) (nl:Option Bool) (x:Int) (hl:l.length<=1000000000):∀ (k i:Nat),k+i=l.length->(∀ j,j<i->∀ y,l[j]? = some y->(y==x)=false) ->
  run Tryz.prog Γ Ff (Me 0 (Aw (run Tryz.prog Γ (.seq (.reg I6 [.keep [4] []]) .ret) (ret true E2 fun r=>r=tI (q0e (· == x) l))) (ret true E2 fun r=>r=tI (q0e (· == x) l)))) ⟨[(0,.t (.sl (Au tK l) c nl)),(1,.t (tK x)),(7,.t (tI l.length)),(8,.t (tI i))],[]⟩
 | 0,i,h,hp=>by
  refine K7 fun K hK=>?_
  have h2:¬ i<l.length:=by omega
  simp(disch:=omega) [A6,D8 (0:Int),A9,A7,h2,ret,E2,Dv,Ge,Fo,Ax]
  have:l.findIdx? (· == x)=none:=by
   rw[List.findIdx?_eq_none_iff]
   intro y hy
   obtain⟨j,hj,rfl⟩:=xqt hy
   exact hp j (by omega) _ (xqg hj)
  have e:l.findIdx? (fun y=>decide (y=x))=_:=this
  simp[q0e,e]
 | k+1,i,h,hp=>by
  refine K7 fun K hK=>?_
  have h2:i<l.length:=by omega
  simp(disch:=omega) [A6,D8 (0:Int),A9,A7,h2]
  refine⟨fun hc=>?_,fun hc=>?_⟩
  ·simp[By,ret,E2,Dv,Ge,Fo,Ax]
   have:=q24 (p:=(· == x)) hp l[i] (xqg h2) (by simp[hc])
   have e:l.findIdx? (fun y=>decide (y=x))=_:=this
   simp[q0e,e]
  ·simp(disch:=omega) [By,A7]
   rw[hK]
   exact_mod_cast q2Z l c nl x hl k (i+1) (by omega) (fun j hj y hy=>by
    rcases Nat.lt_succ_iff_lt_or_eq.1 hj with hj|rfl
    ·exact hp j hj y hy
    ·rw[xqg h2]at hy;simp at hy;subst hy
     simp;exact fun e=>hc e.symm)
theorem qFM (l:List Int) (c:Option Nat) (nl:Option Bool) (x:Int) (hl:l.length<=1000000000):A8 Tryz.prog Γ 191 [.sl (Au tK l) c nl,tK x] (tI (q0e (· == x) l)):=by
 refine Ae Zx rfl ?_
 simp(disch:=omega) [P5,A6,A7]
 exact_mod_cast q2Z l c nl x hl l.length 0 (by omega) (by simp)
theorem qBG (l:List Int) (c:Option Nat) (nl:Option Bool) (x:Int) (hl:l.length<=1000000000):A8 Tryz.prog Γ 159 [.sl (Au tK l) c nl,tK x] (tB (l.contains x)):=by
 refine Ae Wv rfl ?_
 simp(disch:=omega) [La,A6,A7]
 refine A4 (qFM l c nl x hl) rfl ?_
 simp[ret,Lc,Dv,Ge,Fo,Ax]
 unfold q0e
 cases h:l.findIdx? (· == x) with
 | none =>
  rw[List.findIdx?_eq_none_iff]at h
  have:¬ x∈l:=fun hx=>by simpa using h x hx
  simp[this]
 | some i =>
  rw[List.findIdx?_eq_some_iff_getElem]at h
  obtain⟨hi,h1,_⟩:=h
  have:x∈l:=by rw[<- (show l[i]=x by simpa using h1)];exact xqj hi
  simp[this]
theorem q3T {cs:List T}:Ak (cs.map fun t=>some t)=some cs:=by
 induction cs with
 | nil=>rfl
 | cons t cs ih=>simp only[xqm,Ak,ih,xql]
theorem q25 {hp:List (Nat×B9)} {f:FuncId} {K:T->Prop} {cs:List T} {t res:T} (h:A8 Tryz.prog Γ f (t::cs) res) (hk:K res):q8Y Tryz.prog Γ hp f (.t t::cs.map .t) K ⟨⟩ :=
 A4 h (by simp only[xqm,xq5,Function.comp_def,Ak,Ai];rw[q3T];rfl) hk
theorem q3U {Q:AX->St->Prop} (l:List Int) (c:Option Nat) (nl:Option Bool) (f:FuncId) (cs:List T) (p:Int->Bool) (hp:∀ x∈l,A8 Tryz.prog Γ f (tI x::cs) (tB (p x))) (hl:l.length<=1000000000)
  (h0:(∀ x∈l,p x=false)->Q (.exit 0) ⟨[(0,.t (.sl (Af l) c nl)),(1,.t (.fn f cs)),(7,.t (tI l.length)),(8,.t (tI l.length)),(9,.t (tB false))],[]⟩)
  (h1:∀ i:Nat,l.findIdx? p=some i->Q .ret ⟨[(4,.t (tI i))],[]⟩):∀ (k i:Nat),k+i=l.length->(∀ j,j<i->∀ y,l[j]? = some y->p y=false) ->
  run Tryz.prog Γ G5 Q ⟨[(0,.t (.sl (Af l) c nl)),(1,.t (.fn f cs)),(7,.t (tI l.length)),(8,.t (tI i))],[]⟩
 | 0,i,h,hq=>by
  refine Lj fun K hK=>?_
  have h2:¬ i<l.length:=by omega
  simp(disch:=omega) [A6,D8 (0:Int),A9,A7,h2]
  have h3:i=l.length:=by omega
  subst h3
  refine h0 fun y hy=>?_
  obtain⟨j,hj,rfl⟩:=xqt hy
  exact hq j (by omega) _ (xqg hj)
 | k+1,i,h,hq=>by
  refine Lj fun K hK=>?_
  have h2:i<l.length:=by omega
  simp(disch:=omega) [A6,D8 (0:Int),A9,A7,h2]
  refine q25 (hp l[i] (xqj h2)) ?_
  simp
  refine⟨fun hc=>?_,fun hc=>?_⟩
  ·simp[By]
   exact h1 i (q24 hq l[i] (xqg h2) hc)
  ·simp(disch:=omega) [By,A7]
   rw[hK]
   exact_mod_cast q3U l c nl f cs p hp hl h0 h1 k (i+1) (by omega) (fun j hj y hy=>by
    rcases Nat.lt_succ_iff_lt_or_eq.1 hj with hj|rfl
    ·exact hq j hj y hy
    ·rw[xqg h2]at hy;simp at hy;subst hy;exact hc)
theorem qBH (l:List Int) (c:Option Nat) (nl:Option Bool) (f:FuncId) (cs:List T) (p:Int->Bool) (hp:∀ x∈l,A8 Tryz.prog Γ f (tI x::cs) (tB (p x))) (hl:l.length<=1000000000):A8 Tryz.prog Γ 196 [.sl (Af l) c nl,.fn f cs] (tI (q0e p l)):=by
 refine Ae q0b rfl ?_
 simp(disch:=omega) [Ql,A6,A7]
 refine q3U l c nl f cs p hp hl (fun h=>?_) (fun i h=>?_) l.length 0 (by omega) (by simp)
 ·have:l.findIdx? p=none:=List.findIdx?_eq_none_iff.2 h
  simp[ret,J1,Dv,Ge,Fo,Ax,q0e,this]
 ·simp[ret,J1,Dv,Ge,Fo,Ax,q0e,h]
theorem q14 (l:List Int) (c:Option Nat) (nl:Option Bool) (f:FuncId) (cs:List T) (p:Int->Bool) (hp:∀ x∈l,A8 Tryz.prog Γ f (tI x::cs) (tB (p x))) (hl:l.length<=1000000000):A8 Tryz.prog Γ 163 [.sl (Af l) c nl,.fn f cs] (tB (l.any p)):=by
 refine Ae Xz rfl ?_
 simp(disch:=omega) [N2,A6,A7]
 refine A4 (qBH l c nl f cs p hp hl) rfl ?_
 simp[ret,N3,Dv,Ge,Fo,Ax]
 unfold q0e
 cases h:l.findIdx? p with
 | none =>
  rw[List.findIdx?_eq_none_iff]at h
  have:l.any p=false:=by rw[xz8];intro x hx;simp[h x hx]
  simp[this]
 | some i =>
  rw[List.findIdx?_eq_some_iff_getElem]at h
  obtain⟨hi,h1,_⟩:=h
  have:l.any p=true:=xz1.2 ⟨_,xqj hi,h1⟩
  simp[this]
theorem q4W (k:Int):A8 Tryz.prog Γ 14 [tK k] (tB (decide (1<=k/\k<=13))):=by
 refine Ae q6W rfl ?_
 by_cases h1:1<=k<;>by_cases h2:k<=13<;>simp[q10,ret,q12,Dv,Ge,Fo,Ax,h1,h2]
structure Nd where
 k:Int
 inn:Sl Int
 mem:Int
 bit:Int
structure Mm where
 addr:Sl Int
 data:Sl Int
 write:Int
structure Bi where
 nodes:Sl Nd
 names:Sl (List UInt8)
 mems:Sl Mm
 outs:Sl Int
def Dl (x:Nd):List T:=[tK x.k,As x.inn,tI x.mem,tI x.bit]
def tMm (m:Mm):List T:=[As m.addr,As m.data,tI m.write]
def tS (l:List UInt8):T:=.v (sV l)
def Aa (s:Sl Nd):T:=.sl (Bc Dl s.l) s.cap s.nl
def Ad (s:Sl (List UInt8)):T:=.sl (Au tS s.l) s.cap s.nl
def Ag (s:Sl Mm):T:=.sl (Bc tMm s.l) s.cap s.nl
def tC (c:Bi):List T:=[Aa c.nodes,Ad c.names,Ag c.mems,As c.outs]
def Nd.d:Nd:=⟨0,⟨[],none,none⟩,0,0⟩
def Mm.d:Mm:=⟨⟨[],none,none⟩,⟨[],none,none⟩,0⟩
theorem Bq {l:List Nd}:Em 4 (Bc Dl l):=q0y fun _=>rfl
theorem q6Y {l:List Mm}:Em 3 (Bc tMm l):=q0y fun _=>rfl
structure CirOk (c:Bi):Prop where
 nodes:c.nodes.l.length<=1000000000
 names:c.names.l.length<=1000000000
 mems:c.mems.l.length<=1000000000
 outs:c.outs.l.length<=1000000000
 kind:∀ x∈c.nodes.l,0<=x.k/\x.k<=255
 inn:∀ x∈c.nodes.l,x.inn.l.length<=1000000000
 addr:∀ m∈c.mems.l,m.addr.l.length<=1000000000/\m.data.l.length<=1000000000
def S5 (c:Bi) (n:Int):Bool:=decide (n<0\/(c.nodes.l.length:Int)<=n)
theorem q0f (c:Bi) (n:Int) (hc:c.nodes.l.length<=1000000000):A8 Tryz.prog Γ 164 [tI n,.ip (tC c) 0] (tB (S5 c n)):=by
 refine Ae q22 rfl ?_
 by_cases h1:n<0<;>simp(disch:=omega) [U3,ret,U4,Dv,Ge,Fo,Ax,h1,tC,Aa,Ab,A7,S5]
theorem Y1 (c:Bi):Az Tryz.prog Γ 104 [.agg (tC c)] (.fn 164 [.ip (tC c) 0]):=by
 refine Bz q3R rfl ?_
 simp[X9,ret,Xa,tC,Dj,Cj,T.one,AV.one,Aa,Ad,Ag,As]
theorem q05 (c:Bi) (hc:c.nodes.l.length<=1000000000) (l:List Int) (cap:Option Nat) (nl:Option Bool) (hl:l.length<=1000000000):A8 Tryz.prog Γ 163 [.sl (Af l) cap nl,.fn 164 [.ip (tC c) 0]] (tB (l.any (S5 c))) :=
 q14 l cap nl _ _ _ (fun x _=>q0f c x hc) hl
def Uk:List (Int×Int):=[(0,0),(0,0),(0,0),(1,1),(1,1),(2,16),(2,16),(2,16),(2,16),(2,16),(2,16),(3,3),(2,2),(1,16),(1,1),(0,0)]
def qHc:List T:=Uk.flatMap fun p=>[tI p.1,tI p.2]
def Oy (k:Int):Int×Int:=if 16<=k then(0,-1)else Uk.getD k.toNat (0,0)
def GOk (Γ:Tables):Prop:=Γ 0=some qHc
theorem Dw (hΓ:GOk Γ) (k:Int) (h0:0<=k) (h1:k<=255):A8 Tryz.prog Γ 119 [tK k] (.tup [tI (Oy k).1,tI (Oy k).2]):=by
 unfold GOk at hΓ
 refine Ae q90 rfl ?_
 by_cases h2:16<=k
 ·simp(disch:=omega) [Z3,ret,Z4,Dv,Ge,Fo,Ax,h2,A7,Oy]
 ·have h3:k=0\/k=1\/k=2\/k=3\/k=4\/k=5\/k=6\/k=7\/k=8\/k=9\/k=10\/k=11\/k=12\/k=13\/k=14\/k=15:=by omega
  rcases h3 with rfl|rfl|rfl|rfl|rfl|rfl|rfl|rfl|rfl|rfl|rfl|rfl|rfl|rfl|rfl|rfl <;>
  simp(disch:=omega) [Z3,ret,Z4,Dv,Ge,Fo,Ax,A7,Oy,hΓ,qHc,Uk]<;>exact⟨rfl,rfl⟩
def q2a (c:Bi) (x:Nd):Bool :=
 if x.k≠15 then decide (x.mem=0/\x.bit=0)
 else decide (0<=x.mem/\x.mem<c.mems.l.length/\0<=x.bit/\x.bit<((c.mems.l.getD x.mem.toNat Mm.d).data.l.length))
theorem qIl (c:Bi) (x:Nd) (hc:CirOk c):A8 Tryz.prog Γ 193 [.agg (tC c),.agg (Dl x)] (tB (q2a c x)):=by
 refine Ae q7u rfl ?_
 have hm:=hc.mems
 by_cases h1:x.k=15
 ·by_cases h2:0<=x.mem
  ·by_cases h3:x.mem<c.mems.l.length
   ·have h3':x.mem.toNat<c.mems.l.length:=by omega
    by_cases h4:0<=x.bit
    ·simp(disch:=omega) [G6,ret,G7,Dv,Ge,Fo,Ax,Dj,Cj,T.one,AV.one,tC,Dl,Aa,Ad,Ag,As,h1,h2,h3,h4,h3',Ab,Es Mm.d,A7,q6Y,tMm,A6,q2a]
    ·simp(disch:=omega) [G6,ret,G7,Dv,Ge,Fo,Ax,Dj,Cj,T.one,AV.one,tC,Dl,Aa,Ad,Ag,As,h1,h2,h3,h4,h3',Ab,Es Mm.d,A7,q6Y,tMm,A6,q2a]
   ·simp(disch:=omega) [G6,ret,G7,Dv,Ge,Fo,Ax,Dj,Cj,T.one,AV.one,tC,Dl,Aa,Ad,Ag,As,h1,h2,h3,Ab,Es Mm.d,A7,q6Y,tMm,A6,q2a]
  ·simp(disch:=omega) [G6,ret,G7,Dv,Ge,Fo,Ax,Dj,Cj,T.one,AV.one,tC,Dl,Aa,Ad,Ag,As,h1,h2,Ab,Es Mm.d,A7,q6Y,tMm,A6,q2a]
 ·by_cases h2:x.mem=0
  ·simp(disch:=omega) [By,G6,G7,tC,Dl,Aa,Ad,Ag,As,h1,h2,q2a,-decide_eq_decide]
  ·have h2':(x.mem==0)=false:=by simpa using h2
   simp(disch:=omega) [By,G6,G7,tC,Dl,Aa,Ad,Ag,As,h1,h2,h2',q2a]
def Ww (l:List Int) (most:Int):Bool:=decide (l.length=0\/most<l.length)
theorem q6Z (l:List Int) (cap:Option Nat) (nl:Option Bool) (most:Int) (hl:l.length<=1000000000):A8 Tryz.prog Γ 195 [.sl (Af l) cap nl,tI most] (tB (Ww l most)):=by
 refine Ae q2z rfl ?_
 by_cases h:l.length=0<;>simp(disch:=omega) [Vp,ret,Vq,Dv,Ge,Fo,Ax,A6,h,Ww,A7]
def q3V (c:Bi) (n:Int):Bool:=decide ((c.nodes.l.getD n.toNat Nd.d).k≠12)
theorem qFN (c:Bi) (n:Int) (h0:0<=n) (h1:n<c.nodes.l.length):A8 Tryz.prog Γ 192 [tI n,.ip (tC c) 0] (tB (q3V c n)):=by
 refine Ae q4j rfl ?_
 have h2:n.toNat<c.nodes.l.length:=by omega
 simp(disch:=omega) [Z6,ret,Z7,Dv,Ge,Fo,Ax,tC,Aa,Ab,Es Nd.d,Bq,h0,h1,h2,q3V,Dl]
def Eh (c:Bi) (x:Nd):Int :=
 if 15<x.k then 7 else if(x.inn.l.length:Int)<(Oy x.k).1\/(Oy x.k).2<x.inn.l.length then 8 else if x.inn.l.any (S5 c)then 1
 else if x.k=13/\x.inn.l.any (q3V c)=true then 7 else if q2a c x=false then 1 else 0
theorem q4X {c:Bi} {l:List Int} (h:l.any (S5 c)=false):∀ n∈l,0<=n/\n<c.nodes.l.length:=by
 intro n hn
 have:=xz8.1 h n hn
 simp only[S5,xqu,not_or,Int.not_lt,Int.not_le]at this
 exact this
theorem qHd (hΓ:GOk Γ) (c:Bi) (x:Nd) (hc:CirOk c) (hk:0<=x.k/\x.k<=255) (hl:x.inn.l.length<=1000000000):A8 Tryz.prog Γ 160 [.agg (tC c),.agg (Dl x)] (tI (Eh c x)):=by
 refine Ae q6X rfl ?_
 have hn:=hc.nodes
 have e1:=q05 (Γ:=Γ) c hn x.inn.l x.inn.cap x.inn.nl hl
 have e2:=Dw hΓ x.k hk.1 hk.2
 have e3:=Y1 (Γ:=Γ) c
 have e4:=qIl (Γ:=Γ) c x hc
 simp(disch:=omega) [q13,Dj,Cj,T.one,AV.one,tC,Dl,Aa,Ad,Ag,As]
 refine A4 e2 rfl ?_
 simp(disch:=omega)
 simp
 refine⟨fun h1=>?_,fun h1=>?_⟩
 ·simp[By,ret,Ef,Dv,Ge,Fo,Ax,Eh,h1]
 by_cases h2:(x.inn.l.length:Int)<(Oy x.k).1
 ·simp(disch:=omega) [By,A6,A7,h2,ret,Ef,Dv,Ge,Fo,Ax,Eh,h1]
 by_cases h3:(Oy x.k).2<x.inn.l.length
 ·simp(disch:=omega) [By,A6,A7,h2,h3,ret,Ef,Dv,Ge,Fo,Ax,Eh,h1]
 simp(disch:=omega) [By,A6,A7,h2,h3]
 refine Aq e3 rfl ?_
 simp(disch:=omega)
 refine A4 e1 rfl ?_
 simp(disch:=omega) [-List.any_eq_true,-List.any_eq_false]
 refine⟨fun h4=>?_,fun h4=>?_⟩
 ·simp[-List.any_eq_true,-List.any_eq_false,By,ret,Ef,Dv,Ge,Fo,Ax,Eh,h1,h2,h3,h4]
 have h4':x.inn.l.any (S5 c)=false:=h4
 by_cases h5:x.k=13
 ·have e5:=q14 (Γ:=Γ) x.inn.l x.inn.cap x.inn.nl 192 [.ip (tC c) 0] (q3V c) (fun n hm=>qFN c n (q4X h4' n hm).1 (q4X h4' n hm).2) hl
  simp(disch:=omega) [By,h5]
  refine A4 e5 rfl ?_
  simp[-List.any_eq_true,-List.any_eq_false]
  refine⟨fun h6=>?_,fun h6=>?_⟩
  ·have h6':x.inn.l.any (q3V c)=true:=h6
   simp[-List.any_eq_true,-List.any_eq_false,By,ret,Ef,Dv,Ge,Fo,Ax,Eh,h1,h2,h3,h4',h5,h6']
   simp[h5]at h2 h3;omega
  ·have h6':x.inn.l.any (q3V c)=false:=h6
   have e:Eh c x=if q2a c x=false then 1 else 0:=by
    unfold Eh
    rw[if_neg (by omega),if_neg (by omega),if_neg (by simp[h4']),if_neg (by simp[h6'])]
   rw[e]
   simp(disch:=omega) [By,h6']
   rw[show Dl x=[tK 13,As x.inn,tI x.mem,tI x.bit] from by simp[Dl,h5]]at e4
   refine A4 e4 rfl ?_
   simp
   refine⟨fun h7=>?_,fun h7=>?_⟩<;>simp[By,Ef,h7]
 ·have e:Eh c x=if q2a c x=false then 1 else 0:=by
   unfold Eh
   rw[if_neg (by omega),if_neg (by omega),if_neg (by simp[h4']),if_neg (by simp[h5])]
  rw[e]
  simp(disch:=omega) [By,h5]
  refine A4 e4 rfl ?_
  simp
  refine⟨fun h7=>?_,fun h7=>?_⟩<;>simp[By,Ef,h7]
theorem qQT:(Tryz.prog.funcs[202]?).map (fun f=>(f.name,f.body.isNone,f.origin))=some ("internal/bytealg.IndexByteString",true, ""):=by kernel_rfl
abbrev tR (n:Int):T:=.v (.int .i32 n)
theorem q3W (s:ByteArray) (c:Int):A8 Tryz.prog Γ 202 [.v (.string s),tK c] (tI (Lib.indexByte s.data.toList c.toNat.toUInt8)):=by
 intro w X vs hg hx hts
 obtain⟨x,xs,rfl,h1,h2⟩:=hts.cons_inv
 obtain⟨y,ys,rfl,h3,h4⟩:=h2.cons_inv
 have:=h4.nil_inv;subst this
 cases h1;cases h3
 refine .inr ⟨.int .i64 (Lib.indexByte s.data.toList c.toNat.toUInt8),?_,RowKit.Below.refl _ _,.v _⟩
 have h:=qQT
 simp only[xqb,xqd]at h
 obtain⟨fn,hf,hn,hb,ho⟩:=h
 have e1:Extern.findNext fn=none:=by
  simp only[Extern.findNext,hn,ho]
  have a:Extern.allNextRows.lookup "internal/bytealg.IndexByteString" = none:=by kernel_rfl
  have b:Extern.allNextRows.lookup "" = none:=by kernel_rfl
  rw[a,b];rfl
 have e2:Extern.find fn=some Extern.BytealgIndexByte.indexByte:=by
  simp only[Extern.find,hn,ho]
  have a:Extern.allGenericRows.lookup "internal/bytealg.IndexByteString" = none:=by kernel_rfl
  have b:Extern.allTypedRows.lookup "internal/bytealg.IndexByteString" = none:=by kernel_rfl
  have c:Extern.allRows.lookup "internal/bytealg.IndexByteString" = some Extern.BytealgIndexByte.indexByte:=by kernel_rfl
  rw[a,b,c];rfl
 have hnn:¬ fn.name = "runtime.NumGoroutine" := by rw[hn];decide
 have hr:=Lib.run_indexByteString (P:=Tryz.prog) s c w
 have hb':fn.body=none:=by simpa using hb
 simp[callFunc,hf,hnn,hb',e1,e2,hr]
theorem qHe (s:ByteArray) (c:Int):A8 Tryz.prog Γ 176 [.v (.string s),tK c] (tI (Lib.indexByte s.data.toList c.toNat.toUInt8)):=by
 refine Ae Y0 rfl ?_
 simp[N5]
 refine A4 (q3W s c) rfl ?_
 simp[N6]
theorem q3X (s:ByteArray) (c:Int):A8 Tryz.prog Γ 110 [.v (.string s),tK c] (tI (Lib.indexByte s.data.toList c.toNat.toUInt8)):=by
 refine Ae q2y rfl ?_
 simp[Vn]
 refine A4 (qHe s c) rfl ?_
 simp[Vo]
theorem qA3 (s:ByteArray) (c:Int) (h0:0<=c) (h1:c<128):A8 Tryz.prog Γ 221 [.v (.string s),tR c] (tI (Lib.indexByte s.data.toList c.toNat.toUInt8)):=by
 refine Ae q31 rfl ?_
 simp(disch:=omega) [Vr,h0,h1,C7]
 refine A4 (q3X s c) rfl ?_
 simp[Vs]
theorem q6a (s:ByteArray) (c:Int) (h0:0<=c) (h1:c<128):A8 Tryz.prog Γ 210 [.v (.string s),tR c] (tB (decide (0<=Lib.indexByte s.data.toList c.toNat.toUInt8))):=by
 refine Ae q0c rfl ?_
 simp(disch:=omega) [Qm]
 refine A4 (qA3 s c h0 h1) rfl ?_
 simp[Qn]
def qHf (c:Int):Bool:=decide (c<=32\/126<c\/0<=Lib.indexByte [40,41,61,44,35] c.toNat.toUInt8)
theorem qHg (c:Int):A8 Tryz.prog Γ 209 [tR c] (tB (qHf c)):=by
 refine Ae q30 rfl ?_
 by_cases h1:c<=32
 ·simp[Hn,Ho,h1,qHf]
 by_cases h2:126<c
 ·simp[Hn,Ho,h1,h2,qHf]
 simp[Hn,h1,h2]
 refine A4 (q6a ⟨#[40,41,61,44,35]⟩ c (by omega) (by omega)) rfl ?_
 simp[Ho,qHf,h1,h2]
theorem qFO (s:List UInt8) (i:Nat) (hi:i<s.length) (ha:s[i]<128):Utf8.decode ⟨s.toArray⟩ i=((s[i]).toNat,1):=by
 have e:(ByteArray.mk s.toArray).get! (i+0)=s[i]:=by
  simp[ByteArray.get!,hi]
 have h2:(s[i]).toNat<128:=by simpa[UInt8.lt_iff_toNat_lt]using ha
 unfold Utf8.decode
 simp only[e,h2,↓reduceIte]
def qFP (s:List UInt8):Bool:=s.any fun b=>qHf b.toNat
theorem q3Y {Q:AX->St->Prop} (s:List UInt8) (ha:∀ b∈s,b<128)
  (h0:qFP s=false->Q (.exit 0) ⟨[(1,.t (.fn 209 [])),(2,.t (tB true)),(10,.li 10),(11,.t (.tup [tB false])),(12,.t (tB false))],[(10,.it ⟨s.toArray⟩ s.length)]⟩)
  (h1:qFP s=true->∀ i:Nat,Q .ret ⟨[(6,.t (tI i))],[]⟩):∀ (k i:Nat),k+i=s.length->(∀ j,j<i->∀ b,s[j]? = some b->qHf b.toNat=false) ->
  run Tryz.prog Γ Hq Q ⟨[(1,.t (.fn 209 [])),(2,.t (tB true)),(10,.li 10)],[(10,.it ⟨s.toArray⟩ i)]⟩
 | 0,i,h,hq=>by
  refine P6 fun K hK=>?_
  have h2:¬ i<s.length:=by omega
  have h3:i=s.length:=by omega
  have h4:¬ i<(ByteArray.mk s.toArray).size:=by simpa[ByteArray.size]using h2
  simp[h2]
  subst h3
  refine h0 (xz8.2 fun b hb=>?_)
  obtain⟨j,hj,rfl⟩:=xqt hb
  simp[hq j hj _ (xqg hj)]
 | k+1,i,h,hq=>by
  refine P6 fun K hK=>?_
  have h2:i<s.length:=by omega
  have h4:i<(ByteArray.mk s.toArray).size:=by simpa[ByteArray.size]using h2
  simp[h2,qFO s i h2 (ha _ (xqj h2))]
  refine A4 (qHg s[i].toNat) rfl ?_
  simp
  refine⟨fun hc=>?_,fun hc=>?_⟩
  ·simp[By]
   exact h1 (xz1.2 ⟨_,xqj h2,hc⟩) i
  ·simp[By]
   rw[hK]
   exact q3Y s ha h0 h1 k (i+1) (by omega) (fun j hj b hb=>by
    rcases Nat.lt_succ_iff_lt_or_eq.1 hj with hj|rfl
    ·exact hq j hj b hb
    ·rw[xqg h2]at hb;simp at hb;subst hb;exact hc)
theorem qCk (s:List UInt8) (ha:∀ b∈s,b<128):∃ n:Int,A8 Tryz.prog Γ 233 [tS s,.fn 209 [],tB true] (tI n)/\(0<=n↔qFP s=true):=by
 have:∃ r,A8 Tryz.prog Γ 233 [tS s,.fn 209 [],tB true] r/\∃ n,r=tI n/\(0<=n↔qFP s=true):=by
  refine qBr q33 rfl ?_
  simp[Vw,tS,sV]
  refine q3Y s ha (fun h=>?_) (fun h i=>?_) s.length 0 (by omega) (by simp)
  ·simp[N7,h]
  ·simp[N7,h]
 obtain⟨_,h1,n,rfl,h2⟩:=this
 exact⟨n,h1,h2⟩
theorem q91 (s:List UInt8) (ha:∀ b∈s,b<128):∃ n:Int,A8 Tryz.prog Γ 222 [tS s,.fn 209 []] (tI n)/\(0<=n↔qFP s=true):=by
 obtain⟨n,h1,h2⟩:=qCk (Γ:=Γ) s ha
 refine⟨n,Ae q32 rfl ?_,h2⟩
 simp[Vt]
 refine A4 h1 rfl ?_
 simp[Vu]
theorem q3Z (s:List UInt8) (ha:∀ b∈s,b<128):A8 Tryz.prog Γ 211 [tS s,.fn 209 []] (tB (qFP s)):=by
 obtain⟨n,h1,h2⟩:=q91 (Γ:=Γ) s ha
 refine Ae q0d rfl ?_
 simp[Qo]
 refine A4 h1 rfl ?_
 simp[Qp,h2]
def q5r (s:List UInt8):Bool:=decide (s≠[]/\s.length<=32) && !qFP s
theorem qDs (s:List UInt8) (ha:∀ b∈s,b<128):A8 Tryz.prog Γ 194 [tS s] (tB (q5r s)):=by
 refine Ae q4k rfl ?_
 have h:=q3Z (Γ:=Γ) s ha
 by_cases h1:s=[]
 ·simp[Jq,Jr,tS,sV,h1,q5r]
 have h1':s.isEmpty=false:=by simpa using h1
 by_cases h2:s.length<=32
 ·have h2':(s.length:Int)<=32:=by omega
  simp[Jq,tS,sV,h1,h1',h2']
  refine A4 h rfl ?_
  simp[Jr,q5r,h1,h2]
 ·have h2':¬ (s.length:Int)<=32:=by omega
  simp[Jq,Jr,tS,sV,h1,h1',h2',h2,q5r]
def Q8 (c:Bi) (m:Mm):Int :=
 if Ww m.addr.l 8=true\/Ww m.data.l 32=true then 8 else if m.addr.l.any (S5 c)=true\/m.data.l.any (S5 c)=true\/S5 c m.write=true then 1 else 0
theorem qDt (c:Bi) (m:Mm) (hc:CirOk c) (hm:m.addr.l.length<=1000000000/\m.data.l.length<=1000000000):A8 Tryz.prog Γ 162 [.agg (tC c),.agg (tMm m)] (tI (Q8 c m)):=by
 refine Ae q4i rfl ?_
 have hn:=hc.nodes
 have e1:=q05 (Γ:=Γ) c hn m.addr.l m.addr.cap m.addr.nl hm.1
 have e2:=q05 (Γ:=Γ) c hn m.data.l m.data.cap m.data.nl hm.2
 have e3:=Y1 (Γ:=Γ) c
 have e4:=q6Z (Γ:=Γ) m.addr.l m.addr.cap m.addr.nl 8 hm.1
 have e5:=q6Z (Γ:=Γ) m.data.l m.data.cap m.data.nl 32 hm.2
 have e6:=q0f (Γ:=Γ) c m.write hn
 simp[Z5,tC,tMm,Aa,Ad,Ag,As]
 refine Aq e3 rfl ?_
 simp
 refine A4 e4 rfl ?_
 have fin2:∀ b:Bool,b=decide (m.addr.l.any (S5 c)=true\/m.data.l.any (S5 c)=true\/S5 c m.write=true)->(Ww m.addr.l 8=false)->(Ww m.data.l 32=false)->Q8 c m=if b then 1 else 0:=by
  intro b hb h1 h2
  subst hb
  unfold Q8
  rw[if_neg (by simp[h1,h2])]
  simp
 by_cases h1:Ww m.addr.l 8=true
 ·simp[h1,Eb,Q8]
 have h1':Ww m.addr.l 8=false:=by simpa using h1
 simp[h1']
 refine A4 e5 rfl ?_
 by_cases h2:Ww m.data.l 32=true
 ·simp[h2,Eb,Q8]
 have h2':Ww m.data.l 32=false:=by simpa using h2
 simp[h2']
 refine A4 e1 rfl ?_
 generalize m.addr.l.any (S5 c)=b1 at e1 fin2
 generalize m.data.l.any (S5 c)=b2 at e2 fin2
 generalize S5 c m.write=b3 at e6 fin2
 cases b1 with
 | true=>simp[Eb,fin2 true (by simp) h1' h2']
 | false =>
  simp
  refine A4 e2 rfl ?_
  cases b2 with
  | true=>simp[Eb,fin2 true (by simp) h1' h2']
  | false =>
   simp
   refine q25 e6 ?_
   cases b3 with
   | true=>simp[Eb,fin2 true (by simp) h1' h2']
   | false=>simp[Eb,fin2 false (by simp) h1' h2']
def qA4 (l:List (List UInt8)):List (Value×T):=l.map fun s=>(sV s,tB true)
theorem qLs (a b:List UInt8):M9 (sV a) (sV b)=decide (a=b):=by
 simp only[M9,sV]
 by_cases h:a=b
 ·subst h;simp[q7d]
 ·have:¬ (ByteArray.mk a.toArray)=⟨b.toArray⟩:=fun e=>h (by simpa using e)
  have h2:((ByteArray.mk a.toArray)==⟨b.toArray⟩)=false:=by
   cases hq:((ByteArray.mk a.toArray)==⟨b.toArray⟩)
   ·rfl
   ·exact absurd ((q7d _ _).1 hq) this
  rw[h2];simp[h]
theorem qA5 (x:List UInt8):∀ l:List (List UInt8),Gw (sV x) (qA4 l)=if x∈l then some (tB true)else none
 | []=>rfl
 | y::l=>by
  have ih:=qA5 x l
  simp only[qA4,xqm,Gw,qLs]at ih ⊢
  by_cases h:x=y
  ·simp[h]
  ·simp[h,ih]
theorem qBw (x:List UInt8):∀ l:List (List UInt8),x∉l->q7V (sV x) (tB true) (qA4 l)=qA4 (l++[x])
 | [],_=>rfl
 | y::l,h=>by
  have ih:=qBw x l (fun hm=>h (xqf _ hm))
  have hne:x≠y:=fun e=>h (by simp[e])
  simp only[qA4,xqm,q7V,qLs,List.cons_append]at ih ⊢
  simp[hne,ih]
theorem qHh (l:List (List UInt8)):Pj .str (qA4 l):=by
 intro e he;obtain⟨s,_,rfl⟩:=xqy.1 he;rfl
def K8:List (List UInt8)->List (List UInt8)->Int
 | _,[]=>0
 | done,s::l=>if q5r s=false\/s∈done then 5 else K8 (done++[s]) l
theorem qA6 {Q:AX->St->Prop} (n:Sl (List UInt8)) (hl:n.l.length<=1000000000) (ha:∀ s∈n.l,∀ b∈s,b<128) (R:Int)
  (h0:R=0->∀ m:List (Value×T),Q (.exit 0) ⟨[(3,.lm 6),(8,.t (Ad n)),(9,.t (tI n.l.length)),(10,.t (tI n.l.length)),(11,.t (tB false))],[(6,.mp m)]⟩)
  (h5:R=5->Q .ret ⟨[(2,.t (tI 5))],[]⟩):∀ (k i:Nat),k+i=n.l.length->K8 (n.l.take i) (n.l.drop i)=R ->
  run Tryz.prog Γ Lh Q ⟨[(3,.lm 6),(8,.t (Ad n)),(9,.t (tI n.l.length)),(10,.t (tI i))],[(6,.mp (qA4 (n.l.take i)))]⟩
 | 0,i,h,hR=>by
  refine U2 fun K hK=>?_
  have h2:¬ i<n.l.length:=by omega
  have h3:i=n.l.length:=by omega
  simp[h2,Ad]
  subst h3
  refine h0 ?_ _
  rw[<- hR];simp[K8]
 | k+1,i,h,hR=>by
  refine U2 fun K hK=>?_
  have h2:i<n.l.length:=by omega
  simp(disch:=omega) [h2,Ad,A6,D8 ([]:List UInt8),A9]
  refine A4 (qDs n.l[i] (ha _ (xqj h2))) rfl ?_
  have hd:n.l.drop i=n.l[i]::n.l.drop (i+1):=xqq h2
  rw[hd]at hR
  simp only[K8]at hR
  have ht:n.l.take i++[n.l[i]]=n.l.take (i+1):=by rw[xz7];simp[h2]
  by_cases hq:q5r n.l[i]=true
  ·have hfit:=qHh (n.l.take i)
   simp[hq,tS,KT.fits,sV,hfit]
   rw[show(Value.string ⟨(n.l[i]).toArray⟩)=sV n.l[i] from rfl,qA5]
   by_cases hm:n.l[i]∈n.l.take i
   ·simp[hm]
    refine h5 ?_
    rw[<- hR,if_pos (.inr hm)]
   ·rw[if_neg (by simp[hq,hm]),ht]at hR
    simp(disch:=omega) [hm,sV,KT.fits,hfit,A7]
    rw[hK]
    have:=qA6 n hl ha R h0 h5 k (i+1) (by omega) hR
    rw[show(Value.string ⟨(n.l[i]).toArray⟩)=sV n.l[i] from rfl,qBw _ _ hm,ht]
    exact_mod_cast this
  ·have hq':q5r n.l[i]=false:=by simpa using hq
   simp[hq']
   refine h5 ?_
   rw[<- hR,if_pos (.inl hq')]
theorem qFQ (c:Bi) (hc:CirOk c) (ha:∀ s∈c.names.l,∀ b∈s,b<128):A8 Tryz.prog Γ 161 [.agg (tC c)] (tI (K8 [] c.names.l)):=by
 refine Ae q5q rfl ?_
 simp[q04,tC,Aa,Ad,Ag,As,A6]
 refine qA6 c.names hc.names ha (K8 [] c.names.l) (fun h m=>?_) (fun h=>?_) c.names.l.length 0 (by omega) (by simp)
 ·simp[S4,h]
 ·simp[S4,h]
def E3:List Int->Int
 | []=>0
 | e::l=>if e≠0 then e else E3 l
theorem q4w {α:Type} (f:α->Int) (l:List α) (i:Nat) (h:i<l.length):E3 ((l.drop i).map f)=if f l[i]≠0 then f l[i]else E3 ((l.drop (i+1)).map f):=by
 rw[xqq h];rfl
theorem q8a {Q:AX->St->Prop} (hΓ:GOk Γ) (c:Bi) (hc:CirOk c) (R:Int)
  (h0:R=0->Q (.exit 1) ⟨[(1,.t (.ip (tC c) 0)),(36,.t (Aa c.nodes)),(37,.t (tI c.nodes.l.length)),(38,.t (tI c.nodes.l.length)),(39,.t (tB false))],[]⟩)
  (h5:R≠0->Q .ret ⟨[(2,.t (tI R))],[]⟩):∀ (k i:Nat),k+i=c.nodes.l.length->E3 ((c.nodes.l.drop i).map (Eh c))=R ->
  run Tryz.prog Γ Ld Q ⟨[(1,.t (.ip (tC c) 0)),(36,.t (Aa c.nodes)),(37,.t (tI c.nodes.l.length)),(38,.t (tI i))],[]⟩
 | 0,i,h,hR=>by
  refine U0 fun K hK=>?_
  have h2:¬ i<c.nodes.l.length:=by omega
  have h3:i=c.nodes.l.length:=by omega
  simp[h2]
  subst h3
  exact h0 (by rw[<- hR];simp[E3])
 | k+1,i,h,hR=>by
  refine U0 fun K hK=>?_
  have h2:i<c.nodes.l.length:=by omega
  have hn:=hc.nodes
  have hx:=xqj h2
  rw[q4w (Eh c) _ _ h2]at hR
  have e:=qHd (Γ:=Γ) hΓ c c.nodes.l[i] hc (hc.kind _ hx) (hc.inn _ hx)
  simp(disch:=omega) [h2,Aa,Ab,Es Nd.d,Bq,Dl,tC,As]
  refine A4 e rfl ?_
  by_cases hq:Eh c c.nodes.l[i]=0
  ·rw[if_neg (by simp[hq])]at hR
   simp(disch:=omega) [hq,A7]
   rw[hK]
   have:=q8a hΓ c hc R h0 h5 k (i+1) (by omega) hR
   simpa[tC,Aa,As]using this
  ·rw[if_pos (by simpa using hq)]at hR
   simp[hq]
   rw[hR]
   exact h5 (by rw[<- hR];exact hq)
theorem qA7 {Q:AX->St->Prop} (c:Bi) (hc:CirOk c) (R:Int)
  (h0:R=0->Q (.exit 3) ⟨[(1,.t (.ip (tC c) 0)),(55,.t (Ag c.mems)),(56,.t (tI c.mems.l.length)),(57,.t (tI c.mems.l.length)),(58,.t (tB false))],[]⟩)
  (h5:R≠0->Q .ret ⟨[(2,.t (tI R))],[]⟩):∀ (k i:Nat),k+i=c.mems.l.length->E3 ((c.mems.l.drop i).map (Q8 c))=R ->
  run Tryz.prog Γ Le Q ⟨[(1,.t (.ip (tC c) 0)),(55,.t (Ag c.mems)),(56,.t (tI c.mems.l.length)),(57,.t (tI i))],[]⟩
 | 0,i,h,hR=>by
  refine U1 fun K hK=>?_
  have h2:¬ i<c.mems.l.length:=by omega
  have h3:i=c.mems.l.length:=by omega
  simp[h2]
  subst h3
  exact h0 (by rw[<- hR];simp[E3])
 | k+1,i,h,hR=>by
  refine U1 fun K hK=>?_
  have h2:i<c.mems.l.length:=by omega
  have hn:=hc.mems
  have hx:=xqj h2
  rw[q4w (Q8 c) _ _ h2]at hR
  have e:=qDt (Γ:=Γ) c c.mems.l[i] hc (hc.addr _ hx)
  simp(disch:=omega) [h2,Ag,Ab,Es Mm.d,q6Y,tMm,tC,As]
  refine A4 e rfl ?_
  by_cases hq:Q8 c c.mems.l[i]=0
  ·rw[if_neg (by simp[hq])]at hR
   simp(disch:=omega) [hq,A7]
   rw[hK]
   have:=qA7 c hc R h0 h5 k (i+1) (by omega) hR
   simpa[tC,Ag,As]using this
  ·rw[if_pos (by simpa using hq)]at hR
   simp[hq]
   rw[hR]
   exact h5 (by rw[<- hR];exact hq)
def Eg (c:Bi):Int :=
 if 16384<c.nodes.l.length\/16<c.mems.l.length\/16384<c.outs.l.length then 3 else if c.names.l.length≠c.nodes.l.length then 8
 else if E3 (c.nodes.l.map (Eh c))≠0 then E3 (c.nodes.l.map (Eh c))
 else if K8 [] c.names.l≠0 then K8 [] c.names.l
 else if E3 (c.mems.l.map (Q8 c))≠0 then E3 (c.mems.l.map (Q8 c))
 else if c.outs.l.any (S5 c)=true then 1 else 0
theorem qFR (hΓ:GOk Γ) (c:Bi) (hc:CirOk c) (ha:∀ s∈c.names.l,∀ b∈s,b<128):A8 Tryz.prog Γ 103 [.agg (tC c)] (tI (Eg c)):=by
 refine Ae q5p rfl ?_
 have hn:=hc.nodes
 have hm:=hc.mems
 have ho:=hc.outs
 have hnn:=hc.names
 have en:=qFQ (Γ:=Γ) c hc ha
 have eo:=Y1 (Γ:=Γ) c
 have ec:=q05 (Γ:=Γ) c hn c.outs.l c.outs.cap c.outs.nl ho
 by_cases h1:16384<c.nodes.l.length\/16<c.mems.l.length\/16384<c.outs.l.length
 ·have:Eg c=3:=by unfold Eg;rw[if_pos h1]
  rw[this]
  by_cases g1:(16384:Int)<c.nodes.l.length
  ·simp[G4,Db,tC,Aa,Ad,Ag,As,Ab,A6,g1]
  by_cases g2:(16:Int)<c.mems.l.length
  ·simp[G4,Db,tC,Aa,Ad,Ag,As,Ab,A6,g1,g2]
  have g3:(16384:Int)<c.outs.l.length:=by omega
  simp[G4,Db,tC,Aa,Ad,Ag,As,Ab,A6,g1,g2,g3]
 have g1:¬ (16384:Int)<c.nodes.l.length:=by omega
 have g2:¬ (16:Int)<c.mems.l.length:=by omega
 have g3:¬ (16384:Int)<c.outs.l.length:=by omega
 by_cases h2:c.names.l.length=c.nodes.l.length
 case neg =>
  have:Eg c=8:=by unfold Eg;rw[if_neg h1,if_pos h2]
  have h2':¬ (c.names.l.length:Int)=c.nodes.l.length:=by omega
  rw[this]
  simp[G4,Db,tC,Aa,Ad,Ag,As,Ab,A6,g1,g2,g3,h2']
 simp[G4,tC,Aa,Ad,Ag,As,Ab,A6,g1,g2,g3,h2]
 have e0:Eg c=if E3 (c.nodes.l.map (Eh c))≠0 then E3 (c.nodes.l.map (Eh c))
   else if K8 [] c.names.l≠0 then K8 [] c.names.l
   else if E3 (c.mems.l.map (Q8 c))≠0 then E3 (c.mems.l.map (Q8 c))
   else if c.outs.l.any (S5 c)=true then 1 else 0:=by
  unfold Eg;rw[if_neg h1,if_neg (by simp[h2])]
 refine q8a hΓ c hc (E3 (c.nodes.l.map (Eh c))) (fun h3=>?_) (fun h3=>?_) c.nodes.l.length 0 (by omega) (by simp)
 case refine_2 =>
  rw[if_pos h3]at e0
  simp[Db,e0]
 rw[if_neg (by rw[h3];decide)]at e0
 simp[tC,Aa,Ad,Ag,As]
 refine A4 en rfl ?_
 by_cases h4:K8 [] c.names.l=0
 case neg =>
  rw[if_pos h4]at e0
  simp[h4,Db,e0]
 rw[if_neg (by rw[h4];decide)]at e0
 simp[h4,Ab]
 refine qA7 c hc (E3 (c.mems.l.map (Q8 c))) (fun h5=>?_) (fun h5=>?_) c.mems.l.length 0 (by omega) (by simp)
 case refine_2 =>
  rw[if_pos h5]at e0
  simp[Db,e0]
 rw[if_neg (by rw[h5];decide)]at e0
 simp[tC,Aa,Ad,Ag,As]
 refine Aq eo rfl ?_
 simp
 refine A4 ec rfl ?_
 generalize c.outs.l.any (S5 c)=b at e0
 cases b<;>simp[Db,e0]
def N8 (ks:List Int):List Nd->Nat->List Int
 | [],_=>[]
 | x::l,i=>if ks.contains x.k then(i:Int)::N8 ks l (i+1)else N8 ks l (i+1)
theorem q6b (ks:List Int):∀ (a b:List Nd) (i:Nat),N8 ks (a++b) i=N8 ks a i++N8 ks b (i+a.length)
 | [],b,i=>by simp[N8]
 | x::a,b,i=>by
  have:=q6b ks a b (i+1)
  simp only[List.cons_append,N8,this,xq8]
  split<;>simp[Nat.add_assoc,Nat.add_comm 1]
theorem q06 (ks:List Int):∀ (a:List Nd) (i:Nat),(N8 ks a i).length<=a.length
 | [],_=>by simp[N8]
 | x::a,i=>by
  have:=q06 ks a (i+1)
  simp only[N8]
  split<;>simp<;>omega
theorem qGN {Q:AX->St->Prop} (n:Sl Nd) (hl:n.l.length<=1000000000) (ks:List Int) (kc:Option Nat) (kn:Option Bool) (hk:ks.length<=1000000000)
  (h0:Q (.exit 0) ⟨[(1,.t (.sl (Au tK ks) kc kn)),(5,.ls 23 0 (N8 ks n.l 0).length none),(9,.t (Aa n)),(10,.t (tI n.l.length)),(11,.t (tI n.l.length)),(12,.t (tB false))],[(23,.sl 3 1 (Af (N8 ks n.l 0)))]⟩):∀ (k i:Nat),k+i=n.l.length ->
  run Tryz.prog Γ Rw Q ⟨[(1,.t (.sl (Au tK ks) kc kn)),(5,.ls 23 0 (N8 ks (n.l.take i) 0).length none),(9,.t (Aa n)),(10,.t (tI n.l.length)),(11,.t (tI i))],[(23,.sl 3 1 (Af (N8 ks (n.l.take i) 0)))]⟩
 | 0,i,h=>by
  refine Yr fun K hK=>?_
  have h2:¬ i<n.l.length:=by omega
  have h3:i=n.l.length:=by omega
  simp[h2]
  subst h3
  simpa using h0
 | k+1,i,h=>by
  refine Yr fun K hK=>?_
  have h2:i<n.l.length:=by omega
  have ht:n.l.take (i+1)=n.l.take i++[n.l[i]]:=by rw[xz7];simp[h2]
  have hlen:=q06 ks (n.l.take i) 0
  have htl:(n.l.take i).length=i:=by simp;omega
  have hal:N8 ks (n.l.take (i+1)) 0=if ks.contains n.l[i].k then N8 ks (n.l.take i) 0++[(i:Int)]else N8 ks (n.l.take i) 0:=by
   rw[ht,q6b,htl]
   simp only[N8,xjc]
   split<;>simp
  have e:=qBG (Γ:=Γ) ks kc kn n.l[i].k hk
  simp(disch:=omega) [h2,Aa,Ab,Es Nd.d,Bq,Dl,As]
  refine A4 e rfl ?_
  generalize ks.contains n.l[i].k=b at hal
  have ih:=qGN n hl ks kc kn hk h0 k (i+1) (by omega)
  rw[hal]at ih
  cases b with
  | false =>
   simp(disch:=omega) [A7]
   rw[hK]
   simpa[Aa]using ih
  | true =>
   have hw:Em 1 [[tI (i:Int)]]:=by intro e he;simp at he;subst he;rfl
   simp(disch:=omega) [A7,A6,A9,hw]
   rw[hK]
   simp[Aa]at ih
   rw[E0 (f:=tI) (x:=(i:Int))]
   exact⟨by omega,ih⟩
theorem qKr (c:Bi) (hc:CirOk c) (ks:List Int) (kc:Option Nat) (kn:Option Bool) (hk:ks.length<=1000000000) :
  A8 Tryz.prog Γ 102 [.agg (tC c),.sl (Au tK ks) kc kn] (.sl (Af (N8 ks c.nodes.l 0)) (some (N8 ks c.nodes.l 0).length) none):=by
 refine Ae q8z rfl ?_
 simp[q3P,tC,Aa,Ad,Ag,As,Ab]
 refine qGN c.nodes hc.nodes ks kc kn hk ?_ c.nodes.l.length 0 (by omega)
 simp
 refine⟨_,_,qA2 3 (Af (N8 ks c.nodes.l 0)) (N8 ks c.nodes.l 0).length none A9,?_⟩
 simp[q3Q]
abbrev M8:=List (Int×Int)
def tLn (p:Int×Int):List T:=[tI p.1,tI p.2]
def qA8 (i:Nat) (r:M8):AV:=if r=[]then .t (.sl [] (some 0) (some true))else .ls (100000+i) 0 r.length none
def Dk (rows:List M8):List AV:=rows.mapIdx qA8
def N9 (rows:List M8) (id:Nat):Option B9:=match rows[id-100000]? with
 | some r=>if r=[]then none else some (.sl 113 2 (Bc tLn r))
 | none=>none
def Na (k:Nat) (g:Nat->Option B9):List (Nat×B9):=(List.range' 100000 k).filterMap fun id=>(g id).map fun r=>(id,r)
def Ds (rows:List M8):List (Nat×B9):=Na 16384 (N9 rows)
theorem qA9 {α β:Type} {f g:α->Option β}:∀ {l:List α},(∀ x∈l,f x=g x)->l.filterMap f=l.filterMap g
 | [],_=>rfl
 | x::l,h=>by
  rw[List.filterMap_cons,List.filterMap_cons,h x xqh,qA9 (l:=l) fun y hy=>h y (xqf _ hy)]
theorem qKs {l:List Nat} {g:Nat->Option B9} {t:Nat}:A5 (l.filterMap fun id=>(g id).map fun r=>(id,r)) t=if t∈l then g t else none:=by
 induction l with
 | nil=>simp[A5]
 | cons k l ih =>
  rw[List.filterMap_cons]
  cases hg:g k with
  | none =>
   simp only[xzx,ih]
   by_cases h:t=k
   ·subst h;simp[hg]
   ·simp[h]
  | some r =>
   simp only[xql,A5,ih]
   by_cases h:k=t
   ·subst h;simp[hg]
   ·simp[h,Ne.symm h]
theorem Q9 {k:Nat} {g:Nat->Option B9} {t:Nat}:A5 (Na k g) t=if 100000<=t/\t<100000+k then g t else none:=by
 unfold Na;rw[qKs]
 by_cases h:100000<=t/\t<100000+k
 ·rw[if_pos h,if_pos (by rw[List.mem_range'_1];exact h)]
 ·rw[if_neg h,if_neg (by rw[List.mem_range'_1];exact h)]
theorem qBx {rows:List M8} {l:List (Nat×B9)} (h:∀ t∈List.range' 100000 16384,A5 l t=N9 rows t):Lg.keep (List.range' 100000 16384) l=Ds rows:=by
 unfold Lg.keep Ds Na
 exact qA9 fun t ht=>by rw[h t ht]
theorem q7v {env:List (Nat×AV)} {hp:List (Nat×B9)} {ks:List Nat} {rows:List M8} (hk:(hp.map (·.1)).filter (fun id=>!([14]:List Nat).contains id && !(decide (100000<=id)&&decide (id<100000+16384)))=[])
  (h14:A5 hp 14=some (.bx (Dk rows))) (hr:∀ t,100000<=t->t<116384->A5 hp t=N9 rows t) :
  Gh.run (.keepB ks [14] 100000 16384) ⟨env,hp⟩=⟨Lg.keep ks env,(14,.bx (Dk rows))::Ds rows⟩:=by
 simp only[Gh.run,q9N,hk,Ij,q7r,h14,q9z,List.cons_append,List.nil_append]
 congr 2
 simp only[Lg.keep,Ds,Na]
 refine qA9 fun t ht=>?_
 rw[List.mem_range'_1]at ht
 rw[hr t ht.1 (by omega)]
theorem q15 {k:Nat} {g:Nat->Option B9}:∀ p∈Na k g,100000<=p.1/\p.1<100000+k:=by
 intro p hp
 obtain⟨id,hid,he⟩:=List.mem_filterMap.1 hp
 rw[List.mem_range'_1]at hid
 cases hg:g id with
 | none=>rw[hg]at he;cases he
 | some r=>rw[hg]at he;simp at he;subst he;exact hid
theorem q8b {rows:List M8}:((Ds rows).map (·.1)).filter (fun id=>!([14]:List Nat).contains id && !(decide (100000<=id)&&decide (id<100000+16384)))=[]:=by
 rw[List.filter_eq_nil_iff]
 intro id hid
 obtain⟨p,hp,rfl⟩:=xqy.1 hid
 have:=q15 p hp
 simp[this.1,this.2]
theorem q4Y {rows:List M8} {t:Nat}:A5 ((14,.bx (Dk rows))::Ds rows) t=if t=14 then some (.bx (Dk rows))else if 100000<=t/\t<116384 then N9 rows t else none:=by
 simp only[A5,Ds,Q9]
 by_cases h:t=14
 ·simp[h]
 ·simp[h,Ne.symm h]
theorem Y2 {env:List (Nat×AV)} {ks:List Nat} {rows:List M8}:Gh.run (.keepB ks [14] 100000 16384) ⟨env,(14,.bx (Dk rows))::Ds rows⟩=⟨Lg.keep ks env,(14,.bx (Dk rows))::Ds rows⟩:=by
 refine q7v ?_ (by simp[A5]) fun t h1 h2=>?_
 ·rw[xqm,xzu];simp only[q8b];simp
 ·rw[q4Y,if_neg (by omega),if_pos ⟨h1,h2⟩]
theorem qCl {id:Nat} (h:id<100000) (rows:List M8):(Dk rows).map (Am id)=Dk rows:=by
 apply List.ext_getElem?
 intro i
 simp only[Dk,xqr,xja,Option.map_map]
 cases rows[i]? with
 | none=>rfl
 | some r =>
  simp only[xql,Function.comp_def,qA8]
  split
  ·rfl
  ·simp only[Am,kill1];rw[if_neg (by omega)]
theorem qKt {env:List (Nat×AV)} {ks:List Nat} {rows:List M8} {q:B9}:Gh.run (.keepB ks [14] 100000 16384) ⟨env,(6,q)::(14,.bx (Dk rows))::Ds rows⟩=⟨(Lg.keep ks env).map (fun p=>(p.1,Am 6 p.2)),(14,.bx (Dk rows))::Ds rows⟩:=by
 have hk:(((6,q)::(14,B9.bx (Dk rows))::Ds rows).map (·.1)).filter (fun id=>!([14]:List Nat).contains id && !(decide (100000<=id)&&decide (id<100000+16384)))=[6]:=by
  rw[xqm,xqm,xzu,xzu];simp only[q8b];simp
 have hl:∀ t,t≠6->A5 (St.kill 6 ⟨Lg.keep ks env,(6,q)::(14,.bx (Dk rows))::Ds rows⟩).hp t=A5 ((14,.bx (Dk rows))::Ds rows) t:=by
  intro t ht
  rw[Nx,if_neg ht]
  show(A5 ((6,q)::(14,.bx (Dk rows))::Ds rows) t).map _=_
  rw[A5,if_neg (Ne.symm ht),q4Y]
  by_cases h:t=14
  ·simp[h,Bn,qCl]
  ·simp only[h,↓reduceIte]
   split
   ·unfold N9
    split
    ·split<;>simp[Bn]
    ·rfl
   ·rfl
 simp only[Gh.run,q9N,hk,Ij,q7r,q9z,List.cons_append,List.nil_append]
 rw[hl 14 (by omega)]
 simp only[A5,↓reduceIte,List.cons_append,List.nil_append]
 congr 2
 refine qBx fun t ht=>?_
 rw[List.mem_range'_1]at ht
 rw[hl t (by omega),q4Y,if_neg (by omega),if_pos ⟨ht.1,by omega⟩]
def J2 (rows:List M8) (n:Nat) (p:Int×Int):List M8:=rows.set n (rows.getD n []++[p])
theorem q5s {rows:List M8} {n:Nat} {p:Int×Int}:(J2 rows n p).length=rows.length:=by simp[J2]
theorem qHi {env:List (Nat×AV)} {ks:List Nat} {rows:List M8} {n:Nat} {p:Int×Int} {hp:List (Nat×B9)} {cs:List AV} (hn:n<rows.length) (hn2:rows.length<=16384)
  (hlen:cs.length=rows.length) (hcs:∀ i,i≠n->cs[i]? = (Dk rows)[i]?) (hc:cs[n]? = some (.ls 47 0 ((rows.getD n []).length+1) none)) (h47:A5 hp 47=some (.sl 113 2 (Bc tLn (rows.getD n []++[p])))) (h14:A5 hp 14=some (.bx cs))
  (hno:A5 hp (100000+n)=none) (hoth:∀ t,100000<=t->t<116384->t≠100000+n->A5 hp t=N9 rows t) (hkeys:∀ q∈hp,q.1=47\/q.1=14\/(100000<=q.1/\q.1<116384)) :
  Gh.run (.keepB ks [14] 100000 16384) (X8 47 (100000+n) ⟨env,hp⟩)=⟨(Lg.keep ks (env.map fun q=>(q.1,Ac (B1 47 (100000+n)) q.2))),(14,.bx (Dk (J2 rows n p)))::Ds (J2 rows n p)⟩:=by
 have hr:X8 47 (100000+n) ⟨env,hp⟩=⟨env.map fun q=>(q.1,Ac (B1 47 (100000+n)) q.2),K6 47 (100000+n) hp⟩:=by
  unfold X8
  rw[if_pos]
  simp[hno,h47];omega
 rw[hr]
 have hget:∀ i,(J2 rows n p)[i]? = if i=n then some (rows.getD n []++[p])else rows[i]? := by
  intro i
  unfold J2
  rw[xzb]
  by_cases h:n=i
  ·subst h;simp[hn]
  ·simp[h,Ne.symm h]
 have hl:=fun t=>q1z (a:=47) (b:=100000+n) (t:=t) hno (by omega)
 refine q7v ?_ ?_ fun t h1 h2=>?_
 ·rw[List.filter_eq_nil_iff]
  intro id hid
  have:id=100000+n\/id≠47/\∃ q∈hp,q.1=id:=by
   clear hl hr hno hoth h14 h47
   induction hp with
   | nil=>simp[K6]at hid
   | cons q l ih =>
    obtain⟨k,r⟩:=q
    simp only[K6,xqm,xqv]at hid
    rcases hid with hid|hid
    ·by_cases h:k=47
     ·left;simpa[h]using hid
     ·right;simp[h]at hid;subst hid;exact⟨h,_,xqh,rfl⟩
    ·rcases ih (fun q hq=>hkeys q (xqf _ hq)) hid with h|⟨h,q,hq,e⟩
     ·exact .inl h
     ·exact .inr ⟨h,q,xqf _ hq,e⟩
  rcases this with h|⟨h,q,hq,rfl⟩
  ·subst h;simp;intro _;omega
  ·rcases hkeys q hq with e|e|⟨e1,e2⟩
   ·exact absurd e h
   ·simp[e]
   ·simp;intro _;omega
 ·rw[hl,if_neg (by omega),if_neg (by omega),h14]
  simp only[xql,B7,xqa,B9.bx.injEq]
  apply List.ext_getElem?
  intro i
  simp only[xqr,Dk,xja]
  rw[hget]
  by_cases h:i=n
  ·subst h
   rw[hc]
   have:¬ (rows.getD i []++[p]=[]):=by simp
   simp only[↓reduceIte,xql,xqa]
   unfold qA8
   rw[if_neg this]
   simp[Ac,ren1,ren0,B1]
  ·rw[hcs i h,if_neg h]
   simp only[Dk,xja,Option.map_map]
   cases hrow:rows[i]? with
   | none=>rfl
   | some r =>
    simp only[xql,Function.comp_def,qA8,xqa]
    split
    ·rfl
    ·simp only[Ac,ren1,ren0,B1];rw[if_neg (by omega)]
 ·rw[hl]
  by_cases h:t=100000+n
  ·rw[if_pos h,h47]
   subst h
   unfold N9
   rw[show 100000+n-100000=n by omega,hget,if_pos rfl]
   simp[B7]
  ·rw[if_neg h,if_neg (by omega),hoth t h1 h2 h]
   unfold N9
   rw[hget,if_neg (by omega)]
   cases rows[t-100000]? with
   | none=>rfl
   | some r=>simp only;split<;>simp[B7]
def q7w (k i:Nat) (r:M8):AV:=if r=[]then .t (.sl [] (some 0) (some true))else if k<=i then .t (.sl (Bc tLn r) none none)else .ls (100000+i) 0 r.length none
theorem qIm {env:List (Nat×AV)} {rows:List M8} (he:∀ id r,100000<=id->∀ p∈env,Cb id r p.2=p.2) (k:Nat):St.freeze (100000+k) ⟨env,(14,.bx (rows.mapIdx (q7w (k+1))))::Na (k+1) (N9 rows)⟩=⟨env,(14,.bx (rows.mapIdx (q7w k)))::Na k (N9 rows)⟩:=by
 have hsplit:Na (k+1) (N9 rows)=Na k (N9 rows)++(match N9 rows (100000+k) with|some r=>[(100000+k,r)] | none=>[]):=by
  unfold Na
  rw[<- List.range'_append (s:=100000) (m:=k) (n:=1) (step:=1)]
  rw[List.filterMap_append]
  congr 1
  cases hr:N9 rows (100000+k)<;>simp[hr]
 have hl:A5 ((14,B9.bx (rows.mapIdx (q7w (k+1))))::Na (k+1) (N9 rows)) (100000+k)=N9 rows (100000+k):=by
  rw[A5,if_neg (by omega),Q9,if_pos (by omega)]
 simp only[St.freeze,hl]
 cases hr:N9 rows (100000+k) with
 | none =>
  rw[hr]at hsplit
  simp only[hsplit,List.append_nil]
  refine congrArg (fun l=>(⟨env,(14,B9.bx l)::Na k (N9 rows)⟩:St)) ?_
  apply List.ext_getElem?
  intro i
  simp only[xja]
  cases hi:rows[i]? with
  | none=>rfl
  | some r =>
   simp only[xql,q7w]
   by_cases h0:r=[]
   ·simp[h0]
   ·by_cases hik:i=k
    ·subst hik
     unfold N9 at hr
     rw[show 100000+i-100000=i by omega,hi]at hr
     simp[h0]at hr
    ·have:(k+1<=i)=(k<=i):=by apply propext;omega
     simp[this]
 | some q =>
  obtain⟨r,hrow,hne,rfl⟩:∃ r,rows[k]? = some r/\r≠[]/\q=.sl 113 2 (Bc tLn r):=by
   unfold N9 at hr
   rw[show 100000+k-100000=k by omega]at hr
   split at hr
   ·rename_i r h
    split at hr
    ·cases hr
    ·rename_i hne;simp only[xqa]at hr;exact⟨r,h,hne,hr.symm⟩
   ·cases hr
  rw[hr]at hsplit
  simp only[B9.closed,↓reduceIte]
  have e1:env.map (fun p=>(p.1,Cb (100000+k) (.sl 113 2 (Bc tLn r)) p.2))=env:=by
   conv=>rhs;rw[<- List.map_id env]
   refine xq1 fun p hp=>?_
   rw[he _ _ (by omega) p hp];rfl
  have e2:del (100000+k) ((14,B9.bx (rows.mapIdx (q7w (k+1))))::Na (k+1) (N9 rows))=(14,B9.bx (rows.mapIdx (q7w (k+1))))::Na k (N9 rows):=by
   rw[hsplit]
   unfold del
   rw[xzu,if_pos (by simp;omega),List.filter_append]
   congr 1
   have h1:(Na k (N9 rows)).filter (fun p=>p.1 != 100000+k)=Na k (N9 rows):=by
    rw[List.filter_eq_self]
    intro p hp
    have:=q15 p hp
    simp;omega
   rw[h1];simp
  rw[e1,e2]
  have e3:(Na k (N9 rows)).map (fun p=>(p.1,Ei (100000+k) (.sl 113 2 (Bc tLn r)) p.2))=Na k (N9 rows):=by
   conv=>rhs;rw[<- List.map_id (Na k (N9 rows))]
   refine xq1 fun p hp=>?_
   obtain⟨id,hid,hee⟩:=List.mem_filterMap.1 hp
   cases hg:N9 rows id with
   | none=>rw[hg]at hee;cases hee
   | some q =>
    rw[hg]at hee
    simp only[xql,xqa]at hee;subst hee
    unfold N9 at hg
    split at hg
    ·split at hg
     ·cases hg
     ·simp only[xqa]at hg;subst hg;rfl
    ·cases hg
  rw[xqm,e3]
  refine congrArg (fun l=>(⟨env,(14,B9.bx l)::Na k (N9 rows)⟩:St)) ?_
  apply List.ext_getElem?
  intro i
  simp only[xqr,xja,Option.map_map]
  cases hi:rows[i]? with
  | none=>rfl
  | some r' =>
   simp only[xql,Function.comp_def,q7w]
   by_cases h0:r'=[]
   ·simp[h0,Cb,frz1,frz0]
   ·simp only[h0,↓reduceIte]
    by_cases hik:i=k
    ·subst hik
     rw[hrow]at hi;cases hi
     rw[if_neg (by omega),if_pos (xzo _)]
     simp[Cb,frz1,frz0,Ai,A5]
    ·by_cases hlt:k+1<=i
     ·rw[if_pos hlt,if_pos (by omega)];rfl
     ·rw[if_neg hlt,if_neg (by omega)]
      simp only[Cb,frz1,frz0]
      rw[if_neg (by omega)]
theorem qGO {env:List (Nat×AV)} {rows:List M8} (he:∀ id r,100000<=id->∀ p∈env,Cb id r p.2=p.2):∀ k,qFJ 100000 k ⟨env,(14,.bx (rows.mapIdx (q7w k)))::Na k (N9 rows)⟩=⟨env,(14,.bx (rows.mapIdx (q7w 0)))::[]⟩
 | 0=>by simp[qFJ,Na]
 | k+1=>by
  rw[qFJ,qIm he k]
  exact qGO he k
def qBI (r:M8):T:=if r=[]then .sl [] (some 0) (some true)else .sl (Bc tLn r) none none
theorem qIn {env:List (Nat×AV)} {rows:List M8} (hl:rows.length<=16384) (he:∀ id r,100000<=id->∀ p∈env,Cb id r p.2=p.2):Gh.run (.frzs 100000 16384) ⟨env,(14,.bx (Dk rows))::Ds rows⟩=⟨env,[(14,.bx (rows.map fun r=>.t (qBI r)))]⟩:=by
 have h1:Dk rows=rows.mapIdx (q7w 16384):=by
  apply List.ext_getElem?
  intro i
  simp only[Dk,xja]
  cases hi:rows[i]? with
  | none=>rfl
  | some r =>
   have:=(xqi.1 hi).1
   simp only[xql,qA8,q7w]
   rw[if_neg (show ¬ 16384<=i by omega)]
 have h2:rows.mapIdx (q7w 0)=rows.map fun r=>.t (qBI r):=by
  apply List.ext_getElem?
  intro i
  simp only[xja,xqr]
  cases rows[i]? with
  | none=>rfl
  | some r =>
   simp only[xql,q7w,qBI,Nat.zero_le,↓reduceIte]
   split<;>rfl
 have:=qGO (rows:=rows) he 16384
 rw[h2]at this
 simp only[Gh.run,h1,Ds]
 exact this
theorem Ul {rows:List M8}:(Dk rows).length=rows.length:=by simp[Dk]
theorem qIo {rows:List M8} {n:Nat} (h:n<rows.length):((Dk rows).drop n).take 1=[qA8 n (rows.getD n [])]:=by
 have:(Dk rows).drop n=qA8 n (rows.getD n [])::(Dk rows).drop (n+1):=by
  rw[xqq (by rw[Ul];exact h)]
  simp[Dk,h]
 rw[this];rfl
theorem q26 {l:M8}:Em 2 (Bc tLn l):=q0y fun _=>rfl
theorem qNK {Q:AX->St->Prop} (rows:List M8) (n:Nat) (hn:n<rows.length) (hn2:rows.length<=16384) (i k:Int) (hr:(rows.getD n []).length<=1000000000) (t4 t18 t19 t20 t26 t27 t28 t36:T) (m:Nat) (hm:m=rows.length)
  (h:Q .normal ⟨[(3,.lb 14 m),(4,.t t4),(5,.t (tI i)),(18,.t t18),(19,.t t19),(20,.t t20),(26,.t t26),(27,.t t27),(28,.t t28)],(14,.bx (Dk (J2 rows n (i,k))))::Ds (J2 rows n (i,k))⟩) :
  Hh Tryz.prog Γ Ew ⟨[(3,.lb 14 m),(4,.t t4),(5,.t (tI i)),(7,.t (tI k)),(8,.t (tI n)),(18,.t t18),(19,.t t19),(20,.t t20),(26,.t t26),(27,.t t27),(28,.t t28),(36,.t t36)],(14,.bx (Dk rows))::Ds rows⟩
   (fun s1=>Q .normal (ghs [.renS 47 100000 8,.keepB [3,4,5,18,19,20,26,27,28] [14] 100000 16384] s1)) ⟨⟩:=by
 subst hm
 have hw:Em 2 [[tI i,tI k]]:=by intro e he;simp at he;subst he;rfl
 have hlk47:A5 (Ds rows) 47=none:=by rw[Ds,Q9,if_neg (by omega)]
 have hat:=qIo hn
 have hlk:A5 (Ds rows) (100000+n)=if rows.getD n []=[]then none else some (.sl 113 2 (Bc tLn (rows.getD n []))):=by
  rw[Ds,Q9,if_pos (by omega)]
  unfold N9
  rw[show 100000+n-100000=n by omega,xqg hn]
  simp[hn]
 have hadd:J2 rows n (i,k)=rows.set n (rows.getD n []++[(i,k)]):=rfl
 have fin:=@qHi
 generalize hrow:rows.getD n []=row at hr hat hlk hadd
 have hlen1:n+1<=rows.length:=hn
 have hset:∀ (j:Nat),j≠n->∀ (l:List AV) (x:AV),l.length=rows.length->(l.take n++x::l.drop (n+1))[j]? = l[j]? := by
  intro j hj l x hl
  rw[xq7]
  by_cases hlt:j<n
  ·rw[if_pos (by simp;omega),xq0,if_pos hlt]
  ·rw[if_neg (by simp;omega)]
   have e:(l.take n).length=n:=by simp;omega
   rw[e,show j-n=(j-n-1)+1 by omega,xzr,xzc]
   congr 1;omega
 have hseta:∀ (l:List AV) (x:AV),l.length=rows.length->(l.take n++x::l.drop (n+1))[n]? = some x:=by
  intro l x hl
  rw[xq7,if_neg (by simp;omega)]
  have e:(l.take n).length=n:=by simp;omega
  rw[e];simp
 by_cases h0:row=[]
 ·subst h0
  simp only[qA8,↓reduceIte]at hat hlk
  simp(disch:=omega) [-Gh.run,Gt,hat,Ul,hn,hw,hlk47,hlen1]
  rw[show ∀ st,A5 st.env 8=some (.t (tI n))->(Gh.renS 47 100000 8).run st=X8 47 (100000+n) st from fun st hs=>by simp[Gh.run,hs]]
  rw[fin (p:=(i,k)) hn hn2 (by simp[Ul];omega) (fun j hj=>hset j hj _ _ Ul) (by rw[hseta _ _ Ul,hrow];first|done|rfl) (by rw[hrow];first|done|rfl) (by simp[A5]) (by rw[A5,if_neg (by omega),A5,if_neg (by omega)];exact hlk) (fun t h1 h2 h3=>?_) (fun q hq=>?_)]
  ·simpa[Ac,ren1,ren0,B1]using h
  ·rw[A5,if_neg (by omega),A5,if_neg (by omega),Ds,Q9,if_pos (by omega)]
  ·rcases xqv.1 hq with rfl|hq
   ·exact .inl rfl
   ·rcases xqv.1 hq with rfl|hq
    ·exact .inr (.inl rfl)
    ·have:=q15 q hq;exact .inr (.inr (by omega))
  ·rfl
 ·simp only[qA8,h0,↓reduceIte]at hat hlk
  have h14:¬ 14=100000+n:=by omega
  have htl:∀ t,A5 ((Ds rows).filter fun p=>p.1 != 100000+n) t=if t=100000+n then none else A5 (Ds rows) t:=fun t=>q39 (100000+n) (Ds rows) t
  have hkl:∀ l:List (Nat×B9),(∀ p∈l,p∈Ds rows)->l.map (fun p=>(p.1,Bn (100000+n) p.2))=l:=by
   intro l hl
   conv=>rhs;rw[<- List.map_id l]
   refine xq1 fun p hp=>?_
   obtain⟨id,hid,hee⟩:=List.mem_filterMap.1 (hl p hp)
   cases hg:N9 rows id with
   | none=>rw[hg]at hee;cases hee
   | some q =>
    rw[hg]at hee
    simp only[xql,xqa]at hee;subst hee
    unfold N9 at hg
    split at hg
    ·split at hg
     ·cases hg
     ·simp only[xqa]at hg;subst hg;rfl
    ·cases hg
  have hk:(del (100000+n) ((14,B9.bx (Dk rows))::Ds rows)).map (fun p=>(p.1,Bn (100000+n) p.2))=(14,.bx ((Dk rows).map (Am (100000+n))))::(Ds rows).filter fun p=>p.1 != 100000+n:=by
   have e:del (100000+n) ((14,B9.bx (Dk rows))::Ds rows)=(14,B9.bx (Dk rows))::(Ds rows).filter fun p=>p.1 != 100000+n:=by
    unfold del
    rw[xzu,if_pos (by simp;omega)]
   rw[e,xqm,hkl _ (fun p hp=>(xzi.1 hp).1)]
   rfl
  have hl47:A5 ((Ds rows).filter fun p=>p.1 != 100000+n) 47=none:=by rw[htl,if_neg (by omega)];exact hlk47
  generalize htail:(Ds rows).filter (fun p=>p.1 != 100000+n)=tl at htl hk hl47
  have hkeys:∀ q∈tl,100000<=q.1/\q.1<116384:=by
   intro q hq
   rw[<- htail]at hq
   have:=q15 q (xzi.1 hq).1
   omega
  have hcs:∀ j,j≠n->((Dk rows).map (Am (100000+n)))[j]? = (Dk rows)[j]? := by
   intro j hj
   simp only[Dk,xqr,xja,Option.map_map]
   cases rows[j]? with
   | none=>rfl
   | some r =>
    simp only[xql,Function.comp_def,qA8]
    split
    ·rfl
    ·simp only[Am,kill1];rw[if_neg (by omega)]
  have hcl:((Dk rows).map (Am (100000+n))).length=rows.length:=by simp[Ul]
  simp(disch:=omega) [-Gh.run,Gt,-del,-Bn,hat,Ul,hn,hw,hlk,hlen1,Ab,q26,h14,hk,hl47]
  refine⟨by omega,?_⟩
  rw[show ∀ st,A5 st.env 8=some (.t (tI n))->(Gh.renS 47 100000 8).run st=X8 47 (100000+n) st from fun st hs=>by simp[Gh.run,hs]]
  ·rw[fin (p:=(i,k)) hn hn2 (by simp[hcl];omega) (fun j hj=>(hset j hj _ _ hcl).trans (hcs j hj)) (by rw[hseta _ _ hcl,hrow]) (by rw[hrow];simp[A5];rw[show[tI i,tI k]=tLn (i,k) from rfl,q0z]) (by simp[A5]) (by rw[A5,if_neg (by omega),A5,if_neg (by omega),htl,if_pos rfl]) (fun t h1 h2 h3=>?_) (fun q hq=>?_)]
   ·simpa[Ac,ren1,ren0,B1]using h
   ·rw[A5,if_neg (by omega),A5,if_neg (by omega),htl,if_neg h3,Ds,Q9,if_pos (by omega)]
   ·rcases xqv.1 hq with rfl|hq
    ·exact .inl rfl
    ·rcases xqv.1 hq with rfl|hq
     ·exact .inr (.inl rfl)
     ·exact .inr (.inr (hkeys q hq))
  ·rfl
def Ll (c:Bi) (i:Nat):List Int->Nat->List M8->List M8
 | [],_,rows=>rows
 | n::l,k,rows=>Ll c i l (k+1) (if S5 c n then rows else J2 rows n.toNat (i,k))
def Hr (c:Bi):List Nd->Nat->List M8->List M8
 | [],_,rows=>rows
 | x::l,i,rows=>Hr c l (i+1) (Ll c i x.inn.l 0 rows)
def RB (rows:List M8) (B:Nat):Prop:=∀ r∈rows,r.length<=B
theorem RB.add {rows:List M8} {B n:Nat} {p:Int×Int} (h:RB rows B):RB (J2 rows n p) (B+1):=by
 intro r hr
 unfold J2 at hr
 by_cases hn:n<rows.length
 ·rcases xz9 hr with hr|rfl
  ·have:=h r hr;omega
  ·have:(rows.getD n []).length<=B:=by
    have e:rows.getD n []=rows[n]:=by simp[hn]
    rw[e];exact h _ (xqj hn)
   simp at this ⊢;omega
 ·rw[List.set_eq_of_length_le (by omega)]at hr
  have:=h r hr;omega
theorem RB.mono {rows:List M8} {B C:Nat} (h:RB rows B) (hc:B<=C):RB rows C:=fun r hr=>Nat.le_trans (h r hr) hc
theorem RB.at {rows:List M8} {B:Nat} (h:RB rows B) (n:Nat):(rows.getD n []).length<=B:=by
 by_cases hn:n<rows.length
 ·have e:rows.getD n []=rows[n]:=by simp[hn]
  rw[e];exact h _ (xqj hn)
 ·simp[List.getD,List.getElem?_eq_none (Nat.not_lt.1 hn)]
theorem Z8 (c:Bi) (i:Nat):∀ (l:List Int) (k:Nat) (rows:List M8) (B:Nat),RB rows B->(Ll c i l k rows).length=rows.length/\RB (Ll c i l k rows) (B+l.length)
 | [],k,rows,B,h=>⟨rfl,h⟩
 | n::l,k,rows,B,h=>by
  simp only[Ll,xq8]
  split
  ·have:=Z8 c i l (k+1) rows B h
   exact⟨this.1,this.2.mono (by omega)⟩
  ·have:=Z8 c i l (k+1) _ (B+1) (h.add (n:=n.toNat) (p:=(i,k)))
   exact⟨this.1.trans q5s,this.2.mono (by omega)⟩
theorem q7x {Q:AX->St->Prop} (c:Bi) (hn:c.nodes.l.length<=16384) (i:Nat) (s:Sl Int) (hs:s.l.length<=1000000000) (R:List M8)
  (h0:Q (.exit 2) ⟨[(3,.lb 14 c.nodes.l.length),(4,.t (.fn 164 [.ip (tC c) 0])),(5,.t (tI i)),(18,.t (Aa c.nodes)),(19,.t (tI c.nodes.l.length)),(20,.t (tI i)),(26,.t (As s)),(27,.t (tI s.l.length)),(28,.t (tI s.l.length)),(29,.t (tB false))],(14,.bx (Dk R))::Ds R⟩) :
  ∀ (kk k:Nat) (rows:List M8),kk+k=s.l.length->rows.length=c.nodes.l.length->(∀ n,(rows.getD n []).length+kk<=1000000000)->Ll c i (s.l.drop k) k rows=R ->
  run Tryz.prog Γ Jn Q ⟨[(3,.lb 14 c.nodes.l.length),(4,.t (.fn 164 [.ip (tC c) 0])),(5,.t (tI i)),(18,.t (Aa c.nodes)),(19,.t (tI c.nodes.l.length)),(20,.t (tI i)),(26,.t (As s)),(27,.t (tI s.l.length)),(28,.t (tI k))],(14,.bx (Dk rows))::Ds rows⟩
 | 0,k,rows,h,hl,hb,hR=>by
  refine S0 fun K hK=>?_
  have h2:¬ k<s.l.length:=by omega
  have h3:k=s.l.length:=by omega
  simp[h2,-Gh.run,Gt,Y2]
  subst h3
  rw[xq2 (xzo _)]at hR
  simp only[Ll]at hR
  subst hR
  exact h0
 | kk+1,k,rows,h,hl,hb,hR=>by
  refine S0 fun K hK=>?_
  have h2:k<s.l.length:=by omega
  rw[xqq h2]at hR
  simp only[Ll]at hR
  have e:=q0f (Γ:=Γ) c s.l[k] (by omega)
  simp(disch:=omega) [h2,-Gh.run,Gt,Y2,-Ew,As,A6,D8 (0:Int),A9]
  refine q25 e ?_
  by_cases ho:S5 c s.l[k]=true
  ·rw[if_pos ho]at hR
   simp(disch:=omega) [ho,-Gh.run,Gt,Y2,-Ew,A7]
   rw[hK]
   have:=q7x c hn i s hs R h0 kk (k+1) rows (by omega) hl (fun n=>by have:=hb n;omega) hR
   simpa[As]using this
  ·have ho':S5 c s.l[k]=false:=by simpa using ho
   rw[if_neg ho]at hR
   have hr:=q4X (c:=c) (l:=[s.l[k]]) (by simp[ho']) s.l[k] (by simp)
   simp(disch:=omega) [ho',-Gh.run,Gt,Y2,-Ew]
   have hz:((s.l[k]).toNat:Int)=s.l[k]:=by omega
   have:=qNK (Γ:=Γ) (Q:=Me 3 (Aw (run Tryz.prog Γ (.reg Ox [.keepB [3,4,5,18,19,20,26,27,28] [14] 100000 16384]) (Aw (fun s=>Aw K Q .normal (ghs [.keepB [3,4,5,18,19,20,26,27,28] [14] 100000 16384] s)) (Aw K Q))) (Aw (fun s=>Aw K Q .normal (ghs [.keepB [3,4,5,18,19,20,26,27,28] [14] 100000 16384] s)) (Aw K Q)))) rows (s.l[k]).toNat (by omega) (by omega) i k (by have:=hb (s.l[k]).toNat;omega)
    (.fn 164 [.ip (tC c) 0]) (Aa c.nodes) (tI c.nodes.l.length) (tI i) (.sl (Af s.l) s.cap s.nl) (tI s.l.length) (tI k) (tB true) c.nodes.l.length hl.symm ?_
   ·rw[hz]at this;exact this
   ·simp(disch:=omega) [-Gh.run,Gt,Y2,A7]
    rw[hK]
    have hbb:∀ n,((J2 rows (s.l[k]).toNat (i,k)).getD n []).length+kk<=1000000000:=by
     intro n
     unfold J2
     have h5:=hb n
     have h6:=hb (s.l[k]).toNat
     by_cases hq:n=(s.l[k]).toNat
     ·subst hq
      have hlt:(s.l[k]).toNat<rows.length:=by omega
      simp[List.getD,xzb,hlt]at h6 ⊢
      omega
     ·have:¬ (s.l[k]).toNat=n:=fun e=>hq e.symm
      simp[List.getD,xzb,this]at h5 ⊢
      omega
    have:=q7x c hn i s hs R h0 kk (k+1) (J2 rows (s.l[k]).toNat (i,k)) (by omega) (q5s.trans hl) hbb hR
    simpa[As]using this
theorem qKu {ks rs:List Nat} {st:St}:Gh.run (.keep ks rs) st=⟨(Ij ((st.hp.map (·.1)).filter fun id=>!rs.contains id) ⟨Lg.keep ks st.env,st.hp⟩).env,Lg.keep rs (Ij ((st.hp.map (·.1)).filter fun id=>!rs.contains id) ⟨Lg.keep ks st.env,st.hp⟩).hp⟩:=rfl
theorem qIp {env:List (Nat×AV)} {ks:List Nat} {rows:List M8} {q:B9}:Gh.run (.keepB ks [6,14] 100000 16384) ⟨env,(6,q)::(14,.bx (Dk rows))::Ds rows⟩=⟨Lg.keep ks env,(6,q)::(14,.bx (Dk rows))::Ds rows⟩:=by
 have hk:(((6,q)::(14,B9.bx (Dk rows))::Ds rows).map (·.1)).filter (fun id=>!([6,14]:List Nat).contains id && !(decide (100000<=id)&&decide (id<100000+16384)))=[]:=by
  rw[List.filter_eq_nil_iff]
  intro id hid
  simp only[xqm,xqv]at hid
  rcases hid with rfl|rfl|hid
  ·simp
  ·simp
  ·obtain⟨p,hp,rfl⟩:=xqy.1 hid
   have:=q15 p hp
   simp;omega
 simp only[Gh.run,q9N,hk,Ij,q7r,q9z,A5,↓reduceIte]
 simp only[show ¬ (6=14)by omega,↓reduceIte,List.cons_append,List.nil_append]
 congr 3
 refine qBx fun t ht=>?_
 rw[List.mem_range'_1]at ht
 rw[A5,if_neg (by omega),q4Y,if_neg (by omega),if_pos ⟨ht.1,by omega⟩]
theorem qAA {Q:AX->St->Prop} (c:Bi) (hn:c.nodes.l.length<=16384) (hi:∀ x∈c.nodes.l,x.inn.l.length<=16) (R:List M8)
  (h0:Q (.exit 0) ⟨[(3,.lb 14 c.nodes.l.length),(4,.t (.fn 164 [.ip (tC c) 0])),(18,.t (Aa c.nodes)),(19,.t (tI c.nodes.l.length)),(20,.t (tI c.nodes.l.length)),(21,.t (tB false))],(14,.bx (Dk R))::Ds R⟩) :
  ∀ (kk i:Nat) (rows:List M8),kk+i=c.nodes.l.length->rows.length=c.nodes.l.length->RB rows (16*i)->Hr c (c.nodes.l.drop i) i rows=R ->
  run Tryz.prog Γ Jo Q ⟨[(3,.lb 14 c.nodes.l.length),(4,.t (.fn 164 [.ip (tC c) 0])),(18,.t (Aa c.nodes)),(19,.t (tI c.nodes.l.length)),(20,.t (tI i))],(14,.bx (Dk rows))::Ds rows⟩
 | 0,i,rows,h,hl,hb,hR=>by
  refine S1 fun K hK=>?_
  have h2:¬ i<c.nodes.l.length:=by omega
  have h3:i=c.nodes.l.length:=by omega
  simp[h2,-Gh.run,Gt,Y2]
  subst h3
  rw[xq2 (xzo _)]at hR
  simp only[Hr]at hR
  subst hR
  exact h0
 | kk+1,i,rows,h,hl,hb,hR=>by
  refine S1 fun K hK=>?_
  have h2:i<c.nodes.l.length:=by omega
  rw[xqq h2]at hR
  simp only[Hr]at hR
  have hx:=hi _ (xqj h2)
  have hlk6:A5 (Ds rows) 6=none:=by rw[Ds,Q9,if_neg (by omega)]
  simp(disch:=omega) [h2,-Gh.run,Gt,Y2,qKt,qIp,Aa,Ab,Es Nd.d,Bq,Dl,As,hlk6,A6]
  refine q7x c hn i c.nodes.l[i].inn (by omega) _ ?_ c.nodes.l[i].inn.l.length 0 rows (by omega) hl (fun n=>by have:=hb.at n;omega) rfl
  obtain⟨hf1,hf2⟩:=Z8 c i c.nodes.l[i].inn.l 0 rows (16*i) hb
  simp(disch:=omega) [-Gh.run,Gt,Y2,A7,xzt]
  rw[hK]
  have:=qAA c hn hi R h0 kk (i+1) _ (by omega) (hf1.trans hl) (hf2.mono (by omega)) hR
  simpa[Aa]using this
def He (r:M8):T:=.sl (Bc tLn r) (some r.length) (if r=[]then some true else none)
theorem qIq (r:M8):Az Tryz.prog Γ 105 [qBI r] (He r):=by
 unfold qBI He
 by_cases h:r=[]
 ·subst h;simpa[Bc]using qBv (Γ:=Γ) [] (some 0) (some true) qKq
 ·rw[if_neg h,if_neg h]
  have:=qBv (Γ:=Γ) (Bc tLn r) none none q26
  rwa [Ab]at this
def q27 (rows:List M8) (i:Nat):List AV:=rows.mapIdx fun j r=>.t (if j<i then He r else qBI r)
theorem q6c {rows:List M8} {i:Nat}:(q27 rows i).length=rows.length:=by simp[q27]
theorem qKv {rows:List M8} {i:Nat} (h:i<rows.length):((q27 rows i).drop i).take 1=[.t (qBI rows[i])]:=by
 rw[xqq (by rw[q6c];exact h)]
 simp[q27]
theorem qHj {rows:List M8} {i:Nat} (h:i<rows.length):(q27 rows i).take i++.t (He rows[i])::(q27 rows i).drop (i+1)=q27 rows (i+1):=by
 apply List.ext_getElem?
 intro j
 rw[xq7]
 have e:((q27 rows i).take i).length=i:=by simp[q6c];omega
 rw[e]
 by_cases h1:j<i
 ·rw[if_pos h1,xq0,if_pos h1]
  simp only[q27,xja]
  cases rows[j]? with
  | none=>rfl
  | some r=>simp only[xql];rw[if_pos h1,if_pos (by omega)]
 ·rw[if_neg h1]
  by_cases h2:j=i
  ·subst h2
   simp[q27,xqg h]
  ·rw[show j-i=(j-i-1)+1 by omega,xzr,xzc]
   rw[show i+1+(j-i-1)=j by omega]
   simp only[q27,xja]
   cases rows[j]? with
   | none=>rfl
   | some r=>simp only[xql];rw[if_neg h1,if_neg (by omega)]
theorem qBy {Q:AX->St->Prop} (rows:List M8) (hn:rows.length<=16384)
  (h0:Q (.exit 4) ⟨[(3,.lb 14 rows.length),(51,.lb 14 rows.length),(52,.t (tI rows.length)),(53,.t (tI rows.length)),(54,.t (tB false))],[(14,.bx (q27 rows rows.length))]⟩) :
  ∀ (kk i:Nat),kk+i=rows.length ->
  run Tryz.prog Γ Jp Q ⟨[(3,.lb 14 rows.length),(51,.lb 14 rows.length),(52,.t (tI rows.length)),(53,.t (tI i))],[(14,.bx (q27 rows i))]⟩
 | 0,i,h=>by
  refine S3 fun K hK=>?_
  have h2:¬ i<rows.length:=by omega
  have h3:i=rows.length:=by omega
  simp[h2]
  subst h3
  exact h0
 | kk+1,i,h=>by
  refine S3 fun K hK=>?_
  have h2:i<rows.length:=by omega
  have h3:i+1<=rows.length:=h2
  have e:=qIq (Γ:=Γ) rows[i]
  have ho:(qBI rows[i]).one=true:=by unfold qBI;split<;>rfl
  simp(disch:=omega) [h2,h3,qKv h2,q6c]
  refine Aq e rfl ?_
  simp(disch:=omega) [h2,h3,q6c,A7,He]
  rw[hK]
  have:=qBy rows hn h0 kk (i+1) (by omega)
  rw[<- qHj h2]at this
  simpa[He]using this
def B6 (c:Bi):List M8:=Hr c c.nodes.l 0 (List.replicate c.nodes.l.length [])
def q34 (rows:List M8):T:=.sl (Au He rows) (some rows.length) none
theorem q6d (c:Bi):∀ (l:List Nd) (i:Nat) (rows:List M8),(Hr c l i rows).length=rows.length
 | [],_,_=>rfl
 | x::l,i,rows=>by
  simp only[Hr]
  rw[q6d c l]
  exact(Z8 c i x.inn.l 0 rows (rows.foldr (fun r m=>r.length+m) 0) (by
   intro r hr
   induction rows with
   | nil=>cases hr
   | cons y ys ih =>
    simp only[List.foldr_cons]
    rcases xqv.1 hr with rfl|hr
    ·omega
    ·have:=ih hr;omega)).1
theorem Ht (c:Bi):(B6 c).length=c.nodes.l.length:=by rw[B6,q6d];simp
theorem q8c (c:Bi) (hn:c.nodes.l.length<=16384) (hi:∀ x∈c.nodes.l,x.inn.l.length<=16):Az Tryz.prog Γ 41 [.agg (tC c)] (q34 (B6 c)):=by
 refine Bz q4h rfl ?_
 have eo:=Y1 (Γ:=Γ) c
 have hR:=Ht c
 have hk1:∀ (env:List (Nat×AV)) (ks:List Nat),Gh.run (.keepB ks [14] 100000 16384) ⟨env,[(14,.bx (List.replicate c.nodes.l.length (.t (.sl [] (some 0) (some true)))))]⟩=⟨Lg.keep ks env,(14,.bx (Dk (List.replicate c.nodes.l.length [])))::Ds (List.replicate c.nodes.l.length [])⟩:=by
  intro env ks
  have hc:Dk (List.replicate c.nodes.l.length [])=List.replicate c.nodes.l.length (.t (.sl [] (some 0) (some true))):=by
   apply List.ext_getElem?
   intro j
   simp only[Dk,xja,xz3]
   split<;>simp[qA8]
  refine q7v (by simp) (by simp[A5,hc]) fun t h1 h2=>?_
  rw[A5,if_neg (by omega)]
  unfold N9
  rw[xz3]
  split<;>rename_i hq
  ·split at hq
   ·simp only[xqa]at hq;subst hq;rfl
   ·cases hq
  ·rfl
 simp(disch:=omega) [Z1,tC,Aa,Ad,Ag,As,Ab,-Gh.run,Gt,qKu,hk1,A7]
 refine⟨by omega,?_⟩
 refine Aq eo rfl ?_
 simp(disch:=omega) [-Gh.run,Gt,Y2,Ab]
 have hp0:RB (List.replicate c.nodes.l.length []) (16*0):=by
  intro r hr;rw[xqx hr];simp
 refine qAA c hn hi (B6 c) ?_ c.nodes.l.length 0 (List.replicate c.nodes.l.length []) (by omega) (by simp) hp0 rfl
 generalize B6 c=R at hR
 rw[<- hR]
 simp(disch:=omega) [-Gh.run,Gt]
 rw[qIn (by omega) (fun id r h p hp=>by
  simp only[xqv,xz2,or_false]at hp
  have h14:¬ 14=id:=by omega
  rcases hp with rfl|rfl|rfl|rfl|rfl|rfl|rfl|rfl|rfl<;>simp[Cb,frz1,frz0,h14])]
 have hmix:(R.map fun r=>AV.t (qBI r))=q27 R 0:=by
  apply List.ext_getElem?
  intro j
  simp only[xqr,q27,xja]
  cases R[j]?<;>simp
 rw[hmix]
 simp
 refine qBy R (by omega) ?_ R.length 0 (by omega)
 have hfin:q27 R R.length=(R.map He).map .t:=by
  apply List.ext_getElem?
  intro j
  simp only[xqr,q27,xja,Option.map_map]
  cases hj:R[j]? with
  | none=>rfl
  | some r =>
   have:=(xqi.1 hj).1
   simp only[xql,Function.comp_def]
   rw[if_pos this]
 have hopt:Ak ((q27 R R.length).map (Ai [(14,.bx (q27 R R.length))] 3))=some (R.map He):=by
  conv=>lhs;rw[hfin]
  rw[xq5]
  have:(R.map He).map (Ai [(14,.bx ((R.map He).map .t))] 3 ∘ AV.t)=(R.map He).map fun t=>some t:=xq1 fun t _=>by simp[Ai]
  rw[this];exact q3T
 simp[Z2,q34,hopt,Au]
end Go.Lg
namespace Go.Lg
open Go Go.Proofs
def q07 (N:Nat) (rows:List M8):Prop:=∀ r∈rows,∀ p∈r,∃ i:Nat,i<N/\p.1=i
theorem q07.add {N:Nat} {rows:List M8} {n i:Nat} {k:Int} (h:q07 N rows) (hi:i<N):q07 N (J2 rows n (i,k)):=by
 intro r hr p hp
 unfold J2 at hr
 by_cases hn:n<rows.length
 ·rcases xz9 hr with hr|rfl
  ·exact h r hr p hp
  ·rcases xzg.1 hp with hp|hp
   ·have e:rows.getD n []=rows[n]:=by simp[hn]
    rw[e]at hp
    exact h _ (xqj hn) p hp
   ·simp at hp;subst hp;exact⟨i,hi,rfl⟩
 ·rw[List.set_eq_of_length_le (by omega)]at hr
  exact h r hr p hp
theorem q5t {N:Nat} (c:Bi) (i:Nat) (hi:i<N):∀ (l:List Int) (k:Nat) (rows:List M8),q07 N rows->q07 N (Ll c i l k rows)
 | [],_,_,h=>h
 | n::l,k,rows,h=>by
  simp only[Ll]
  split
  ·exact q5t c i hi l (k+1) rows h
  ·exact q5t c i hi l (k+1) _ (h.add hi)
theorem q8d {N:Nat} (c:Bi):∀ (l:List Nd) (i:Nat) (rows:List M8),i+l.length<=N->q07 N rows->q07 N (Hr c l i rows)
 | [],_,_,_,h=>h
 | x::l,i,rows,hl,h=>by
  simp only[Hr]
  simp at hl
  exact q8d c l (i+1) _ (by omega) (q5t c i (by omega) _ _ _ h)
theorem Um (c:Bi):q07 c.nodes.l.length (B6 c):=by
 refine q8d c c.nodes.l 0 _ (by omega) fun r hr p hp=>?_
 rw[xqx hr]at hp;cases hp
theorem q8e (c:Bi):∀ (l:List Nd) (i B:Nat) (rows:List M8),(∀ x∈l,x.inn.l.length<=16)->RB rows B->RB (Hr c l i rows) (B+16*l.length)
 | [],_,_,_,_,h=>h
 | x::l,i,B,rows,hl,h=>by
  simp only[Hr,xq8]
  have h1:=(Z8 c i x.inn.l 0 rows B h).2
  have h2:=hl x xqh
  exact(q8e c l (i+1) (B+16) _ (fun y hy=>hl y (xqf _ hy)) (h1.mono (by omega))).mono (by omega)
theorem q5u (c:Bi) (hn:c.nodes.l.length<=16384) (hi:∀ x∈c.nodes.l,x.inn.l.length<=16):RB (B6 c) 262144:=by
 refine(q8e c c.nodes.l 0 0 _ hi fun r hr=>?_).mono (by omega)
 rw[xqx hr];simp
structure LS where
 out:List Int
 left:List Int
 rdy:List Int
def C2 (k:Int):Bool:=decide (1<=k/\k<=13)
def Aj (c:Bi) (j:Nat):Int:=(c.nodes.l.getD j Nd.d).k
def E7 (c:Bi) (n:Nat) (s:LS) (p:Int×Int):LS :=
 if C2 (Aj c p.1.toNat) then
  ⟨s.out.set p.1.toNat (max (s.out.getD p.1.toNat 0) (s.out.getD n 0+1)),s.left.set p.1.toNat (s.left.getD p.1.toNat 0-1),if s.left.getD p.1.toNat 0-1=0 then s.rdy++[p.1]else s.rdy⟩
 else s
def Ej (c:Bi) (n:Nat):M8:=(B6 c).getD n []
def Ko (c:Bi):Nat->Nat->LS->Nat×LS
 | 0,d,s=>(d,s)
 | f+1,d,s=>if d<s.rdy.length then Ko c f (d+1) ((Ej c (s.rdy.getD d 0).toNat).foldl (E7 c (s.rdy.getD d 0).toNat) s) else(d,s)
def leftOf (x:Nd):Int:=if C2 x.k then x.inn.l.length else 0
def E6:List Nd->Nat->List Int
 | [],_=>[]
 | x::l,i=>if leftOf x=0 then(i:Int)::E6 l (i+1)else E6 l (i+1)
def Hf (c:Bi):LS:=⟨List.replicate c.nodes.l.length 0,c.nodes.l.map leftOf,E6 c.nodes.l 0⟩
def Hu (c:Bi):Nat×LS:=Ko c (c.nodes.l.length+1) 0 (Hf c)
structure LI (N M:Nat) (s:LS):Prop where
 lo:s.out.length=N
 ll:s.left.length=N
 rd:∀ j∈s.rdy,∃ i:Nat,i<N/\j=i/\s.left.getD i 0<=0
 nd:s.rdy.Nodup
 bo:∀ i,0<=s.out.getD i 0/\s.out.getD i 0<=M
 bl:∀ i,-(M:Int)<=s.left.getD i 0/\s.left.getD i 0<=1000
theorem q4Z {N:Nat} {l:List Int} (h:l.Nodup) (hb:∀ j∈l,∃ i:Nat,i<N/\j=i):l.length<=N:=by
 have h1:(l.map Int.toNat).Nodup:=by
  rw[List.nodup_iff_pairwise_ne]at h ⊢
  rw[List.pairwise_map]
  refine h.imp_of_mem fun{a b} ha hb' hne e=>hne ?_
  obtain⟨i,_,rfl⟩:=hb a ha
  obtain⟨j,_,rfl⟩:=hb b hb'
  have:i=j:=by simpa using e
  rw[this]
 have h2:(l.map Int.toNat) ⊆ List.range N:=by
  intro j hj
  obtain⟨a,ha,rfl⟩:=xqy.1 hj
  obtain⟨i,hi,rfl⟩:=hb a ha
  simpa using hi
 have:=(List.Nodup.length_le_of_subset h1 h2)
 simpa using this
theorem LI.len {N M:Nat} {s:LS} (h:LI N M s):s.rdy.length<=N:=q4Z h.nd fun j hj=>by obtain⟨i,h1,h2,_⟩:=h.rd j hj;exact⟨i,h1,h2⟩
theorem E4 {l:List Int} {j i:Nat} {v:Int} (hj:j<l.length):(l.set j v).getD i 0=if i=j then v else l.getD i 0:=by
 simp only[List.getD,xzb]
 by_cases h:j=i
 ·subst h;simp[hj]
 ·simp[h,Ne.symm h]
theorem LI.step {N M:Nat} {c:Bi} {s:LS} {n i:Nat} {k:Int} (h:LI N M s) (hi:i<N):LI N (M+1) (E7 c n s (i,k)):=by
 unfold E7
 simp only[xzl]
 split
 case isFalse=>exact⟨h.lo,h.ll,h.rd,h.nd,fun j=>⟨(h.bo j).1,by have:=(h.bo j).2;omega⟩,fun j=>⟨by have:=(h.bl j).1;omega,(h.bl j).2⟩⟩
 refine⟨by simp[h.lo],by simp[h.ll],?_,?_,?_,?_⟩
 ·intro j hj
  have old:∀ j∈s.rdy,∃ i0:Nat,i0<N/\j=i0/\(s.left.set i (s.left.getD i 0-1)).getD i0 0<=0:=by
   intro j hj
   obtain⟨i0,h1,h2,h3⟩:=h.rd j hj
   refine⟨i0,h1,h2,?_⟩
   rw[E4 (by rw[h.ll];exact hi)]
   split
   ·rename_i e;subst e;omega
   ·exact h3
  split at hj
  ·rename_i hz
   rcases xzg.1 hj with hj|hj
   ·exact old j hj
   ·simp at hj;subst hj
    refine⟨i,hi,rfl,?_⟩
    rw[E4 (by rw[h.ll];exact hi),if_pos rfl];omega
  ·exact old j hj
 ·split
  ·rename_i hz
   rw[List.nodup_append]
   refine⟨h.nd,by simp,?_⟩
   intro a ha b hb e
   simp at hb;subst hb;subst e
   obtain⟨i0,h1,h2,h3⟩:=h.rd _ ha
   have:i=i0:=by omega
   subst this
   omega
  ·exact h.nd
 ·intro j
  rw[E4 (by rw[h.lo];exact hi)]
  have h1:=h.bo j
  have h2:=h.bo i
  have h3:=h.bo n
  split
  ·rename_i e
   omega
  ·omega
 ·intro j
  rw[E4 (by rw[h.ll];exact hi)]
  have h1:=h.bl j
  have h2:=h.bl i
  split<;>omega
theorem LI.fold {N:Nat} {c:Bi} {n:Nat}:∀ {r:M8} {s:LS} {M:Nat},LI N M s->(∀ p∈r,∃ i:Nat,i<N/\p.1=i)->LI N (M+r.length) (r.foldl (E7 c n) s)
 | [],_,_,h,_=>h
 | p::r,s,M,h,hr=>by
  obtain⟨i,hi,he⟩:=hr p xqh
  obtain⟨p1,p2⟩:=p
  simp only at he;subst he
  have:=LI.fold (c:=c) (n:=n) (h.step (c:=c) (n:=n) (k:=p2) hi) fun q hq=>hr q (xqf _ hq)
  simp only[xz4,xq8]
  rw[show M+(r.length+1)=M+1+r.length by omega]
  exact this
theorem q5v:∀ (l:List Nd) (i:Nat),(∀ j∈E6 l i,∃ a:Nat,i<=a/\a<i+l.length/\j=a/\(l.map leftOf).getD (a-i) 0=0)/\(E6 l i).Nodup
 | [],_=>⟨fun j h=>(by cases h),List.nodup_nil⟩
 | x::l,i=>by
  obtain⟨h1,h2⟩:=q5v l (i+1)
  have h3:∀ j∈E6 l (i+1),∃ a:Nat,i<=a/\a<i+(l.length+1)/\j=a/\((x::l).map leftOf).getD (a-i) 0=0:=by
   intro j hj
   obtain⟨a,e1,e2,e3,e4⟩:=h1 j hj
   refine⟨a,by omega,by omega,e3,?_⟩
   rw[show a-i=(a-(i+1))+1 by omega]
   simpa using e4
  simp only[E6,xq8]
  split
  ·rename_i hz
   refine⟨fun j hj=>?_,?_⟩
   ·rcases xqv.1 hj with rfl|hj
    ·exact⟨i,by omega,by omega,rfl,by simp[hz]⟩
    ·exact h3 j hj
   ·rw[xzj]
    refine⟨fun hm=>?_,h2⟩
    obtain⟨a,e1,_,e3,_⟩:=h1 _ hm
    omega
  ·exact⟨h3,h2⟩
theorem qDu (c:Bi) (hi:∀ x∈c.nodes.l,x.inn.l.length<=16):LI c.nodes.l.length 0 (Hf c):=by
 obtain⟨h1,h2⟩:=q5v c.nodes.l 0
 refine⟨by simp[Hf],by simp[Hf],fun j hj=>?_,h2,fun i=>?_,fun i=>?_⟩
 ·obtain⟨a,_,e2,e3,e4⟩:=h1 j hj
  exact⟨a,by omega,e3,by simp only[Nat.sub_zero]at e4;simp only[Hf];omega⟩
 ·simp only[Hf,List.getD,xz3]
  split<;>simp
 ·simp only[Hf,List.getD,xqr]
  cases hx:c.nodes.l[i]? with
  | none=>simp
  | some x =>
   have:=hi x (xqp hx)
   simp only[xql,xzy,leftOf]
   split<;>simp<;>omega
end Go.Lg
namespace Go.Lg
open Go Go.Proofs
variable {Γ:Tables}
theorem q6e {α:Type} {f:α->T} {l:List α} {j:Nat} {x:α} (h:j<l.length):(Au f (l.set j x))[j]?.getD []=[f x]:=by simp[Au,h]
theorem qKw {r:M8} {i:Nat} (h:i<r.length):(Bc tLn r)[i]?.getD []=tLn r[i]:=by simp[Bc,h]
def lsH (s:LS):List (Nat×B9):=[(23,.sl 3 1 (Af s.out)),(27,.sl 3 1 (Af s.left)),(53,.sl 3 1 (Af s.rdy))]
theorem q5w {Q:AX->St->Prop} (c:Bi) (hc:CirOk c) (hn:c.nodes.l.length<=16384) (n:Nat) (hnn:n<c.nodes.l.length) (d:Int) (r:M8) (nl:Option Bool) (hr:r.length<=262144) (hin:∀ p∈r,∃ i:Nat,i<c.nodes.l.length/\p.1=i) (Oy:T) (S:LS)
  (h0:Q (.exit 4) ⟨[(1,.t (.ip (tC c) 0)),(5,.ls 23 0 c.nodes.l.length none),(6,.ls 27 0 c.nodes.l.length none),(7,.ls 53 0 S.rdy.length none),(10,.t Oy),(11,.t (tI d)),(12,.t (tI n)),(76,.t (.sl (Bc tLn r) (some r.length) nl)),(77,.t (tI r.length)),(78,.t (tI r.length)),(79,.t (tB false))],lsH S⟩) :
  ∀ (kk k:Nat) (s:LS) (M:Nat),kk+k=r.length->LI c.nodes.l.length M s->M+kk<=4611686018427387904->(r.drop k).foldl (E7 c n) s=S ->
  run Tryz.prog Γ Jk Q ⟨[(1,.t (.ip (tC c) 0)),(5,.ls 23 0 c.nodes.l.length none),(6,.ls 27 0 c.nodes.l.length none),(7,.ls 53 0 s.rdy.length none),(10,.t Oy),(11,.t (tI d)),(12,.t (tI n)),(76,.t (.sl (Bc tLn r) (some r.length) nl)),(77,.t (tI r.length)),(78,.t (tI k))],lsH s⟩
 | 0,k,s,M,h,hI,hM,hS=>by
  refine Ry fun K hK=>?_
  have h2:¬ k<r.length:=by omega
  have h3:k=r.length:=by omega
  simp[h2,lsH]
  subst h3
  rw[xq2 (xzo _)]at hS
  simp only[List.foldl_nil]at hS
  subst hS
  exact h0
 | kk+1,k,s,M,h,hI,hM,hS=>by
  refine Ry fun K hK=>?_
  have h2:k<r.length:=by omega
  rw[xqq h2]at hS
  simp only[xz4]at hS
  obtain⟨j,hj,hpj⟩:=hin _ (xqj h2)
  have hstep:=hI.step (c:=c) (n:=n) (k:=r[k].2) hj
  have hpair:r[k]=((j:Int),r[k].2):=by rw[<- hpj]
  rw[hpair]at hS
  generalize r[k].2=q at hS hstep hpair
  have e:=q4W (Γ:=Γ) c.nodes.l[j].k
  have hkind:Aj c j=c.nodes.l[j].k:=by simp[Aj,hj]
  simp(disch:=omega) [h2,lsH,Ab,qKw h2,q26,hpair,tLn,tC,Aa,Es Nd.d,Bq,Dl,As,hj]
  refine A4 e rfl ?_
  by_cases hcb:C2 c.nodes.l[j].k=true
  case neg =>
   have hcb':decide (1<=c.nodes.l[j].k/\c.nodes.l[j].k<=13)=false:=by simpa[C2]using hcb
   have hcb2:C2 (Aj c j)=false:=by rw[hkind];exact hcb'
   have hst:E7 c n s ((j:Int),q)=s:=by unfold E7;simp[hcb2]
   rw[hst]at hS hstep
   rw[hcb']
   simp(disch:=omega) [A7]
   rw[hK]
   have:=q5w c hc hn n hnn d r nl hr hin Oy S h0 kk (k+1) s (M+1) (by omega) hstep (by omega) hS
   simpa[lsH,tC,Aa,As]using this
  have hcb':decide (1<=c.nodes.l[j].k/\c.nodes.l[j].k<=13)=true:=by simpa[C2]using hcb
  have hcb2:C2 (Aj c j)=true:=by rw[hkind];exact hcb'
  rw[hcb']
  have ho:=hI.lo
  have hll:=hI.ll
  have b1:=hI.bo n
  have b2:=hI.bo j
  have b3:=hI.bl j
  have hrl:=hI.len
  have hst:E7 c n s ((j:Int),q)=⟨s.out.set j (max (s.out.getD j 0) (s.out.getD n 0+1)),s.left.set j (s.left.getD j 0-1),if s.left.getD j 0-1=0 then s.rdy++[(j:Int)]else s.rdy⟩:=by
   unfold E7;simp[hcb2]
  have hw:Em 1 [[tI (j:Int)]]:=by intro e he;simp at he;subst he;rfl
  have hmax:max (s.out.getD j 0) (s.out.getD n 0+1)=if s.out.getD j 0<s.out.getD n 0+1 then s.out.getD n 0+1 else s.out.getD j 0:=by
   split<;>omega
  have ih:=fun S2 (e:S2=E7 c n s ((j:Int),q))=>q5w c hc hn n hnn d r nl hr hin Oy S h0 kk (k+1) S2 (M+1) (by omega) (e ▸ hstep) (by omega) (e ▸ hS)
  have ljo:j<s.out.length:=by omega
  have lno:n<s.out.length:=by omega
  have ljl:j<s.left.length:=by omega
  simp only[List.getD,xqg ljo,xqg lno,xqg ljl,xzy]at b1 b2 b3 hst hmax
  have b1a:=b1.1
  have b1b:=b1.2
  have b2a:=b2.1
  have b2b:=b2.2
  have b3a:=b3.1
  have b3b:=b3.2
  simp(disch:=omega) [A7,A6,D8 (0:Int),A9,Gf,ljo,lno,ljl,hj,hnn]
  rw[show(if s.out[j]<s.out[n]+1 then s.out[n]+1 else s.out[j])=max s.out[j] (s.out[n]+1) from hmax.symm]
  by_cases hz:s.left[j]-1=0
  ·rw[if_pos hz]at hst
   have ih':=ih _ hst.symm
   simp(disch:=omega) [hz,A7,A6,A9,hw,q6e]
   refine⟨by omega,?_⟩
   rw[hK]
   rw[E0 (f:=tI) (x:=(j:Int))]
   simpa[lsH,tC,Aa,As,hz]using ih'
  ·rw[if_neg hz]at hst
   have ih':=ih _ hst.symm
   simp(disch:=omega) [hz,A7,q6e,A9]
   rw[hK]
   simpa[lsH,tC,Aa,As]using ih'
theorem qBz {Q:AX->St->Prop} (c:Bi) (hc:CirOk c) (hn:c.nodes.l.length<=16384) (hi:∀ x∈c.nodes.l,x.inn.l.length<=16) (R:Nat×LS)
  (h0:Q (.exit 2) ⟨[(1,.t (.ip (tC c) 0)),(5,.ls 23 0 c.nodes.l.length none),(6,.ls 27 0 c.nodes.l.length none),(7,.ls 53 0 R.2.rdy.length none),(10,.t (q34 (B6 c))),(11,.t (tI R.1)),(60,.t (tB false))],lsH R.2⟩) :
  ∀ (f d:Nat) (s:LS) (M:Nat),f+d=c.nodes.l.length+1->LI c.nodes.l.length M s->M=d*262144->Ko c f d s=R ->
  run Tryz.prog Γ Jl Q ⟨[(1,.t (.ip (tC c) 0)),(5,.ls 23 0 c.nodes.l.length none),(6,.ls 27 0 c.nodes.l.length none),(7,.ls 53 0 s.rdy.length none),(10,.t (q34 (B6 c))),(11,.t (tI d))],lsH s⟩
 | 0,d,s,M,h,hI,hM,hR=>by
  refine Rz fun K hK=>?_
  have hlen:=hI.len
  have h2:¬ d<s.rdy.length:=by omega
  simp[h2,lsH]
  simp only[Ko]at hR
  subst hR
  exact h0
 | f+1,d,s,M,h,hI,hM,hR=>by
  refine Rz fun K hK=>?_
  have hlen:=hI.len
  by_cases h2:d<s.rdy.length
  case neg =>
   simp[h2,lsH]
   simp only[Ko,h2,↓reduceIte]at hR
   subst hR
   exact h0
  simp only[Ko,h2,↓reduceIte]at hR
  obtain⟨j,hj,he,hz⟩:=hI.rd _ (xqj h2)
  have hgd:s.rdy.getD d 0=(j:Int):=by simp[h2,he]
  rw[hgd]at hR
  simp only[xzl]at hR
  have hfr:=Ht c
  have hrl:Ej c j∈B6 c:=by
   have e:Ej c j=(B6 c)[j]'(by omega):=by simp[Ej,hfr,hj]
   rw[e];exact xqj _
  have hin:=Um c _ hrl
  have hrb:=q5u c hn hi _ hrl
  have hfold:=hI.fold (c:=c) (n:=j) hin
  have hel:(B6 c)[j]? = some (Ej c j):=by
   have hlt:j<(B6 c).length:=by omega
   simp[Ej,hlt]
  have hrt:He (Ej c j)=.sl (Bc tLn (Ej c j)) (some (Ej c j).length) (if Ej c j=[]then some true else none):=rfl
  have hg1:(Au He (B6 c))[j]?.getD []=[He (Ej c j)]:=by simp[Au,hel]
  have hM2:LI c.nodes.l.length ((d+1)*262144) ((Ej c j).foldl (E7 c j) s):=⟨hfold.lo,hfold.ll,hfold.rd,hfold.nd,fun i=>⟨(hfold.bo i).1,by have:=(hfold.bo i).2;omega⟩,fun i=>⟨by have:=(hfold.bl i).1;omega,(hfold.bl i).2⟩⟩
  have ih:=qBz c hc hn hi R h0 f (d+1) _ _ (by omega) hM2 rfl hR
  have hrdy:(s.rdy)[d]?.getD 0=(j:Int):=by simpa using hgd
  simp(disch:=omega) [h2,lsH,A6,D8 (0:Int),A9,A7,he,q34,hfr,hj,hg1,hrt,Ab]
  by_cases hr0:(Ej c j).length=0
  ·have hr0':Ej c j=[]:=xqo hr0
   simp[hr0',By]
   rw[hK]
   rw[hr0']at ih
   simp only[List.foldl_nil,q34,hfr,lsH]at ih
   exact_mod_cast ih
  ·have hr0':¬ Ej c j=[]:=fun e=>hr0 (by simp[e])
   simp(disch:=omega) [By,hr0',lsH,A6,D8 (0:Int),A9,A7,he,q34,hfr,hj,hg1,hrt,Ab]
   refine q5w c hc hn j hj ((d:Int)+1) (Ej c j) _ (by omega) hin _ _ ?_ (Ej c j).length 0 s M (by omega) hI (by omega) rfl
   simp[lsH]
   rw[hK]
   simp only[q34,hfr,lsH]at ih
   exact_mod_cast ih
theorem q6f (x:Nd):∀ (l:List Nd) (i:Nat),E6 (l++[x]) i=if leftOf x=0 then E6 l i++[((i+l.length:Nat):Int)]else E6 l i
 | [],i=>by simp[E6]
 | y::l,i=>by
  have:=q6f x l (i+1)
  simp only[List.cons_append,E6,this,xq8]
  rw[show i+1+l.length=i+(l.length+1)by omega]
  split<;>split<;>rfl
theorem q8f:∀ (l:List Nd) (i:Nat),(E6 l i).length<=l.length
 | [],_=>by simp[E6]
 | x::l,i=>by
  have:=q8f l (i+1)
  simp only[E6]
  split<;>simp<;>omega
def Nb (c:Bi) (i:Nat):List Int:=(c.nodes.l.take i).map leftOf++List.replicate (c.nodes.l.length-i) 0
theorem qAB {c:Bi} {i:Nat} (h:i<=c.nodes.l.length):(Nb c i).length=c.nodes.l.length:=by simp[Nb];omega
theorem q5x {c:Bi} {i:Nat} (h:i<c.nodes.l.length):(Nb c i).set i (leftOf c.nodes.l[i])=Nb c (i+1):=by
 unfold Nb
 have e1:((c.nodes.l.take i).map leftOf).length=i:=by simp;omega
 rw[List.set_append_right _ _ (by rw[e1];exact xzo i),e1,xjb]
 rw[show c.nodes.l.length-i=(c.nodes.l.length-(i+1))+1 by omega,List.replicate_succ,List.set_cons_zero]
 have e3:(c.nodes.l.map leftOf).take (i+1)=(c.nodes.l.map leftOf).take i++[leftOf c.nodes.l[i]]:=by rw[xz7];simp[h]
 simp[e3]
theorem qDv {c:Bi} {i:Nat} (h:i<c.nodes.l.length) (h0:leftOf c.nodes.l[i]=0):Nb c i=Nb c (i+1):=by
 unfold Nb
 rw[show c.nodes.l.length-i=(c.nodes.l.length-(i+1))+1 by omega,List.replicate_succ]
 have e3:(c.nodes.l.map leftOf).take (i+1)=(c.nodes.l.map leftOf).take i++[leftOf c.nodes.l[i]]:=by rw[xz7];simp[h]
 simp[e3,h0]
theorem qC0 {Q:AX->St->Prop} (c:Bi) (hn:c.nodes.l.length<=16384) (hi:∀ x∈c.nodes.l,x.inn.l.length<=16) (out:List Int)
  (h0:Q (.exit 0) ⟨[(1,.t (.ip (tC c) 0)),(5,.ls 23 0 c.nodes.l.length none),(6,.ls 27 0 c.nodes.l.length none),(7,.ls 53 0 (E6 c.nodes.l 0).length none),(29,.t (Aa c.nodes)),(30,.t (tI c.nodes.l.length)),(31,.t (tI c.nodes.l.length)),(32,.t (tB false))],[(23,.sl 3 1 (Af out)),(27,.sl 3 1 (Af (c.nodes.l.map leftOf))),(53,.sl 3 1 (Af (E6 c.nodes.l 0)))]⟩) :
  ∀ (kk i:Nat),kk+i=c.nodes.l.length ->
  run Tryz.prog Γ Jj Q ⟨[(1,.t (.ip (tC c) 0)),(5,.ls 23 0 c.nodes.l.length none),(6,.ls 27 0 c.nodes.l.length none),(7,.ls 53 0 (E6 (c.nodes.l.take i) 0).length none),(29,.t (Aa c.nodes)),(30,.t (tI c.nodes.l.length)),(31,.t (tI i))],[(23,.sl 3 1 (Af out)),(27,.sl 3 1 (Af (Nb c i))),(53,.sl 3 1 (Af (E6 (c.nodes.l.take i) 0)))]⟩
 | 0,i,h=>by
  refine Rx fun K hK=>?_
  have h2:¬ i<c.nodes.l.length:=by omega
  have h3:i=c.nodes.l.length:=by omega
  simp[h2]
  subst h3
  simpa[Nb]using h0
 | kk+1,i,h=>by
  refine Rx fun K hK=>?_
  have h2:i<c.nodes.l.length:=by omega
  have hx:=hi _ (xqj h2)
  have ht:c.nodes.l.take (i+1)=c.nodes.l.take i++[c.nodes.l[i]]:=by rw[xz7];simp[h2]
  have htl:(c.nodes.l.take i).length=i:=by simp;omega
  have hrl:=q8f (c.nodes.l.take i) 0
  have hll:=qAB (c:=c) (i:=i) (by omega)
  have hll1:=qAB (c:=c) (i:=i+1) (by omega)
  have hsn:=q6f c.nodes.l[i] (c.nodes.l.take i) 0
  rw[<- ht,htl,xjc]at hsn
  have e:=q4W (Γ:=Γ) c.nodes.l[i].k
  have ih:=qC0 c hn hi out h0 kk (i+1) (by omega)
  have hw:Em 1 [[tI (i:Int)]]:=by intro e he;simp at he;subst he;rfl
  simp(disch:=omega) [h2,Ab,Es Nd.d,Bq,Aa,Dl,As,-Gg]
  refine A4 e rfl ?_
  have tail:∀ (lf:List Int),lf=Nb c (i+1)->run Tryz.prog Γ (.seq (.reg Gg [.keep [1,5,6,7,8,29,30,31,49] [23,27,53]]) (.cond (.tmp 49) (.reg Ou [.keep [1,5,6,7,29,30,31] [23,27,53]]) .skip))
    (Me 1 (Aw (run Tryz.prog Γ (.reg Ov [.keep [1,5,6,7,29,30,31] [23,27,53]]) (Aw (fun s=>Aw K Q .normal (ghs [.keep [1,5,6,7,29,30,31] [23,27,53]] s)) (Aw K Q))) (Aw (fun s=>Aw K Q .normal (ghs [.keep [1,5,6,7,29,30,31] [23,27,53]] s)) (Aw K Q))))
    ⟨[(1,.t (.ip (tC c) 0)),(5,.ls 23 0 c.nodes.l.length none),(6,.ls 27 0 c.nodes.l.length none),(7,.ls 53 0 (E6 (c.nodes.l.take i) 0).length none),(8,.t (tI i)),(29,.t (Aa c.nodes)),(30,.t (tI c.nodes.l.length)),(31,.t (tI i))],[(23,.sl 3 1 (Af out)),(27,.sl 3 1 (Af lf)),(53,.sl 3 1 (Af (E6 (c.nodes.l.take i) 0)))]⟩:=by
   rintro lf rfl
   have hget:(Nb c (i+1))[i]?.getD 0=leftOf c.nodes.l[i]:=by
    rw[<- q5x h2]
    simp[hll,h2]
   have hge:=hget
   rw[xqg (by rw[hll1];exact h2),xzy]at hge
   by_cases hz:leftOf c.nodes.l[i]=0
   ·rw[if_pos hz]at hsn
    simp(disch:=omega) [h2,A6,D8 (0:Int),A9,hll1,hge,hz,hw,A7]
    refine⟨by omega,?_⟩
    rw[hK]
    rw[hsn]at ih
    rw[E0 (f:=tI) (x:=(i:Int))]
    simpa using ih
   ·rw[if_neg hz]at hsn
    simp(disch:=omega) [h2,A6,D8 (0:Int),A9,hll1,hge,hz,A7]
    rw[hK]
    rw[hsn]at ih
    exact_mod_cast ih
  by_cases hcb:C2 c.nodes.l[i].k=true
  ·have hcb':decide (1<=c.nodes.l[i].k/\c.nodes.l[i].k<=13)=true:=by simpa[C2]using hcb
   have hlo:leftOf c.nodes.l[i]=c.nodes.l[i].inn.l.length:=by simp[leftOf,hcb]
   rw[hcb']
   have:=tail ((Nb c i).set i c.nodes.l[i].inn.l.length) (by rw[<- hlo];exact q5x h2)
   simp(disch:=omega) [h2,A6,A9,hll,Gf,-Gg]
   exact this
  ·have hcb':decide (1<=c.nodes.l[i].k/\c.nodes.l[i].k<=13)=false:=by simpa[C2]using hcb
   have hlo:leftOf c.nodes.l[i]=0:=by simp[leftOf,hcb]
   rw[hcb',qDv h2 hlo]
   rw[if_pos hlo]at hsn
   have hge:(Nb c (i+1))[i]'(by rw[hll1];exact h2)=0:=by
    have hget:(Nb c (i+1))[i]?.getD 0=leftOf c.nodes.l[i]:=by
     rw[<- q5x h2]
     simp[hll,h2]
    rw[xqg (by rw[hll1];exact h2),xzy]at hget
    rw[hget,hlo]
   simp(disch:=omega) [h2,A6,D8 (0:Int),A9,hll1,hge,hw,A7]
   refine⟨by omega,?_⟩
   rw[hK]
   rw[hsn]at ih
   rw[E0 (f:=tI) (x:=(i:Int))]
   simpa[Aa]using ih
def Cf (c:Bi):Int:=if Eg c≠0 then Eg c else if(Hu c).1<c.nodes.l.length then 6 else 0
theorem qNL (k:Int):(Oy k).2<=16:=by
 unfold Oy
 split
 ·decide
 ·have:∀ n:Nat,(Uk.getD n (0,0)).2<=16:=by
   intro n
   by_cases h:n<16
   ·have:n=0\/n=1\/n=2\/n=3\/n=4\/n=5\/n=6\/n=7\/n=8\/n=9\/n=10\/n=11\/n=12\/n=13\/n=14\/n=15:=by omega
    rcases this with rfl|rfl|rfl|rfl|rfl|rfl|rfl|rfl|rfl|rfl|rfl|rfl|rfl|rfl|rfl|rfl<;>decide
   ·rw[List.getD,List.getElem?_eq_none (by simp[Uk];omega)];decide
  exact this _
theorem q0g {α:Type} {f:α->Int}:∀ {l:List α},E3 (l.map f)=0->∀ x∈l,f x=0
 | [],_,x,h=>by cases h
 | y::l,h,x,hx=>by
  simp only[xqm,E3]at h
  split at h
  ·rename_i hy;exact absurd h hy
  ·rename_i hy
   rcases xqv.1 hx with rfl|hx
   ·simpa using hy
   ·exact q0g h x hx
theorem J7 {c:Bi} (h:Eg c=0):c.nodes.l.length<=16384/\(∀ x∈c.nodes.l,x.inn.l.length<=16)/\(∀ x∈c.nodes.l,Eh c x=0)/\c.mems.l.length<=16:=by
 unfold Eg at h
 split at h
 ·cases h
 rename_i h1
 split at h
 ·cases h
 split at h
 ·rename_i h2;exact absurd h h2
 rename_i h2
 have h3:=q0g (by simpa using h2)
 refine⟨by omega,fun x hx=>?_,h3,by omega⟩
 have h4:=h3 x hx
 have h5:=qNL x.k
 unfold Eh at h4
 split at h4
 ·cases h4
 split at h4
 ·cases h4
 rename_i h6
 omega
theorem q8g (hΓ:GOk Γ) (c:Bi) (hc:CirOk c) (ha:∀ s∈c.names.l,∀ b∈s,b<128) :
  A8 Tryz.prog Γ 40 [.agg (tC c)] (.tup [if Cf c=0 then .sl (Af (Hu c).2.out) none none else .sl [] (some 0) (some true),tI (Cf c)]):=by
 refine Ae q4g rfl ?_
 have e1:=qFR hΓ c hc ha
 simp[Yx,tC,Aa,Ad,Ag,As]
 refine A4 e1 rfl ?_
 by_cases h1:Eg c=0
 case neg =>
  have:Cf c=Eg c:=by unfold Cf;rw[if_pos h1]
  simp[h1,Jm,this]
 obtain⟨hn,hi,_⟩:=J7 h1
 have e2:=q8c (Γ:=Γ) c hn hi
 have hl0:Cf c=if(Hu c).1<c.nodes.l.length then 6 else 0:=by unfold Cf;rw[if_neg (show ¬ (Eg c≠0)by simp[h1])]
 simp(disch:=omega) [h1,Ab,A7]
 refine⟨by omega,?_⟩
 have e0:List.replicate c.nodes.l.length [T.v (Value.int .i64 0)]=Af (List.replicate c.nodes.l.length 0):=by simp[Au]
 rw[e0]
 have hl:=fun Q h0=>qC0 (Γ:=Γ) (Q:=Q) c hn hi (List.replicate c.nodes.l.length 0) h0 c.nodes.l.length 0 (by omega)
 have el0:Nb c 0=List.replicate c.nodes.l.length 0:=by simp[Nb]
 simp only[el0,E6,List.take_zero,xq9]at hl
 refine hl _ ?_
 simp[tC,Aa,Ad,Ag,As]
 refine Aq e2 rfl ?_
 have hI:=qDu c hi
 have hm:=fun Q h0=>qBz (Γ:=Γ) (Q:=Q) c hc hn hi (Hu c) h0 (c.nodes.l.length+1) 0 (Hf c) 0 (by omega) hI (by omega) rfl
 simp
 refine hm _ ?_
 have hend:(Hu c).1<c.nodes.l.length↔((Hu c).1:Int)<c.nodes.l.length:=by omega
 have hol:(Hu c).2.out.length=c.nodes.l.length:=by
  have:∀ (f d:Nat) (s:LS),s.out.length=c.nodes.l.length->(Ko c f d s).2.out.length=c.nodes.l.length:=by
   intro f
   induction f with
   | zero=>intro d s h;exact h
   | succ f ih =>
    intro d s h
    simp only[Ko]
    split
    ·refine ih _ _ ?_
     have:∀ (r:M8) (n:Nat) (s:LS),s.out.length=c.nodes.l.length->(r.foldl (E7 c n) s).out.length=c.nodes.l.length:=by
      intro r n
      induction r with
      | nil=>intro s h;exact h
      | cons p r ih2 =>
       intro s h
       rw[xz4]
       refine ih2 _ ?_
       unfold E7
       split
       ·simp[h]
       ·exact h
     exact this _ _ _ h
    ·exact h
  exact this _ _ _ hI.lo
 by_cases h2:(Hu c).1<c.nodes.l.length
 ·rw[if_pos h2]at hl0
  have h2':=hend.1 h2
  simp[lsH,tC,Aa,Ab,h2',Jm,hl0]
 ·rw[if_neg h2]at hl0
  have h2':¬ ((Hu c).1:Int)<c.nodes.l.length:=fun h=>h2 (hend.2 h)
  have ht:(Af (Hu c).2.out).take c.nodes.l.length=Af (Hu c).2.out:=by rw[<- hol];simp
  simp[lsH,tC,Aa,Ab,h2,h2',Jm,hl0,ht]
structure COk (c:Bi):Prop extends CirOk c where
 asc:∀ s∈c.names.l,∀ b∈s,b<128
def B8 (c:Bi):List Int:=N8 [14] c.nodes.l 0
def mems (c:Bi):List Int:=N8 [15] c.nodes.l 0
theorem qFS (c:Bi) (hc:COk c) (k:Int):A8 Tryz.prog Γ 102 [.agg (tC c),.sl [[tK k]] (some 1) (some false)] (.sl (Af (N8 [k] c.nodes.l 0)) (some (N8 [k] c.nodes.l 0).length) none):=by
 have:=qKr (Γ:=Γ) c hc.toCirOk [k] (some 1) (some false) (by simp)
 simpa[Au]using this
theorem Qq (c:Bi) (hc:COk c):Az Tryz.prog Γ 39 [.agg (tC c)] (.sl (Af (B8 c)) (some (B8 c).length) none):=by
 refine Bz q4f rfl ?_
 simp[Ys,tC,Aa,Ad,Ag,As]
 refine A4 (qFS c hc 14) rfl ?_
 simp[Yt,B8]
def qAC (c:Bi):Int:=if Cf c≠0 then Cf c else if 0<c.mems.l.length\/0<(mems c).length then 7 else 0
end Go.Lg
namespace Go.Lg
open Go Go.Proofs
def Sl.d:Sl Int:=⟨[],none,none⟩
def q08 (l:List Int) (a b:Nat):List Int:=(l.set a (l.getD b 0)).set b (l.getD a 0)
theorem q7y {l:List Int} {a b:Nat}:(q08 l a b).length=l.length:=by simp[q08]
theorem Be {l:List Int} {i:Nat} (h:i<l.length):l.getD i 0=l[i]:=by simp[xqe,h]
theorem qHk {l:List Int} {a b q:Nat} (ha:a<l.length) (hb:b<l.length) (hq:q<l.length):(q08 l a b).getD q 0=if q=b then l.getD a 0 else if q=a then l.getD b 0 else l.getD q 0:=by
 unfold q08
 rw[E4 (by simp;exact hb)]
 split
 ·rfl
 ·rw[E4 ha]
theorem qAD {l:List Int} {a b:Nat} (ha:a<l.length) (hb:b<l.length):(q08 l a b).Perm l:=by
 unfold q08
 rw[Be ha,Be hb]
 exact List.set_set_perm ha hb
theorem Nz (ks:List Int):∀ (l:List Nd) (i:Nat),(∀ j∈N8 ks l i,(i:Int)<=j)/\(N8 ks l i).Nodup
 | [],_=>⟨fun j h=>(by cases h),List.nodup_nil⟩
 | x::l,i=>by
  obtain⟨h1,h2⟩:=Nz ks l (i+1)
  simp only[N8]
  split
  ·refine⟨fun j hj=>?_,xzj.2 ⟨fun hm=>?_,h2⟩⟩
   ·rcases xqv.1 hj with rfl|hj
    ·omega
    ·have:=h1 j hj;omega
   ·have:=h1 _ hm;omega
  ·exact⟨fun j hj=>by have:=h1 j hj;omega,h2⟩
theorem q6g (ks:List Int):∀ (l:List Nd) (i:Nat),∀ n∈N8 ks l i,(i:Int)<=n/\n<i+l.length/\ks.contains (l.getD (n.toNat-i) Nd.d).k=true
 | [],_,n,h=>by cases h
 | x::l,i,n,h=>by
  have tail:n∈N8 ks l (i+1)->(i:Int)<=n/\n<i+(x::l).length/\ks.contains ((x::l).getD (n.toNat-i) Nd.d).k=true:=fun h=>by
   obtain⟨h1,h2,h3⟩:=q6g ks l (i+1) n h
   refine⟨by omega,by simp only[xq8];omega,?_⟩
   have e:n.toNat-i=(n.toNat-(i+1))+1:=by omega
   rw[e,List.getD_cons_succ]
   exact h3
  simp only[N8]at h
  split at h
  ·rename_i hk
   rcases xqv.1 h with rfl|h
   ·refine⟨by omega,by simp only[xq8];omega,?_⟩
    have e:((i:Int).toNat-i)=0:=by omega
    rw[e,List.getD_cons_zero]
    exact hk
   ·exact tail h
  ·exact tail h
end Go.Lg
namespace Go.Lg
open Go
section
variable {P:Program} {Γ:Tables} {Q:AX->St->Prop} {s:St}
/- (probecard/probecardlaw03.C).Of (function 10) -/
abbrev q4x:IC:=.gh (.seq (.seq (.reg [om 13 4,od 14 (fa 0 1),od 15 (ld 1 14),od 16 (.bin .rem (tm 15) (ku 4)),od 17 (.conv .i64 (tm 16)),od 18 (.bin .leq (tm 13) (tm 17))] [kp [1,2,3,4,18] [2,3,25,144,168]]) (.cond (tm 18) .skip
 (.exit 0))) (.seq (.block 1 (.reg [od 21 (fa 0 3),od 22 (ld 1 21),od 23 (.build [(1,(ku 0)),(1,kN),(1,(ki 0)),(1,(ki 0))]),od 24 (.bsl true 50 4 [(tm 23)]),od 25 (.app false 50 4 (tm 22) (tm 24)),od 26 (fa 0 3),on
 (.store 1 (tm 26) (tm 25))] [kp [1,2,3,4] [2,3,25,144,168]])) (.reg [om 19 4,od 20 (.bin .add (tm 19) (ki 1)),om 4 20] [kp [1,2,3,4] [2,3,25,144,168]]))) [kp [1,2,3,4] [2,3,25,144,168]]
def V7:IC:=.loop q4x
abbrev q4y:IC:=.gh (.seq (.seq (.reg [om 34 7,om 35 6,od 36 (.bin .lss (tm 34) (tm 35))] [kp [1,2,3,5,6,7,36] [2,3,25,144,168]]) (.cond (tm 36) .skip (.exit 2))) (.seq (.block 3 (.reg [od 39 (fa 0 3),od 40 (ld 1 39),od 41 (.bsl true
 3 1 [(ki 0)]),od 42 (.build [(1,(ku 14)),(1,(tm 41)),(1,(ki 0)),(1,(ki 0))]),od 43 (.bsl true 50 4 [(tm 42)]),oz 44 (.app false 50 4 (tm 40) (tm 43)) 25,od 45 (fa 0 3),on (.store 1 (tm 45) (tm 44))] [kp [1,2,3,5,6,
 7] [2,3,25,144,168]])) (.reg [om 37 7,od 38 (.bin .add (tm 37) (ki 1)),om 7 38] [kp [1,2,3,5,6,7] [2,3,25,144,168]]))) [kp [1,2,3,5,6,7] [2,3,25,144,168]]
def V8:IC:=.loop q4y
abbrev q4z:IC:=.gh (.seq (.seq (.reg [om 55 8,od 56 (fa 10 1),od 57 (ld 1 56),od 58 (le 0 57),od 59 (.bin .lss (tm 55) (tm 58)),om 60 59,oT 61 (.mv (tm 8)) 60,oT 62 (.bin .lss (tm 61) (ki 8)) 60,od 63 (.pick (tm 60) (tm 62) kF)] [kp [1,
 2,3,5,6,8,63] [2,3,25,144,168]]) (.cond (tm 63) .skip (.exit 4))) (.seq (.block 5 (.reg [od 66 (fa 0 3),od 67 (.ldR 3 1 false (tm 66)),od 68 (.ldT 12 true (tm 1)),od 69 (fa 10 1),od 70 (.ldT 1 false (tm 69)),om 71 8,
 od 72 (ia 4 70 71),od 73 (.ldT 4 true (tm 72)),od 74 (fa 0 3),od 75 (.ldR 3 1 false (tm 74)),od 76 (.call 35 [(tm 68),(tm 73),(tm 75)]),od 77 (.bsl true 50 4 [(tm 76)]),oz 78 (.app false 50 4 (tm 67) (tm 77)) 25,od 79 (fa
 0 3),on (.stR 3 1 (tm 79) (tm 78))] [kp [1,2,3,5,6,8] [2,3,25,144,168]])) (.reg [om 64 8,od 65 (.bin .add (tm 64) (ki 1)),om 8 65] [kp [1,2,3,5,6,8] [2,3,25,144,168]]))) [kp [1,2,3,5,6,8] [2,3,25,144,
 168]]
def V9:IC:=.loop q4z
abbrev q50:IC:=.gh (.seq (.seq (.reg [om 83 10,om 84 6,od 85 (.bin .lss (tm 83) (tm 84))] [kp [1,2,3,5,6,9,10,85] [2,3,25,144,168]]) (.cond (tm 85) .skip (.exit 6))) (.seq (.block 7 (.reg [od 88 (fa 0 3),od 89 (.ldR 3 1 false (tm
 88)),om 90 5,om 91 10,od 92 (.bin .add (tm 90) (tm 91)),om 93 10,od 94 (fa 2 1),od 95 (.iadrA 2 1 (tm 94) (tm 93)),od 96 (.ldT 1 false (tm 95)),od 97 (.conv .i64 (tm 96)),om 98 9,od 99 (.bin .rem (tm 97) (tm 98)),od 100
 (.bsl true 3 1 [(tm 99)]),od 101 (ia 4 89 92),od 102 (fa 1 101),on (.store 1 (tm 102) (tm 100))] [kp [1,2,3,5,6,9,10] [2,3,25,144,168]])) (.reg [om 86 10,od 87 (.bin .add (tm 86) (ki 1)),om 10 87] [kp [1,2,3,5,6,
 9,10] [2,3,25,144,168]]))) [kp [1,2,3,5,6,9,10] [2,3,25,144,168]]
def Va:IC:=.loop q50
abbrev q51:IC:=.gh (.seq (.seq (.reg [om 134 11,om 135 9,od 136 (.bin .lss (tm 134) (tm 135))] [kp [1,2,3,9,11,136] [2,3,25,144,168]]) (.cond (tm 136) .skip (.exit 8))) (.seq (.block 9 (.reg [od 139 (fa 1 3),od 140 (.ldR 3 1 false (tm
 139)),om 141 11,od 142 (.call 36 [(tm 141)]),od 143 (.bsl true 9 1 [(tm 142)]),od 144 (.app false 9 1 (tm 140) (tm 143)),od 145 (fa 1 3),on (.stR 3 1 (tm 145) (tm 144))] [kp [1,2,3,9,11] [2,3,25,144,168]])) (.reg [om
 137 11,od 138 (.bin .add (tm 137) (ki 1)),om 11 138] [kp [1,2,3,9,11] [2,3,25,144,168]]))) [kp [1,2,3,9,11] [2,3,25,144,168]]
def Vb:IC:=.loop q51
abbrev q3a:IC:=.gh (.seq (.seq (.reg [om 146 12,od 147 (fa 11 1),od 148 (ld 1 147),od 149 (le 0 148),od 150 (.bin .lss (tm 146) (tm 149)),om 151 150,oT 152 (.mv (tm 12)) 151,oT 153 (.bin .lss (tm 152) (ki 3)) 151,od 154 (.pick (tm 151)
 (tm 153) kF)] [kp [1,2,3,9,12,154] [2,3,25,144,168]]) (.cond (tm 154) .skip (.exit 10))) (.seq (.block 11 (.reg [od 157 (fa 3 3),od 158 (.ldR 3 1 false (tm 157)),od 159 (fa 11 1),od 160 (.ldT 1 false (tm 159)),om 161
 12,od 162 (ia 1 160 161),od 163 (.ldT 1 false (tm 162)),od 164 (.conv .i64 (tm 163)),om 165 9,od 166 (.bin .rem (tm 164) (tm 165)),od 167 (.bsl true 3 1 [(tm 166)]),od 168 (.app false 3 1 (tm 158) (tm 167)),od 169 (fa 3 3),
 on (.stR 3 1 (tm 169) (tm 168))] [kp [1,2,3,9,12] [2,3,25,144,168]])) (.reg [om 155 12,od 156 (.bin .add (tm 155) (ki 1)),om 12 156] [kp [1,2,3,9,12] [2,3,25,144,168]]))) [kp [1,2,3,9,12] [2,3,25,144,168]]
def S7:IC:=.loop q3a
abbrev q52:IC:=(.seq (.reg [od 1 (.box true (tm 0)),od 2 (.alloc false [(.slice none 0 0),(.slice none 0 0),(.slice none 0 0),(.slice none 0 0)])] [kp [1,2] [2,25,144,168]]) (.seq (.reg [od 3 (.alloc false [(.slice none 0 0),(.slice none
 0 0),(.slice none 0 0),(.slice none 0 0)])] [.nlb 3 0 25 50 4,.nlb 3 1 144 9 1,.nlb 3 3 168 3 1,kp [1,2,3] [2,3,25,144,168]]) (.seq (.seq (.reg [od 4 (.mv (ki 0))] [kp [1,2,3,4] [2,3,25,144,168]]) (.block 0
 V7)) (.seq (.reg [od 27 (fa 0 3),od 28 (ld 1 27),od 29 (le 0 28),om 5 29] [kp [1,2,3,5] [2,3,25,144,168]]) (.seq (.reg [od 30 (fa 1 1),od 31 (ld 1 30),od 32 (.bin .rem (tm 31) (ku 3)),od 33 (.conv .i64 (tm
 32)),om 6 33] [kp [1,2,3,5,6] [2,3,25,144,168]]) (.seq (.seq (.reg [od 7 (.mv (ki 0))] [kp [1,2,3,5,6,7] [2,3,25,144,168]]) (.block 2 V8)) (.seq (.seq (.reg [od 46 (fa 5 1),od 47 (ld 1 46)] [kp [1,2,
 3,5,6,47] [2,3,25,144,168]]) (.cond (tm 47) (.reg [od 48 (fa 0 3),od 49 (ld 1 48),od 50 (.build [(1,(ku 15)),(1,kN),(1,(ki 0)),(1,(ki 0))]),od 51 (.build [(1,(ku 15)),(1,kN),(1,(ki 0)),(1,(ki 1))]),od 52
 (.bsl true 50 4 [(tm 50),(tm 51)]),oz 53 (.app false 50 4 (tm 49) (tm 52)) 25,od 54 (fa 0 3),on (.store 1 (tm 54) (tm 53))] [kp [1,2,3,5,6] [2,3,25,144,168]]) .skip)) (.seq (.seq (.reg [od 8 (.mv (ki 0))] [kp [1,2,3,
 5,6,8] [2,3,25,144,168]]) (.block 4 V9)) (.seq (.reg [od 80 (fa 0 3),od 81 (ld 1 80),od 82 (le 0 81),om 9 82] [kp [1,2,3,5,6,9] [2,3,25,144,168]]) (.seq (.seq (.reg [od 10 (.mv (ki 0))] [kp [1,2,3,5,
 6,9,10] [2,3,25,144,168]]) (.block 6 Va)) (.seq (.seq (.reg [od 103 (fa 5 1),od 104 (ld 1 103)] [kp [1,2,3,9,104] [2,3,25,144,168]]) (.cond (tm 104) (.reg [od 105 (fa 6 1),od 106 (.iadrA 4 1 (tm 105) (ki
 0)),od 107 (.ldT 1 false (tm 106)),od 108 (.conv .i64 (tm 107)),om 109 9,od 110 (.bin .rem (tm 108) (tm 109)),od 111 (.bsl true 3 1 [(tm 110)]),od 112 (fa 6 1),od 113 (.iadrA 4 1 (tm 112) (ki 1)),od 114 (.ldT 1 false (tm
 113)),od 115 (.conv .i64 (tm 114)),om 116 9,od 117 (.bin .rem (tm 115) (tm 116)),od 118 (fa 6 1),od 119 (.iadrA 4 1 (tm 118) (ki 2)),od 120 (.ldT 1 false (tm 119)),od 121 (.conv .i64 (tm 120)),om 122 9,od 123 (.bin .rem
 (tm 121) (tm 122)),od 124 (.bsl true 3 1 [(tm 117),(tm 123)]),od 125 (fa 6 1),od 126 (.iadrA 4 1 (tm 125) (ki 3)),od 127 (.ldT 1 false (tm 126)),od 128 (.conv .i64 (tm 127)),om 129 9,od 130 (.bin .rem (tm 128) (tm 129)),od
 131 (.build [(1,(tm 111)),(1,(tm 124)),(1,(tm 130))]),od 132 (.bsl true 102 3 [(tm 131)]),od 133 (fa 2 3),on (.stR 3 1 (tm 133) (tm 132))] [kp [1,2,3,9] [2,3,25,144,168]]) .skip)) (.seq (.seq (.reg [od 11 (.mv (ki
 0))] [kp [1,2,3,9,11] [2,3,25,144,168]]) (.block 8 Vb)) (.seq (.seq (.reg [od 12 (.mv (ki 0))] [kp [1,2,3,9,12] [2,3,25,144,168]]) (.block 10 S7)) (.seq (.reg [od 170 (fa 3 3),od 171 (ld 1
 170),om 172 9,od 173 (.bin .sub (tm 172) (ki 1)),od 174 (.bsl true 3 1 [(tm 173)]),oz 175 (.app false 3 1 (tm 171) (tm 174)) 168,od 176 (fa 3 3),on (.store 1 (tm 176) (tm 175))] [kp [2,3] [2,3,25,144,168]]) (.seq (.reg
 [od 177 (lG 4 3),on (.store 4 (tm 2) (tm 177))] [kp [2] [2,25,144,168]]) .ret)))))))))))))))
theorem q09 (h:∀ K:St->Prop,K=run P Γ V7 Q->run P Γ q4x (Aw K Q) s):run P Γ V7 Q s:=Ah h
theorem q0A (h:∀ K:St->Prop,K=run P Γ V8 Q->run P Γ q4y (Aw K Q) s):run P Γ V8 Q s:=Ah h
theorem q0B (h:∀ K:St->Prop,K=run P Γ V9 Q->run P Γ q4z (Aw K Q) s):run P Γ V9 Q s:=Ah h
theorem q0C (h:∀ K:St->Prop,K=run P Γ Va Q->run P Γ q50 (Aw K Q) s):run P Γ Va Q s:=Ah h
theorem q0D (h:∀ K:St->Prop,K=run P Γ Vb Q->run P Γ q51 (Aw K Q) s):run P Γ Vb Q s:=Ah h
theorem Z9 (h:∀ K:St->Prop,K=run P Γ S7 Q->run P Γ q3a (Aw K Q) s):run P Γ S7 Q s:=Ah h
def I7:List RV:=[.cell 2 4 true]
/- (probecard/probecardlaw03.C).gate (function 35) -/
abbrev q2b:IC:=.gh (.seq (.seq (.reg [om 37 12,om 38 7,od 39 (.bin .lss (tm 37) (tm 38))] [kp [2,3,4,6,7,8,9,10,11,12,39] [6,51,70,79,86,94,105,126,142,156]]) (.cond (tm 39) .skip (.exit 0))) (.seq (.block 1 (.seq (.reg [om
 42 2,om 43 12,od 44 (ia 4 42 43),od 45 (fa 0 44),od 46 (ld 1 45),od 47 (.bin .eql (tm 46) (ku 12))] [kp [2,3,4,6,7,8,9,10,11,12,47] [6,51,70,79,86,94,105,126,142,156]]) (.cond (tm 47) (.reg [om 48 11,om 49
 12,od 50 (.bsl true 3 1 [(tm 49)]),od 51 (.app false 3 1 (tm 48) (tm 50)),om 11 51] [kp [2,3,4,6,7,8,9,10,11,12] [6,51,70,79,86,94,105,126,142,156]]) .skip))) (.reg [om 40 12,od 41 (.bin .add (tm 40) (ki 1)),
 om 12 41] [kp [2,3,4,6,7,8,9,10,11,12] [6,51,70,79,86,94,105,126,142,156]]))) [kp [2,3,4,6,7,8,9,10,11,12] [6,51,70,79,86,94,105,126,142,156]]
def Pn:IC:=.loop q2b
abbrev q2c:IC:=(.seq (.reg [od 3 (.box true (tm 0)),od 4 (.box true (tm 1)),od 6 (.alloc false [(.int .u8 0),(.slice none 0 0),(.int .i64 0),(.int .i64 0)])] [kp [2,3,4,6] [6,70,79,86,94,105,126,142,156]]) (.seq (.reg [om 17 2,od
 18 (le 0 17),om 7 18] [kp [2,3,4,6,7] [6,70,79,86,94,105,126,142,156]]) (.seq (.reg [od 19 (fa 1 4),od 20 (.iadrA 3 1 (tm 19) (ki 0)),od 21 (ld 1 20),od 22 (.conv .i64 (tm 21)),om 23 7,od 24 (.bin .rem (tm 22) (tm
 23)),od 25 (fa 1 4),od 26 (.iadrA 3 1 (tm 25) (ki 1)),od 27 (ld 1 26),od 28 (.conv .i64 (tm 27)),om 29 7,od 30 (.bin .rem (tm 28) (tm 29)),od 31 (fa 1 4),od 32 (.iadrA 3 1 (tm 31) (ki 2)),od 33 (ld 1 32),od 34 (.conv .i64
 (tm 33)),om 35 7,od 36 (.bin .rem (tm 34) (tm 35)),om 8 24,om 9 30,om 10 36] [kp [2,3,4,6,7,8,9,10] [6,70,79,86,94,105,126,142,156]]) (.seq (.reg [od 11 (.mv kN)] [.nl 11 51 3 1,kp [2,3,4,6,7,8,9,10,11]
 [6,51,70,79,86,94,105,126,142,156]]) (.seq (.seq (.reg [od 12 (.mv (ki 0))] [kp [2,3,4,6,7,8,9,10,11,12] [6,51,70,79,86,94,105,126,142,156]]) (.block 0 Pn)) (.seq (.reg [od 52 (fa 0 4),od 53
 (ld 1 52),od 54 (.bin .rem (tm 53) (ku 9)),od 55 (.conv .i64 (tm 54)),om 13 55] [kp [3,4,6,8,9,10,11,13] [6,51,70,79,86,94,105,126,142,156]]) (.seq (.seq (.reg [od 56 (fa 4 3),od 57 (ld 1 56)] [kp [4,6,8,9,
 10,11,13,57] [6,51,70,79,86,94,105,126,142,156]]) (.cond (tm 57) (.reg [od 58 (fa 0 4),od 59 (ld 1 58),od 60 (.bin .rem (tm 59) (ku 13)),od 61 (.conv .i64 (tm 60)),om 13 61] [kp [4,6,8,9,10,11,13] [6,51,70,
 79,86,94,105,126,142,156]]) .skip)) (.seq (.block 2 (.seq (.reg [om 63 13,od 64 (.bin .lss (tm 63) (ki 6)),om 62 64] [kp [4,6,8,9,10,11,13,62] [6,51,70,79,86,94,105,126,142,156]]) (.cond (tm 62) (.seq (.reg
 [om 65 13,od 66 (.conv .u8 (tm 65)),od 67 (.bin .add (ku 5) (tm 66)),om 68 8,om 69 9,od 70 (.bsl false 3 1 [(tm 68),(tm 69)]),od 71 (.build [(1,(tm 67)),(1,(tm 70)),(1,(ki 0)),(1,(ki 0))]),od 14 (.alloc false [(.int
 .u8 0),(.slice none 0 0),(.int .i64 0),(.int .i64 0)]),on (.store 4 (tm 14) (tm 71))] [kp [4,6,10,14] [6,14,70,79,86,94,105,126,142,156]]) (.seq (.seq (.reg [od 72 (fa 0 4),od 73 (ld 1 72),od 74 (.bin .geq (tm 73)
 (ku 128))] [kp [6,10,14,74] [6,14,70,79,86,94,105,126,142,156]]) (.cond (tm 74) (.reg [od 75 (fa 1 14),od 76 (ld 1 75),om 77 10,od 78 (.bsl true 3 1 [(tm 77)]),od 79 (.app false 3 1 (tm 76) (tm 78)),od 80 (fa 1
 14),on (.store 1 (tm 80) (tm 79))] [kp [6,14] [6,14,70,79,86,94,105,126,142,156]]) .skip)) (.seq (.reg [od 81 (lG 4 14),on (.store 4 (tm 6) (tm 81))] [kp [6] [6,70,79,86,94,105,126,142,156]]) .ret))) (.seq (.reg
 [om 83 13,od 84 (.bin .eql (tm 83) (ki 6)),om 82 84] [kp [4,6,8,9,10,11,13,82] [6,51,70,79,86,94,105,126,142,156]]) (.cond (tm 82) (.seq (.reg [om 85 8,od 86 (.bsl false 3 1 [(tm 85)]),od 87 (.build [(1,(ku
 4)),(1,(tm 86)),(1,(ki 0)),(1,(ki 0))]),on (.store 4 (tm 6) (tm 87))] [kp [6] [6,70,79,86,94,105,126,142,156]]) .ret) (.seq (.reg [om 89 13,od 90 (.bin .eql (tm 89) (ki 7)),om 88 90] [kp [4,6,8,9,10,11,13,
 88] [6,51,70,79,86,94,105,126,142,156]]) (.cond (tm 88) (.seq (.reg [om 91 8,om 92 9,om 93 10,od 94 (.bsl false 3 1 [(tm 91),(tm 92),(tm 93)]),od 95 (.build [(1,(ku 11)),(1,(tm 94)),(1,(ki 0)),(1,(ki 0))]),on
 (.store 4 (tm 6) (tm 95))] [kp [6] [6,70,79,86,94,105,126,142,156]]) .ret) (.seq (.reg [om 97 13,od 98 (.bin .eql (tm 97) (ki 9)),om 99 98,oF 100 (.mv (tm 13)) 99,oF 101 (.bin .eql (tm 100) (ki 10)) 99,od 102 (.pick
 (tm 99) kT (tm 101)),om 96 102] [kp [4,6,8,9,11,13,96] [6,51,70,79,86,94,105,126,142,156]]) (.cond (tm 96) (.seq (.reg [om 103 8,om 104 9,od 105 (.bsl false 3 1 [(tm 103),(tm 104)]),od 106 (.build [(1,(ku 12)),
 (1,(tm 105)),(1,(ki 0)),(1,(ki 0))]),on (.store 4 (tm 6) (tm 106))] [kp [6] [6,70,79,86,94,105,126,142,156]]) .ret) (.seq (.reg [om 108 13,od 109 (.bin .gtr (tm 108) (ki 10)),om 110 109,oT 111 (.mv (tm 11)) 110,oT
 112 (le 0 111) 110,oT 113 (.bin .gtr (tm 112) (ki 0)) 110,od 114 (.pick (tm 110) (tm 113) kF),om 107 114] [kp [4,6,8,11,107] [6,51,70,79,86,94,105,126,142,156]]) (.cond (tm 107) (.seq (.reg [od 115 (fa 1 4),od 116
 (.iadrA 3 1 (tm 115) (ki 0)),od 117 (ld 1 116),od 118 (.conv .i64 (tm 117)),om 119 11,od 120 (le 0 119),od 121 (.bin .rem (tm 118) (tm 120)),om 15 121] [kp [6,11,15] [6,51,70,79,86,94,105,126,142,156]]) (.seq (.reg
 [om 122 11,om 123 15,od 124 (ia 1 122 123),od 125 (ld 1 124),od 126 (.bsl false 3 1 [(tm 125)]),od 127 (.build [(1,(ku 13)),(1,(tm 126)),(1,(ki 0)),(1,(ki 0))]),od 16 (.alloc false [(.int .u8 0),(.slice none 0 0),
 (.int .i64 0),(.int .i64 0)]),on (.store 4 (tm 16) (tm 127))] [kp [6,11,15,16] [6,16,51,70,79,86,94,105,126,142,156]]) (.seq (.seq (.reg [om 128 11,od 129 (le 0 128),od 130 (.bin .gtr (tm 129) (ki 1))] [kp [6,11,
 15,16,130] [6,16,51,70,79,86,94,105,126,142,156]]) (.cond (tm 130) (.reg [od 131 (fa 1 16),od 132 (.ldR 16 1 false (tm 131)),om 133 11,om 134 15,od 135 (.bin .add (tm 134) (ki 1)),om 136 11,od 137 (le 0 136),od
 138 (.bin .rem (tm 135) (tm 137)),od 139 (ia 1 133 138),od 140 (.ldR 51 1 false (tm 139)),od 141 (.bsl true 3 1 [(tm 140)]),od 142 (.app false 3 1 (tm 132) (tm 141)),od 143 (fa 1 16),on (.stR 16 1 (tm 143) (tm 142))] [kp [6,
 16] [6,16,70,79,86,94,105,126,142,156]]) .skip)) (.seq (.reg [od 144 (lG 4 16),on (.store 4 (tm 6) (tm 144))] [kp [6] [6,70,79,86,94,105,126,142,156]]) .ret)))) (.seq (.reg [od 146 (fa 0 4),od 147 (ld 1 146),od
 148 (.bin .gtr (tm 147) (ku 240)),om 145 148] [kp [4,6,8,145] [6,70,79,86,94,105,126,142,156]]) (.cond (tm 145) (.seq (.reg [od 149 (fa 1 4),od 150 (.iadrA 3 1 (tm 149) (ki 0)),od 151 (ld 1 150),od 152 (.bin .rem (tm
 151) (ku 2)),od 153 (.bin .add (ku 1) (tm 152)),od 154 (.build [(1,(tm 153)),(1,kN),(1,(ki 0)),(1,(ki 0))]),on (.store 4 (tm 6) (tm 154))] [kp [6] [6,70,79,86,94,105,126,142,156]]) .ret) .skip))))))))))))) (.seq
 (.reg [om 155 8,od 156 (.bsl false 3 1 [(tm 155)]),od 157 (.build [(1,(ku 3)),(1,(tm 156)),(1,(ki 0)),(1,(ki 0))]),on (.store 4 (tm 6) (tm 157))] [kp [6] [6,70,79,86,94,105,126,142,156]]) .ret)))))))))
theorem Xc (h:∀ K:St->Prop,K=run P Γ Pn Q->run P Γ q2b (Aw K Q) s):run P Γ Pn Q s:=Ah h
def Bl:List RV:=[.cell 6 4 true]
/- probecard/probecardlaw03.name (function 36) -/
abbrev q53:IC:=(.seq (.reg [od 2 (.mv (.const (sV [])))] [kp [0] []]) (.seq (.reg [om 3 0,od 4 (.bin .quo (tm 3) (ki 10)),od 5 (.bin .add (ki 48) (tm 4)),od 6 (.conv .u8 (tm 5)),om 7 0,od 8 (.bin .rem (tm 7) (ki 10)),od 9 (.bin .add (ki 48)
 (tm 8)),od 10 (.conv .u8 (tm 9)),od 11 (.bsl true 5 1 [(ku 110),(tm 6),(tm 10)]),od 12 (.bytesStr (tm 11)),om 2 12] [kp [2] []]) .ret))
def q54:List RV:=[.tmp 2]
end
end Go.Lg
namespace Go.Lg
open Go Go.Proofs
theorem qAE:Ba Tryz.prog 10 q52 178 1 I7=true:=by kernel_rfl
theorem q7z:Ba Tryz.prog 35 q2c 158 3 Bl=true:=by kernel_rfl
theorem qAF:Ba Tryz.prog 36 q53 13 1 q54=true:=by kernel_rfl
end Go.Lg
namespace Go.Lg
open Go Go.Proofs
variable {Γ:Tables}
structure Gd where
 k:Int
 a:Int
 b:Int
 d:Int
def tGd (g:Gd):List T:=[tK g.k,tK g.a,tK g.b,tK g.d]
structure CD where
 i:Int
 f:Int
 d0:Int
 d1:Int
 bus:Bool
 mem:Bool
 p0:Int
 p1:Int
 p2:Int
 p3:Int
 gates:Sl Gd
 outs:Sl Int
def P7 (x:CD):List T:=[tK x.i,tK x.f,tK x.d0,tK x.d1,tB x.bus,tB x.mem,tK x.p0,tK x.p1,tK x.p2,tK x.p3,.sl (Bc tGd x.gates.l) x.gates.cap x.gates.nl,.sl (Au tK x.outs.l) x.outs.cap x.outs.nl]
def Byt (n:Int):Prop:=0<=n/\n<=255
def qCm (g:Gd):Prop:=Byt g.k/\Byt g.a/\Byt g.b/\Byt g.d
def q16 (i:Nat):List UInt8:=[110,UInt8.ofNat (48+i / 10),UInt8.ofNat (48+i % 10)]
theorem qHl (i:Nat) (hi:i<100):A8 Tryz.prog Γ 36 [tI i] (tS (q16 i)):=by
 refine Ae qAF rfl ?_
 have h1:(i:Int).tdiv 10=((i / 10:Nat):Int):=by rw[Int.tdiv_eq_ediv_of_nonneg (by omega)];omega
 have h2:(i:Int).tmod 10=((i % 10:Nat):Int):=by rw[Int.tmod_eq_emod_of_nonneg (by omega)];omega
 have h3:i / 10<10:=by omega
 have h4:i % 10<10:=by omega
 generalize hq:i / 10=q at *
 generalize hr:i % 10=r at *
 have e1:(48+(q:Int)).toNat=48+q:=by omega
 have e2:(48+(r:Int)).toNat=48+r:=by omega
 simp(disch:=omega) [q53,sV,h1,h2,A7,C7,Pi]
 simp[q54,q16,hq,hr,tS,sV,e1,e2]
def q5y (nodes:List Nd):List Int:=N8 [12] nodes 0
def qC1 (bus:Bool) (g:Gd) (a b d:Int) (t:List Int):Nd :=
 let kind:=if bus then g.k.tmod 13 else g.k.tmod 9
 if kind<6 then⟨5+kind,if 128<=g.k then⟨[a,b,d],none,none⟩ else⟨[a,b],none,none⟩,0,0⟩
 else if kind=6 then⟨4,⟨[a],none,none⟩,0,0⟩
 else if kind=7 then⟨11,⟨[a,b,d],none,none⟩,0,0⟩
 else if kind=9\/kind=10 then⟨12,⟨[a,b],none,none⟩,0,0⟩
 else if 10<kind/\0<t.length then
  let k:=g.a.tmod t.length
  ⟨13,if 1<t.length then⟨[t.getD k.toNat 0,t.getD ((k+1).tmod t.length).toNat 0],none,none⟩ else⟨[t.getD k.toNat 0],none,none⟩,0,0⟩
 else if 240<g.k then⟨1+g.a.tmod 2,⟨[],some 0,some true⟩,0,0⟩
 else⟨3,⟨[a],none,none⟩,0,0⟩
def q3b (bus:Bool) (g:Gd) (nodes:List Nd):Nd:=qC1 bus g (g.a.tmod nodes.length) (g.b.tmod nodes.length) (g.d.tmod nodes.length) (q5y nodes)
theorem qC2 {Q:AX->St->Prop} (nodes:List Nd) (cap:Option Nat) (nl:Option Bool) (hl:nodes.length<=100) (a3 a4 a8 a9 a10:T) (r6:List T)
  (h0:Q (.exit 0) ⟨[(2,.t (.sl (Bc Dl nodes) cap nl)),(3,.t a3),(4,.t a4),(6,.lp 6 0 0),(7,.t (tI nodes.length)),(8,.t a8),(9,.t a9),(10,.t a10),(11,.ls 51 0 (q5y nodes).length none),(12,.t (tI nodes.length)),(39,.t (tB false))],[(6,.bx (r6.map AV.t)),(51,.sl 3 1 (Af (q5y nodes)))]⟩):∀ (k i:Nat),k+i=nodes.length ->
  run Tryz.prog Γ Pn Q ⟨[(2,.t (.sl (Bc Dl nodes) cap nl)),(3,.t a3),(4,.t a4),(6,.lp 6 0 0),(7,.t (tI nodes.length)),(8,.t a8),(9,.t a9),(10,.t a10),(11,.ls 51 0 (q5y (nodes.take i)).length none),(12,.t (tI i))],[(6,.bx (r6.map AV.t)),(51,.sl 3 1 (Af (q5y (nodes.take i))))]⟩
 | 0,i,h=>by
  refine Xc fun K hK=>?_
  have h2:¬ i<nodes.length:=by omega
  have h3:i=nodes.length:=by omega
  simp[h2]
  subst h3
  simpa using h0
 | k+1,i,h=>by
  refine Xc fun K hK=>?_
  have h2:i<nodes.length:=by omega
  have ht:nodes.take (i+1)=nodes.take i++[nodes[i]]:=by rw[xz7];simp[h2]
  have hlen:=q06 [12] (nodes.take i) 0
  have htl:(nodes.take i).length=i:=by simp;omega
  have hal:q5y (nodes.take (i+1))=if nodes[i].k=12 then q5y (nodes.take i)++[(i:Int)]else q5y (nodes.take i):=by
   simp only[q5y]
   rw[ht,q6b,htl]
   simp only[N8,xjc,List.contains_cons,List.contains_nil,Bool.or_false,qKp,xqu]
   split<;>simp
  have ih:=qC2 nodes cap nl hl a3 a4 a8 a9 a10 r6 h0 k (i+1) (by omega)
  rw[hal]at ih
  simp only[q5y]at ih ⊢
  by_cases h5:nodes[i].k=12
  ·rw[if_pos h5]at ih
   have hw:Em 1 [[tI (i:Int)]]:=by intro e he;simp at he;subst he;rfl
   simp(disch:=omega) [h2,Ab,Es Nd.d,Bq,Dl,As,h5,A7,A6,A9,hw]
   rw[hK]
   simp at ih
   rw[E0 (f:=tI) (x:=(i:Int))]
   exact⟨by omega,ih⟩
  ·rw[if_neg h5]at ih
   simp(disch:=omega) [h2,Ab,Es Nd.d,Bq,Dl,As,h5,A7]
   rw[hK]
   simpa using ih
theorem Dm {a:Int} {n:Nat} (h0:0<=a) (h1:0<n):0<=a.tmod n/\a.tmod n<n:=by
 rw[Int.tmod_eq_emod_of_nonneg h0]
 exact⟨Int.emod_nonneg _ (by omega),Int.emod_lt_of_pos _ (by omega)⟩
theorem Da {ty s:Nat} {es:List (List T)}:Ru (.sl ty s es)=∀ e∈es,∀ t∈e,Ax t=true:=rfl
set_option maxHeartbeats 4000000 in
theorem qHm (x:CD) (g:Gd) (hg:qCm g) (nodes:List Nd) (cap:Option Nat) (nl:Option Bool) (h0:1<=nodes.length) (h1:nodes.length<=100) :
  A8 Tryz.prog Γ 35 [.agg (P7 x),.agg (tGd g),.sl (Bc Dl nodes) cap nl] (.agg (Dl (q3b x.bus g nodes))):=by
 refine Ae q7z rfl ?_
 obtain⟨⟨hk0,hk1⟩,⟨ha0,ha1⟩,⟨hb0,hb1⟩,⟨hd0,hd1⟩⟩:=hg
 have hn0:¬ (nodes.length:Int)=0:=by omega
 have hn1:(nodes.length:Int)≠0:=by omega
 have hne:¬ nodes=[]:=fun e=>by subst e;simp at h0
 have hlp:=fun Q a3 a4 a8 a9 a10 r6 h0=>qC2 (Γ:=Γ) (Q:=Q) nodes cap nl h1 a3 a4 a8 a9 a10 r6 h0 nodes.length 0 (by omega)
 have ht:=q06 [12] nodes 0
 simp only[q5y,List.take_zero,N8,xq9,Gy]at hlp
 simp(disch:=omega) [q2c,P7,tGd,Ab,A7,hn0]
 refine⟨hne,hlp _ _ _ _ _ _ [_,_,_,_] ?_⟩
 clear hlp
 unfold q3b
 simp only[q5y]
 generalize N8 [12] nodes 0=t at *
 have m13:0<=g.k.tmod 13/\g.k.tmod 13<13:=Dm (n:=13) hk0 (by omega)
 have m9:0<=g.k.tmod 9/\g.k.tmod 9<9:=Dm (n:=9) hk0 (by omega)
 have ma:0<=g.a.tmod 2/\g.a.tmod 2<2:=Dm (n:=2) ha0 (by omega)
 generalize g.a.tmod nodes.length=a
 generalize g.b.tmod nodes.length=b
 generalize g.d.tmod nodes.length=d
 unfold qC1
 cases x.bus
 ·generalize hkk:g.k.tmod 9=kk at *
  by_cases k1:kk<6
  ·by_cases k2:128<=g.k
   ·simp(disch:=omega) [hkk,k1,k2,A7,C7,By,Bl,Dl,As,Au,Em,Ai,Da]
   ·simp(disch:=omega) [hkk,k1,k2,A7,C7,By,Bl,Dl,As,Au,Em,Ai,Da]
  by_cases k3:kk=6
  ·simp(disch:=omega) [hkk,k1,k3,A7,C7,By,Bl,Dl,As,Au,Em,Ai,Da]
  by_cases k4:kk=7
  ·simp(disch:=omega) [hkk,k1,k4,A7,C7,By,Bl,Dl,As,Au,Em,Ai,Da]
  have k5:kk=8:=by omega
  by_cases k6:240<g.k
  ·simp(disch:=omega) [hkk,k5,k6,A7,C7,By,Bl,Dl,As,Au,Em,Ai,Da]
  ·simp(disch:=omega) [hkk,k5,k6,A7,C7,By,Bl,Dl,As,Au,Em,Ai,Da]
 ·generalize hkk:g.k.tmod 13=kk at *
  by_cases k1:kk<6
  ·by_cases k2:128<=g.k
   ·simp(disch:=omega) [hkk,k1,k2,A7,C7,By,Bl,Dl,As,Au,Em,Ai,Da]
   ·simp(disch:=omega) [hkk,k1,k2,A7,C7,By,Bl,Dl,As,Au,Em,Ai,Da]
  by_cases k3:kk=6
  ·simp(disch:=omega) [hkk,k1,k3,A7,C7,By,Bl,Dl,As,Au,Em,Ai,Da]
  by_cases k4:kk=7
  ·simp(disch:=omega) [hkk,k1,k4,A7,C7,By,Bl,Dl,As,Au,Em,Ai,Da]
  by_cases k8:kk=9
  ·simp(disch:=omega) [hkk,k8,A7,C7,By,Bl,Dl,As,Au,Em,Ai,Da]
  by_cases k9:kk=10
  ·simp(disch:=omega) [hkk,k9,A7,C7,By,Bl,Dl,As,Au,Em,Ai,Da]
  by_cases k10:10<kk/\0<t.length
  ·obtain⟨k11,k10⟩:=k10
   have htn:¬ (t.length:Int)=0:=by omega
   have htne:¬ t=[]:=fun e=>by subst e;simp at k10
   have htp:(0:Int)<t.length:=by omega
   have mt:=Dm (n:=t.length) ha0 k10
   generalize hq:g.a.tmod t.length=q at *
   have mt2:=Dm (a:=q+1) (n:=t.length) (by omega) k10
   have hq0:q.toNat<t.length:=by omega
   generalize hq2:(q+1).tmod t.length=q2 at *
   have hq20:q2.toNat<t.length:=by omega
   have e1:=D8 (f:=tI) 0 hq0
   have e2:=D8 (f:=tI) 0 hq20
   by_cases k12:1<t.length
   ·have k12':(1:Int)<t.length:=by omega
    simp(disch:=omega) [hkk,k1,k3,k4,k8,k9,k11,k10,htp,htn,k12,k12',hq,hq2,e1,e2,hq0,hq20,mt.1,mt.2,mt2.1,mt2.2,htne,A6,A9,A7,C7,By,Dl,As,Ai,Da,Bl]
    simp[Em,Au]
   ·have k12':¬ (1:Int)<t.length:=by omega
    simp(disch:=omega) [hkk,k1,k3,k4,k8,k9,k11,k10,htp,htn,k12,k12',hq,hq2,e1,e2,hq0,hq20,mt.1,mt.2,mt2.1,mt2.2,htne,A6,A9,A7,C7,By,Dl,As,Ai,Da,Bl]
    simp[Em,Au]
  ·by_cases k11:10<kk
   ·have k10':t=[]:=xqo (by omega)
    subst k10'
    by_cases k6:240<g.k
    ·simp(disch:=omega) [hkk,k1,k3,k4,k8,k9,k11,k6,A7,C7,By,Bl,Dl,As,Au,Em,Ai,Da]
    ·simp(disch:=omega) [hkk,k1,k3,k4,k8,k9,k11,k6,A7,C7,By,Bl,Dl,As,Au,Em,Ai,Da]
   ·have k5:kk=8:=by omega
    by_cases k6:240<g.k
    ·simp(disch:=omega) [hkk,k5,k6,A7,C7,By,Bl,Dl,As,Au,Em,Ai,Da]
    ·simp(disch:=omega) [hkk,k5,k6,A7,C7,By,Bl,Dl,As,Au,Em,Ai,Da]
def q35:T:=.sl [] (some 0) (some true)
def Un (nodes:List Nd) (names:List (List UInt8)) (m:T) (outs:List Int):List (Nat×B9) :=
 [(2,.bx [.t q35,.t q35,.t q35,.t q35]),(3,.bx [.ls 25 0 nodes.length none,.ls 144 0 names.length none,.t m,.ls 168 0 outs.length none]),(25,.sl 50 4 (Bc Dl nodes)),(144,.sl 9 1 (Au tS names)),(168,.sl 3 1 (Af outs))]
def q92:Nd:=⟨0,⟨[],some 0,some true⟩,0,0⟩
def q80 (l:Int):Nd:=⟨14,⟨[l],some 1,some false⟩,0,0⟩
def q5z (b:Int):Nd:=⟨15,⟨[],some 0,some true⟩,0,b⟩
theorem qC3 {Q:AX->St->Prop} (x:CD) (hx:Byt x.i) (R:List Nd)
  (h0:Q (.exit 0) ⟨[(1,.t (.ip (P7 x) 0)),(2,.lp 2 0 0),(3,.lp 3 0 0),(4,.t (tI (x.i.tmod 4+1))),(18,.t (tB false))],Un R [] q35 []⟩):∀ (k:Nat) (i:Int) (ns:List Nd),k+i=x.i.tmod 4+1->ns++List.replicate k q92=R->ns.length+k<=100 ->
  run Tryz.prog Γ V7 Q ⟨[(1,.t (.ip (P7 x) 0)),(2,.lp 2 0 0),(3,.lp 3 0 0),(4,.t (tI i))],Un ns [] q35 []⟩
 | 0,i,ns,h,hR,hl=>by
  refine q09 fun K hK=>?_
  have m4:0<=x.i.tmod 4/\x.i.tmod 4<4:=Dm (n:=4) hx.1 (by omega)
  have h2:¬ i<=x.i.tmod 4:=by omega
  have h3:i=x.i.tmod 4+1:=by omega
  simp only[List.replicate_zero,List.append_nil]at hR
  subst hR
  simp(disch:=omega) [h2,P7,Un,A7,C7]
  subst h3
  simpa[P7,Un]using h0
 | k+1,i,ns,h,hR,hl=>by
  refine q09 fun K hK=>?_
  have m4:0<=x.i.tmod 4/\x.i.tmod 4<4:=Dm (n:=4) hx.1 (by omega)
  have h2:i<=x.i.tmod 4:=by omega
  have ih:=qC3 x hx R h0 k (i+1) (ns++[q92]) (by omega) (by rw[<- hR];simp[List.replicate_succ]) (by simp;omega)
  have q:Bc Dl ns++[[tK 0,.sl [] (some 0) (some true),tI 0,tI 0]]=Bc Dl (ns++[q92]):=q0z (f:=Dl) (x:=q92)
  have hw4:Em 4 [[tK 0,.sl [] (some 0) (some true),tI 0,tI 0]]:=by intro e he;simp at he;subst he;rfl
  have ht:(Bc Dl ns).take ns.length=Bc Dl ns:=xqw (by simp[Bc])
  simp(disch:=omega) [h2,P7,Un,A7,C7,Ab,hw4,Bq,ht,q]
  rw[hK]
  simp[P7,Un]at ih
  exact⟨by omega,ih⟩
theorem qGP {Q:AX->St->Prop} (x:CD) (hx:Byt x.f) (first:Int) (R:List Nd)
  (h0:Q (.exit 2) ⟨[(1,.t (.ip (P7 x) 0)),(2,.lp 2 0 0),(3,.lp 3 0 0),(5,.t (tI first)),(6,.t (tI (x.f.tmod 3))),(7,.t (tI (x.f.tmod 3))),(36,.t (tB false))],Un R [] q35 []⟩):∀ (k:Nat) (i:Int) (ns:List Nd),k+i=x.f.tmod 3->ns++List.replicate k (q80 0)=R->ns.length+k<=100 ->
  run Tryz.prog Γ V8 Q ⟨[(1,.t (.ip (P7 x) 0)),(2,.lp 2 0 0),(3,.lp 3 0 0),(5,.t (tI first)),(6,.t (tI (x.f.tmod 3))),(7,.t (tI i))],Un ns [] q35 []⟩
 | 0,i,ns,h,hR,hl=>by
  refine q0A fun K hK=>?_
  have m3:0<=x.f.tmod 3/\x.f.tmod 3<3:=Dm (n:=3) hx.1 (by omega)
  have h2:¬ i<x.f.tmod 3:=by omega
  have h3:i=x.f.tmod 3:=by omega
  simp only[List.replicate_zero,List.append_nil]at hR
  subst hR
  simp(disch:=omega) [h2,P7,Un,A7,C7]
  subst h3
  simpa[P7,Un]using h0
 | k+1,i,ns,h,hR,hl=>by
  refine q0A fun K hK=>?_
  have m3:0<=x.f.tmod 3/\x.f.tmod 3<3:=Dm (n:=3) hx.1 (by omega)
  have h2:i<x.f.tmod 3:=by omega
  have ih:=qGP x hx first R h0 k (i+1) (ns++[q80 0]) (by omega) (by rw[<- hR];simp[List.replicate_succ]) (by simp;omega)
  have q:Bc Dl ns++[[tK 14,.sl [[tI 0]] (some 1) (some false),tI 0,tI 0]]=Bc Dl (ns++[q80 0]):=q0z (f:=Dl) (x:=q80 0)
  have hw4:Em 4 [[tK 14,.sl [[tI 0]] (some 1) (some false),tI 0,tI 0]]:=by intro e he;simp at he;subst he;rfl
  have ht:(Bc Dl ns).take ns.length=Bc Dl ns:=xqw (by simp[Bc])
  simp(disch:=omega) [h2,P7,Un,A7,C7,Ab,hw4,Bq,ht,q]
  rw[hK]
  simp[P7,Un]at ih
  exact⟨by omega,ih⟩
def Qa (bus:Bool):List Gd->List Nd->List Nd
 | [],ns=>ns
 | g::l,ns=>Qa bus l (ns++[q3b bus g ns])
theorem qKx {l:List Gd}:Em 4 (Bc tGd l):=q0y fun _=>rfl
def Gd.z:Gd:=⟨0,0,0,0⟩
theorem qDw {Q:AX->St->Prop} (x:CD) (hx:∀ g∈x.gates.l,qCm g) (first dffs:Int) (R:List Nd)
  (h0:Q (.exit 4) ⟨[(1,.t (.ip (P7 x) 0)),(2,.lp 2 0 0),(3,.lp 3 0 0),(5,.t (tI first)),(6,.t (tI dffs)),(8,.t (tI (min x.gates.l.length 8:Nat))),(63,.t (tB false))],Un R [] q35 []⟩):∀ (k i:Nat) (ns:List Nd),k+i=min x.gates.l.length 8->Qa x.bus ((x.gates.l.take 8).drop i) ns=R->1<=ns.length->ns.length+k<=100 ->
  run Tryz.prog Γ V9 Q ⟨[(1,.t (.ip (P7 x) 0)),(2,.lp 2 0 0),(3,.lp 3 0 0),(5,.t (tI first)),(6,.t (tI dffs)),(8,.t (tI i))],Un ns [] q35 []⟩
 | 0,i,ns,h,hR,hl1,hl=>by
  refine q0B fun K hK=>?_
  rw[xq2 (by simp;omega)]at hR
  simp only[Qa]at hR
  subst hR
  have hi:i=min x.gates.l.length 8:=by omega
  by_cases h2:i<x.gates.l.length
  ·have h3:¬ (i:Int)<8:=by omega
   have h3':¬ i<8:=by omega
   simp(disch:=omega) [h2,h3,h3',P7,Un,Ab]
   subst hi
   simpa[P7,Un]using h0
  ·simp(disch:=omega) [h2,P7,Un,Ab]
   subst hi
   simpa[P7,Un]using h0
 | k+1,i,ns,h,hR,hl1,hl=>by
  refine q0B fun K hK=>?_
  have h2:i<x.gates.l.length:=by omega
  have h3:i<8:=by omega
  have h3':(i:Int)<8:=by omega
  rw[xqq (by simp;omega)]at hR
  simp only[Qa,List.getElem_take]at hR
  have ih:=qDw x hx first dffs R h0 k (i+1) (ns++[q3b x.bus x.gates.l[i] ns]) (by omega) hR (by simp) (by simp;omega)
  have hg:=qHm (Γ:=Γ) x x.gates.l[i] (hx _ (xqj h2)) ns none none hl1 (by omega)
  generalize q3b x.bus x.gates.l[i] ns=gn at *
  have q:Bc Dl ns++[Dl gn]=Bc Dl (ns++[gn]):=q0z (f:=Dl) (x:=gn)
  have hw4:Em 4 [Dl gn]:=by intro e he;simp at he;subst he;rfl
  have ht:(Bc Dl ns).take ns.length=Bc Dl ns:=xqw (by simp[Bc])
  have hget:=Es (f:=tGd) Gd.z h2
  simp(disch:=omega) [h2,h3,h3',P7,Un,A7,Ab,hget,qKx,tGd]
  refine A4 hg (by simp[Ai,P7,ht,tGd]) ?_
  simp[Dl]at q hw4
  simp(disch:=omega) [Dl,A7,Ab,hw4,Bq,ht,q]
  rw[hK]
  simp[P7,Un]at ih
  exact⟨rfl,by omega,ih⟩
def ddN (x:CD) (i:Nat):Int:=if i=0 then x.d0 else x.d1
def Xd (ns:List Nd) (j:Nat) (v:Int):List Nd:=ns.set j ⟨(ns.getD j Nd.d).k,⟨[v],some 1,some false⟩,(ns.getD j Nd.d).mem,(ns.getD j Nd.d).bit⟩
def q17 (x:CD) (first:Nat):Nat->Nat->List Nd->List Nd
 | 0,_,ns=>ns
 | k+1,i,ns=>q17 x first k (i+1) (Xd ns (first+i) ((ddN x i).tmod ns.length))
theorem Qr {ns:List Nd} {j:Nat} {v:Int}:(Xd ns j v).length=ns.length:=by simp[Xd]
theorem q81 {x:CD} {f:Nat}:∀ {k i:Nat} {ns:List Nd},(q17 x f k i ns).length=ns.length
 | 0,_,_=>rfl
 | k+1,i,ns=>by simp only[q17];rw[q81,Qr]
theorem qNM {ns:List Nd} {j:Nat} {v:Int} (hj:j<ns.length):(Bc Dl ns).set j (((Bc Dl ns)[j]?.getD []).take 1++T.sl [[tI v]] (some 1) (some false)::((Bc Dl ns)[j]?.getD []).drop 2)=Bc Dl (Xd ns j v):=by
 rw[Es (f:=Dl) Nd.d hj]
 unfold Xd Bc
 rw[List.map_set]
 rfl
theorem qGQ {Q:AX->St->Prop} (x:CD) (h0':Byt x.d0) (h1':Byt x.d1) (first dn n:Nat) (hdn:dn<=2) (hn:1<=n/\n<=100) (hf:first+dn<=n) (R:List Nd)
  (h0:Q (.exit 6) ⟨[(1,.t (.ip (P7 x) 0)),(2,.lp 2 0 0),(3,.lp 3 0 0),(5,.t (tI first)),(6,.t (tI dn)),(9,.t (tI n)),(10,.t (tI dn)),(85,.t (tB false))],Un R [] q35 []⟩):∀ (k i:Nat) (ns:List Nd),k+i=dn->q17 x first k i ns=R->ns.length=n ->
  run Tryz.prog Γ Va Q ⟨[(1,.t (.ip (P7 x) 0)),(2,.lp 2 0 0),(3,.lp 3 0 0),(5,.t (tI first)),(6,.t (tI dn)),(9,.t (tI n)),(10,.t (tI i))],Un ns [] q35 []⟩
 | 0,i,ns,h,hR,hl=>by
  refine q0C fun K hK=>?_
  simp only[q17]at hR
  subst hR
  have h2:¬ i<dn:=by omega
  have h3:i=dn:=by omega
  simp(disch:=omega) [h2,P7,Un]
  subst h3
  simpa[P7,Un]using h0
 | k+1,i,ns,h,hR,hl=>by
  refine q0C fun K hK=>?_
  have h2:i<dn:=by omega
  simp only[q17]at hR
  have ih:=qGQ x h0' h1' first dn n hdn hn hf R h0 k (i+1) _ (by omega) hR (by rw[Qr];exact hl)
  have hi:i=0\/i=1:=by omega
  have hj:first+i<ns.length:=by omega
  have hn0:¬ (n:Int)=0:=by omega
  have hget:=Es (f:=Dl) Nd.d hj
  obtain⟨h01,h02⟩:=h0'
  obtain⟨h11,h12⟩:=h1'
  have hs:=fun v=>qNM (v:=v) hj
  have hn':¬ n=0:=by omega
  have hfi:first+i<n:=by omega
  rcases hi with rfl|rfl
  ·have hdd:ddN x 0=x.d0:=rfl
   have h2':(0:Int)<dn:=by omega
   rw[hdd,hl]at ih
   simp only[xzp]at hs hfi ih
   simp(disch:=omega) [h2,h2',P7,Un,A7,Ab,Bq,hn0,hl,hs,hn',hfi]
   rw[hK]
   simp[P7,Un,Qr,hl]at ih
   exact ih
  ·have hdd:ddN x 1=x.d1:=rfl
   have h2':(1:Int)<dn:=by omega
   rw[hdd,hl]at ih
   have hfn:((first:Int)+1).toNat=first+1:=by omega
   have hfi':(first:Int)+1<n:=by omega
   simp(disch:=omega) [h2,h2',P7,Un,A7,Ab,Bq,hn0,hl,hs,hn',hfi,hfn,hfi']
   rw[hK]
   simp[P7,Un,Qr,hl]at ih
   exact⟨by omega,ih⟩
theorem qDx {Q:AX->St->Prop} (x:CD) (n:Nat) (hn:n<=100) (ns:List Nd) (m:T) (R:List (List UInt8))
  (h0:Q (.exit 8) ⟨[(1,.t (.ip (P7 x) 0)),(2,.lp 2 0 0),(3,.lp 3 0 0),(9,.t (tI n)),(11,.t (tI n)),(136,.t (tB false))],Un ns R m []⟩):∀ (k i:Nat) (nms:List (List UInt8)),k+i=n->nms++(List.range' i k).map q16=R->nms.length=i ->
  run Tryz.prog Γ Vb Q ⟨[(1,.t (.ip (P7 x) 0)),(2,.lp 2 0 0),(3,.lp 3 0 0),(9,.t (tI n)),(11,.t (tI i))],Un ns nms m []⟩
 | 0,i,nms,h,hR,hl=>by
  refine q0D fun K hK=>?_
  simp only[List.range'_zero,xq3,List.append_nil]at hR
  subst hR
  have h2:¬ i<n:=by omega
  have h3:i=n:=by omega
  simp(disch:=omega) [h2,P7,Un]
  subst h3
  simpa[P7,Un]using h0
 | k+1,i,nms,h,hR,hl=>by
  refine q0D fun K hK=>?_
  have h2:i<n:=by omega
  rw[List.range'_succ,xqm]at hR
  have ih:=qDx x n hn ns m R h0 k (i+1) (nms++[q16 i]) (by omega) (by rw[<- hR];simp) (by simp;omega)
  have e:=qHl (Γ:=Γ) i (by omega)
  have q:Au tS nms++[[tS (q16 i)]]=Au tS (nms++[q16 i]):=E0
  have ht:(Au tS nms).take i=Au tS nms:=xqw (by simp[Au];omega)
  generalize q16 i=nm at *
  have hw:Em 1 [[tS nm]]:=by intro e he;simp at he;subst he;rfl
  simp(disch:=omega) [h2,P7,Un,A7,hl]
  refine A4 e rfl ?_
  simp only[tS,sV]at q hw
  simp(disch:=omega) [tS,sV,A7,A6,hw,A9,ht,q,hl]
  rw[hK]
  simp[P7,Un,hl]at ih
  exact⟨by omega,ih⟩
theorem qGR {Q:AX->St->Prop} (x:CD) (hx:∀ b∈x.outs.l,Byt b) (n:Nat) (hn:1<=n/\n<=100) (ns:List Nd) (nms:List (List UInt8)) (m:T) (R:List Int)
  (h0:Q (.exit 10) ⟨[(1,.t (.ip (P7 x) 0)),(2,.lp 2 0 0),(3,.lp 3 0 0),(9,.t (tI n)),(12,.t (tI (min x.outs.l.length 3:Nat))),(154,.t (tB false))],Un ns nms m R⟩):∀ (k i:Nat) (os:List Int),k+i=min x.outs.l.length 3->os++((x.outs.l.take 3).drop i).map (fun b=>b.tmod n)=R->os.length=i ->
  run Tryz.prog Γ S7 Q ⟨[(1,.t (.ip (P7 x) 0)),(2,.lp 2 0 0),(3,.lp 3 0 0),(9,.t (tI n)),(12,.t (tI i))],Un ns nms m os⟩
 | 0,i,os,h,hR,hl=>by
  refine Z9 fun K hK=>?_
  rw[xq2 (by simp;omega)]at hR
  simp only[xq3,List.append_nil]at hR
  subst hR
  have hi:i=min x.outs.l.length 3:=by omega
  by_cases h2:i<x.outs.l.length
  ·have h3:¬ (i:Int)<3:=by omega
   have h3':¬ i<3:=by omega
   simp(disch:=omega) [h2,h3,h3',P7,Un,A6]
   subst hi
   simpa[P7,Un]using h0
  ·simp(disch:=omega) [h2,P7,Un,A6]
   subst hi
   simpa[P7,Un]using h0
 | k+1,i,os,h,hR,hl=>by
  refine Z9 fun K hK=>?_
  have h2:i<x.outs.l.length:=by omega
  have h3:i<3:=by omega
  have h3':(i:Int)<3:=by omega
  rw[xqq (by simp;omega)]at hR
  simp only[xqm,List.getElem_take]at hR
  have hb:=hx _ (xqj h2)
  obtain⟨hb0,hb1⟩:=hb
  have hget:=D8 (f:=tK) 0 h2
  have hg2:x.outs.l[i]?.getD 0=x.outs.l[i]:=by simp[h2]
  rw[hg2]at hget
  generalize x.outs.l[i]=b at *
  have hn0:¬ (n:Int)=0:=by omega
  have hn0':¬ n=0:=by omega
  have ih:=qGR x hx n hn ns nms m R h0 k (i+1) (os++[b.tmod n]) (by omega) (by rw[<- hR];simp) (by simp;omega)
  have q:Au tI os++[[tI (b.tmod n)]]=Au tI (os++[b.tmod n]):=E0
  have ht:(Au tI os).take i=Au tI os:=xqw (by simp[Au];omega)
  have hw:Em 1 [[tI (b.tmod n)]]:=by intro e he;simp at he;subst he;rfl
  simp(disch:=omega) [h2,h3,h3',P7,Un,A7,A6,A9,hget,hn0,hn0',hw,ht,q,hl]
  rw[hK]
  simp[P7,Un,hl]at ih
  exact⟨by omega,ih⟩
def J3 (x:CD):List Nd:=List.replicate (x.i.tmod 4+1).toNat q92
def Gk (x:CD):List Nd:=J3 x++List.replicate (x.f.tmod 3).toNat (q80 0)
def Fp (x:CD):List Nd:=if x.mem then Gk x++[q5z 0,q5z 1]else Gk x
def Dh (x:CD):List Nd:=Qa x.bus (x.gates.l.take 8) (Fp x)
def Et (x:CD):List Nd:=q17 x (J3 x).length (x.f.tmod 3).toNat 0 (Dh x)
def qAG (x:CD) (n:Int):List Mm:=if x.mem then[⟨⟨[x.p0.tmod n],some 1,some false⟩,⟨[x.p1.tmod n,x.p2.tmod n],some 2,some false⟩,x.p3.tmod n⟩] else[]
def Po (x:CD):Bi :=
 ⟨⟨Et x,none,none⟩,⟨(List.range' 0 (Dh x).length).map q16,none,none⟩,⟨qAG x (Dh x).length,some (if x.mem then 1 else 0),some (!x.mem)⟩,⟨(x.outs.l.take 3).map (fun b=>b.tmod (Dh x).length)++[((Dh x).length:Int)-1],none,none⟩⟩
structure q4l (x:CD):Prop where
 i:Byt x.i
 f:Byt x.f
 d0:Byt x.d0
 d1:Byt x.d1
 p0:Byt x.p0
 p1:Byt x.p1
 p2:Byt x.p2
 p3:Byt x.p3
 gates:∀ g∈x.gates.l,qCm g
 outs:∀ b∈x.outs.l,Byt b
theorem q28 {bus:Bool}:∀ {l:List Gd} {ns:List Nd},(Qa bus l ns).length=ns.length+l.length
 | [],ns=>rfl
 | g::l,ns=>by simp only[Qa];rw[q28];simp;omega
set_option maxHeartbeats 4000000 in
theorem qKy (x:CD) (hx:q4l x):Az Tryz.prog Γ 10 [.agg (P7 x)] (.agg (tC (Po x))):=by
 refine Bz qAE rfl ?_
 have m4:0<=x.i.tmod 4/\x.i.tmod 4<4:=Dm (n:=4) hx.i.1 (by omega)
 have m3:0<=x.f.tmod 3/\x.f.tmod 3<3:=Dm (n:=3) hx.f.1 (by omega)
 have l1:(J3 x).length=(x.i.tmod 4+1).toNat:=by simp[J3]
 have l2:(Gk x).length=(x.i.tmod 4+1).toNat+(x.f.tmod 3).toNat:=by simp[Gk,J3]
 have l3:(Gk x).length<=(Fp x).length/\(Fp x).length<=8:=by unfold Fp;split<;>simp<;>omega
 have l4:(Dh x).length=(Fp x).length+min 8 x.gates.l.length:=by unfold Dh;rw[q28];simp
 have l5:(Et x).length=(Dh x).length:=q81
 have e1:=fun Q h0=>qC3 (Γ:=Γ) (Q:=Q) x hx.i (J3 x) h0 (x.i.tmod 4+1).toNat 0 [] (by omega) rfl (by simp;omega)
 have e2:=fun Q h0=>qGP (Γ:=Γ) (Q:=Q) x hx.f (J3 x).length (Gk x) h0 (x.f.tmod 3).toNat 0 (J3 x) (by omega) rfl (by omega)
 have e3:=fun Q h0=>qDw (Γ:=Γ) (Q:=Q) x hx.gates (J3 x).length (x.f.tmod 3) (Dh x) h0 (min x.gates.l.length 8) 0 (Fp x) (by omega) rfl (by omega) (by omega)
 have e4:=fun Q h0=>qGQ (Γ:=Γ) (Q:=Q) x hx.d0 hx.d1 (J3 x).length (x.f.tmod 3).toNat (Dh x).length (by omega) (by omega) (by omega) (Et x) h0 (x.f.tmod 3).toNat 0 (Dh x) (by omega) rfl rfl
 have e5:=fun Q m h0=>qDx (Γ:=Γ) (Q:=Q) x (Dh x).length (by omega) (Et x) m _ h0 (Dh x).length 0 [] (by omega) rfl rfl
 have e6:=fun Q nms m h0=>qGR (Γ:=Γ) (Q:=Q) x hx.outs (Dh x).length (by omega) (Et x) nms m _ h0 (min x.outs.l.length 3) 0 [] (by omega) rfl rfl
 have hc:((x.f.tmod 3).toNat:Int)=x.f.tmod 3:=by omega
 rw[hc]at e4
 have hk1:=fun{s:Nat} {e:List (List T)} {n:Nat} (h:e.length<=n)=>xqw h
 have a33:∀ {os:List Int},Au tI os++[[tI (((Dh x).length:Int)-1)]]=Au tI (os++[((Dh x).length:Int)-1]):=E0
 have hw1:Em 1 [[tI (((Dh x).length:Int)-1)]]:=by intro e he;simp at he;subst he;rfl
 have hol:((x.outs.l.take 3).map (fun b=>b.tmod ((Dh x).length:Int))).length=min 3 x.outs.l.length:=by simp
 have hnl:((List.range' 0 (Dh x).length).map q16).length=(Dh x).length:=by simp
 simp only[List.nil_append,xzt]at e5 e6
 generalize hN:Dh x=N4 at *
 generalize hO:(x.outs.l.take 3).map (fun b=>b.tmod (N4.length:Int))=O at *
 generalize hNm:(List.range' 0 N4.length).map q16=Nm at *
 simp(config:={ maxSteps:=2000000 }) [q52,P7]
 refine e1 _ ?_
 simp(config:={ maxSteps:=2000000 }) (disch:=omega) [P7,Un,A7,C7,Ab]
 refine e2 _ ?_
 cases hm:x.mem
 ·have h3:Fp x=Gk x:=by simp[Fp,hm]
  rw[h3]at e3 l3 l4
  simp only[P7,Un,hm]at e3 e4 e5 e6
  simp(config:={ maxSteps:=2000000 }) (disch:=omega) [P7,Un,A7,C7,Ab,A6,q3N,Bq,A9,hm]
  refine e3 _ ?_
  simp(config:={ maxSteps:=2000000 }) (disch:=omega) [P7,Un,A7,C7,Ab,A6,q3N,Bq,A9,hm]
  refine e4 _ ?_
  simp(config:={ maxSteps:=2000000 }) (disch:=omega) [P7,Un,A7,C7,Ab,A6,q3N,Bq,A9,hm]
  refine e5 _ _ ?_
  simp(config:={ maxSteps:=2000000 }) (disch:=omega) [P7,Un,A7,C7,Ab,A6,q3N,Bq,A9,hm]
  refine e6 _ _ _ ?_
  have ht:(Au tI O).take O.length=Au tI O:=xqw (by simp[Au])
  simp(config:={ maxSteps:=2000000 }) (disch:=omega) [P7,Un,A7,C7,Ab,A6,q3N,Bq,A9,hm,ht,hw1,a33,I7,Ai,q35]
  have ht2:(Au tI (O++[(N4.length:Int)-1])).take (O.length+1)=Au tI (O++[(N4.length:Int)-1]):=xqw (by simp[Au])
  refine⟨by omega,?_⟩
  rw[ht2]
  simp[tC,Po,qAG,hm,Aa,Ad,Ag,As,hN,hO,hNm,Bc]
 ·have h3:Fp x=Gk x++[q5z 0,q5z 1]:=by simp[Fp,hm]
  have l3':(Fp x).length=(Gk x).length+2:=by rw[h3];simp
  have q:Bc Dl (Gk x)++[[tK 15,.sl [] (some 0) (some true),tI 0,tI 0],[tK 15,.sl [] (some 0) (some true),tI 0,tI 1]]=Bc Dl (Fp x):=by rw[h3];simp[Bc,q5z,Dl,As,Au]
  have hw4:Em 4 [[tK 15,.sl [] (some 0) (some true),tI 0,tI 0],[tK 15,.sl [] (some 0) (some true),tI 0,tI 1]]:=by intro e he;simp at he;rcases he with rfl|rfl<;>rfl
  have ht0:(Bc Dl (Gk x)).take (Gk x).length=Bc Dl (Gk x):=xqw (by simp[Bc])
  have ht:(Au tI O).take O.length=Au tI O:=xqw (by simp[Au])
  have hn0:¬ (N4.length:Int)=0:=by omega
  have hn0':¬ N4=[]:=fun e=>by rw[e]at l4;simp at l4;omega
  obtain⟨b00,b01⟩:=hx.p0
  obtain⟨b10,b11⟩:=hx.p1
  obtain⟨b20,b21⟩:=hx.p2
  obtain⟨b30,b31⟩:=hx.p3
  simp only[P7,Un,hm]at e3 e4 e5 e6
  simp(config:={ maxSteps:=2000000 }) (disch:=omega) [P7,Un,A7,C7,Ab,A6,Bq,A9,hm,ht,ht0,hw1,hw4,q,hn0,hn0',a33,I7,Ai,q35]
  refine⟨by omega,?_⟩
  rw[<- l3']
  refine e3 _ ?_
  simp(config:={ maxSteps:=2000000 }) (disch:=omega) [P7,Un,A7,C7,Ab,A6,Bq,A9,hm,ht,ht0,hw1,hw4,q,hn0,hn0',a33,I7,Ai,q35]
  refine e4 _ ?_
  simp(config:={ maxSteps:=2000000 }) (disch:=omega) [P7,Un,A7,C7,Ab,A6,Bq,A9,hm,ht,ht0,hw1,hw4,q,hn0,hn0',a33,I7,Ai,q35]
  refine e5 _ _ ?_
  simp(config:={ maxSteps:=2000000 }) (disch:=omega) [P7,Un,A7,C7,Ab,A6,Bq,A9,hm,ht,ht0,hw1,hw4,q,hn0,hn0',a33,I7,Ai,q35]
  refine e6 _ _ _ ?_
  simp(config:={ maxSteps:=2000000 }) (disch:=omega) [P7,Un,A7,C7,Ab,A6,Bq,A9,hm,ht,ht0,hw1,hw4,q,hn0,hn0',a33,I7,Ai,q35]
  have ht2:(Au tI (O++[(N4.length:Int)-1])).take (O.length+1)=Au tI (O++[(N4.length:Int)-1]):=xqw (by simp[Au])
  refine⟨by omega,?_⟩
  rw[ht2]
  simp[tC,Po,qAG,hm,Aa,Ad,Ag,As,hN,hO,hNm,Bc,tMm,Au]
def q60 (x:Nd):Prop:=(0<=x.k/\x.k<=255)/\x.inn.l.length<=1000000000
theorem qIr {bus:Bool} {g:Gd} {a b d:Int} {t:List Int} (hg:qCm g):q60 (qC1 bus g a b d t):=by
 have m13:0<=g.k.tmod 13/\g.k.tmod 13<13:=Dm (n:=13) hg.1.1 (by omega)
 have m9:0<=g.k.tmod 9/\g.k.tmod 9<9:=Dm (n:=9) hg.1.1 (by omega)
 have ma:0<=g.a.tmod 2/\g.a.tmod 2<2:=Dm (n:=2) hg.2.1.1 (by omega)
 have hk:0<=(if bus then g.k.tmod 13 else g.k.tmod 9)/\(if bus then g.k.tmod 13 else g.k.tmod 9)<13:=by cases bus<;>simp<;>omega
 unfold qC1
 simp only
 generalize (if bus=true then g.k.tmod 13 else g.k.tmod 9)=kk at *
 unfold q60
 split
 ·refine⟨⟨by simp;omega,by simp;omega⟩,?_⟩
  simp only;split<;>simp
 split
 ·simp
 split
 ·simp
 split
 ·simp
 split
 ·simp only;split<;>simp
 split
 ·simp;omega
 ·simp
theorem qC4 {bus:Bool}:∀ {l:List Gd} {ns:List Nd},(∀ g∈l,qCm g)->(∀ x∈ns,q60 x)->∀ x∈Qa bus l ns,q60 x
 | [],ns,_,h=>h
 | g::l,ns,hg,h=>by
  simp only[Qa]
  refine qC4 (fun y hy=>hg y (xqf _ hy)) fun y hy=>?_
  rcases xzg.1 hy with hy|hy
  ·exact h y hy
  ·simp at hy;subst hy;exact qIr (hg g xqh)
theorem qIs {ns:List Nd} {j:Nat} {v:Int} (h:∀ x∈ns,q60 x):∀ x∈Xd ns j v,q60 x:=by
 intro x hx
 unfold Xd at hx
 rcases xz9 hx with hx|rfl
 ·exact h x hx
 ·refine⟨?_,by simp⟩
  simp only[xqe]
  by_cases hj:j<ns.length
  ·simp only[xqg hj,xzy]
   exact(h _ (xqj hj)).1
  ·simp[List.getElem?_eq_none (Nat.le_of_not_lt hj),Nd.d]
theorem qDy {c:CD} {f:Nat}:∀ {k i:Nat} {ns:List Nd},(∀ x∈ns,q60 x)->∀ x∈q17 c f k i ns,q60 x
 | 0,_,_,h=>h
 | k+1,i,ns,h=>by simp only[q17];exact qDy (qIs h)
theorem qHn {x:CD} (hx:q4l x):∀ n∈Et x,q60 n:=by
 have h1:∀ n∈J3 x,q60 n:=fun n hn=>by rw[(List.mem_replicate.1 hn).2];simp[q60,q92]
 have h2:∀ n∈Gk x,q60 n:=fun n hn=>by
  rcases xzg.1 hn with hn|hn
  ·exact h1 n hn
  ·rw[(List.mem_replicate.1 hn).2];simp[q60,q80]
 have h3:∀ n∈Fp x,q60 n:=by
  unfold Fp
  split
  ·intro n hn
   rcases xzg.1 hn with hn|hn
   ·exact h2 n hn
   ·simp at hn;rcases hn with rfl|rfl<;>simp[q60,q5z]
  ·exact h2
 exact qDy (qC4 (fun g hg=>hx.gates g (xz6 hg)) h3)
theorem q29 {x:CD} (hx:q4l x):1<=(Dh x).length/\(Dh x).length<=16:=by
 have m4:0<=x.i.tmod 4/\x.i.tmod 4<4:=Dm (n:=4) hx.i.1 (by omega)
 have m3:0<=x.f.tmod 3/\x.f.tmod 3<3:=Dm (n:=3) hx.f.1 (by omega)
 have l2:(Gk x).length=(x.i.tmod 4+1).toNat+(x.f.tmod 3).toNat:=by simp[Gk,J3]
 have l3:(Gk x).length<=(Fp x).length/\(Fp x).length<=8:=by unfold Fp;split<;>simp<;>omega
 have l4:(Dh x).length=(Fp x).length+min 8 x.gates.l.length:=by unfold Dh;rw[q28];simp
 omega
theorem q2A {x:CD} (hx:q4l x):(Et x).length=(Dh x).length:=q81
theorem qIt {x:CD} (hx:q4l x):COk (Po x):=by
 have l:=q29 hx
 have l5:=q2A hx
 have hn:=qHn hx
 refine⟨⟨?_,?_,?_,?_,fun n h=>(hn n h).1,fun n h=>(hn n h).2,?_⟩,?_⟩
 ·simp only[Po];omega
 ·simp[Po];omega
 ·simp only[Po,qAG];split<;>simp
 ·simp[Po];omega
 ·intro m hm
  simp only[Po,qAG]at hm
  split at hm
  ·simp at hm;subst hm;simp
  ·cases hm
 ·intro s hs b hb
  simp only[Po]at hs
  obtain⟨i,hi,rfl⟩:=xqy.1 hs
  have:=(List.mem_range'_1.1 hi).2
  have h1:i / 10<10:=by omega
  have h2:i % 10<10:=by omega
  have key:∀ q:Nat,q<10->UInt8.ofNat (48+q)<128:=by decide
  simp only[q16,xqv,xz2,or_false]at hb
  rcases hb with rfl|rfl|rfl
  ·decide
  ·exact key _ h1
  ·exact key _ h2
end Go.Lg
namespace Go.Lg
open Go Go.Proofs Go.Proofs.YtafhjckfgmcphaaGreatDoor
def G0 (g:Nat):Option (List T):=if g=0 then some qHc else none
theorem qQY:GOk G0:=rfl
theorem qPT:Tryz.prog.globalNamed "probecard/logic.fanins" = some 0:=by kernel_rfl
theorem qNN:(Tryz.prog.globals[0]?).map (·.type)=some 231:=by kernel_rfl
theorem qNO:Tryz.prog.cellsOf 3=1:=by kernel_rfl
theorem qIu:Tryz.prog.cellsOf 4=1:=by kernel_rfl
theorem q3c:Tryz.prog.cellsOf 5=1:=by kernel_rfl
theorem qGS:Tryz.prog.cellsOf 22=2:=by kernel_rfl
theorem qGT:Tryz.prog.cellsOf 23=4:=by kernel_rfl
theorem qKz:Tryz.prog.cellsOf 24=1:=by kernel_rfl
theorem qCn:Tryz.prog.cellsOf 25=1:=by kernel_rfl
theorem qL0:Tryz.prog.cellsOf 27=12:=by kernel_rfl
theorem qGU:Tryz.prog.cellsOf 98=3:=by kernel_rfl
theorem qDz:Tryz.prog.cellsOf 100=4:=by kernel_rfl
theorem qIv:Tryz.prog.cellsOf 230=2:=by kernel_rfl
theorem qIw:Tryz.prog.cellsOf 231=32:=by kernel_rfl
theorem qHo {W:World} (h:laidMet Tryz.prog [("probecard/logic.fanins",Rows.laid_probecard_logic_fanins)] W):∀ j,j<32->W.cell? ⟨0,j,none⟩=(Uk.flatMap fun x=>[Value.int .i64 x.1,Value.int .i64 x.2])[j]? := by
 obtain⟨ps,⟨g',t',cs,fuel,p,q,hg',ht',hvar,hd,_,_⟩,_⟩:=h
 obtain rfl:=Option.some.inj (qPT.symm.trans hg')
 obtain rfl:=Option.some.inj (qNN.symm.trans ht')
 have hc:=qFL (l:=Uk) Tryz.underlying231 Tryz.underlying230 Tryz.underlying3 qNO qIv qIw hd
 intro j hj
 have:=World.var?_cell qPT hvar j
 rw[this,<- hc]
 simp
theorem qNP {W:World} (h:laidMet Tryz.prog [("probecard/logic.fanins",Rows.laid_probecard_logic_fanins)] W):Gl G0 W (Old W):=by
 have hc:=qHo h
 intro g cs hg
 unfold G0 at hg
 split at hg
 case isFalse=>cases hg
 rename_i h0;subst h0
 simp only[xqa]at hg
 subst hg
 have hlen:(Uk.flatMap fun x=>[Value.int .i64 x.1,Value.int .i64 x.2]).length=32:=rfl
 have hfc:qHc=(Uk.flatMap fun x=>[Value.int .i64 x.1,Value.int .i64 x.2]).map T.v:=rfl
 have hfl:qHc.length=32:=rfl
 refine .ip qHc 0 0 0 (fun j=>(Uk.flatMap fun x=>[Value.int .i64 x.1,Value.int .i64 x.2])[j]?.getD .nilFunc) ?_ ?_ ?_ ?_
 ·intro j hj
  rw[xjc,hc j (by omega)]
  rw[xqg (by omega)];rfl
 ·intro j t ht
  rw[hfc,xqr,xqb]at ht
  obtain⟨v,hv,rfl⟩:=ht
  simp only[hv,xzy]
  exact .v v
 ·intro j t ht
  rw[hfc,xqr,xqb]at ht
  obtain⟨v,hv,rfl⟩:=ht
  have hm:=xqp hv
  obtain⟨x,_,hx⟩:=List.mem_flatMap.1 hm
  simp at hx
  rcases hx with rfl|rfl<;>rfl
 ·have:=hc 0 (by omega)
  rw[xqg (by omega)]at this
  exact qGL this
theorem qNQ {n:Int} (h:(Lit.int .u8 n).wf=true):Byt n:=by
 simp[Lit.wf,IntKind.min,IntKind.max,IntKind.signed,IntKind.bits]at h
 exact⟨h.1,by omega⟩
theorem qE0:Rd Tryz.prog 5 fun ts=>∃ n,ts=[tK n]/\Byt n:=(qNG Tryz.underlying5).mono fun ts ⟨n,h,hw⟩=>⟨n,h,qNQ hw⟩
theorem q6h {α:Type} {f:α->List T} {Q:α->Prop}:∀ {es:List (List T)},(∀ x∈es,∃ a,x=f a/\Q a)->∃ l:List α,es=l.map f/\∀ a∈l,Q a
 | [],_=>⟨[],rfl,by simp⟩
 | e::es,h=>by
  obtain⟨a,ha,hq⟩:=h e xqh
  obtain⟨l,hl,hql⟩:=q6h fun x hx=>h x (xqf _ hx)
  exact⟨a::l,by rw[ha,hl];rfl,fun b hb=>by rcases xqv.1 hb with rfl|hb;exact hq;exact hql b hb⟩
theorem qQU:Rd Tryz.prog 100 fun ts=>∃ g,ts=tGd g/\qCm g:=by
 refine(q7t (l:=[(1,fun ts=>∃ n,ts=[tK n]/\Byt n),(3,q8Z (List.replicate 3 (1,fun ts=>∃ n,ts=[tK n]/\Byt n)))]) Tryz.underlying100 qDz (.cons rfl q3c qE0 (.cons rfl qGU (qA0 Tryz.underlying98 q3c qGU qE0) (.nil _)))).mono fun ts h=>?_
 obtain⟨_,_,rfl,⟨k,rfl,hk⟩,_,_,rfl,⟨_,_,rfl,⟨a,rfl,ha⟩,_,_,rfl,⟨b,rfl,hb⟩,_,_,rfl,⟨d,rfl,hd⟩,rfl⟩,rfl⟩:=h
 exact⟨⟨k,a,b,d⟩,rfl,hk,ha,hb,hd⟩
theorem qQV:Rd Tryz.prog 27 fun ts=>∃ x,ts=P7 x/\q4l x:=by
 refine(q7t (l:=[(1,fun ts=>∃ n,ts=[tK n]/\Byt n),(1,fun ts=>∃ n,ts=[tK n]/\Byt n),(2,q8Z (List.replicate 2 (1,fun ts=>∃ n,ts=[tK n]/\Byt n))),(1,fun ts=>∃ b,ts=[tB b]),(1,fun ts=>∃ b,ts=[tB b]),(4,q8Z (List.replicate 4 (1,fun ts=>∃ n,ts=[tK n]/\Byt n))),(1,_),(1,_)]) Tryz.underlying27 qL0
  (.cons rfl q3c qE0 (.cons rfl q3c qE0 (.cons rfl qGS (qA0 Tryz.underlying22 q3c qGS qE0) (.cons rfl qIu (qGM Tryz.underlying4) (.cons rfl qIu (qGM Tryz.underlying4) (.cons rfl qGT (qA0 Tryz.underlying23 q3c qGT qE0)
   (.cons rfl qKz (q6V Tryz.underlying24 qDz (by decide) qQU) (.cons rfl qCn (q6V Tryz.underlying25 q3c (by decide) qE0) (.nil _)))))))))).mono fun ts h=>?_
 obtain⟨_,_,rfl,⟨i,rfl,hi⟩,_,_,rfl,⟨f,rfl,hf⟩,_,_,rfl,⟨_,_,rfl,⟨d0,rfl,hd0⟩,_,_,rfl,⟨d1,rfl,hd1⟩,rfl⟩,_,_,rfl,⟨bus,rfl⟩,_,_,rfl,⟨mem,rfl⟩,_,_,rfl,
  ⟨_,_,rfl,⟨p0,rfl,h0⟩,_,_,rfl,⟨p1,rfl,h1⟩,_,_,rfl,⟨p2,rfl,h2⟩,_,_,rfl,⟨p3,rfl,h3⟩,rfl⟩,_,_,rfl,⟨es,cap,nl,rfl,_,hes⟩,_,_,rfl,⟨os,cap2,nl2,rfl,_,hos⟩,rfl⟩:=h
 obtain⟨gs,rfl,hgs⟩:=q6h (f:=tGd) (Q:=qCm) fun x hx=>(hes x hx).1
 obtain⟨ol,rfl,hol⟩:=q6h (f:=fun n=>[tK n]) (Q:=Byt) fun x hx=>(hos x hx).1
 exact⟨⟨i,f,d0,d1,bus,mem,p0,p1,p2,p3,⟨gs,cap,nl⟩,⟨ol,cap2,nl2⟩⟩,rfl,⟨hi,hf,hd0,hd1,h0,h1,h2,h3,hgs,hol⟩⟩
end Go.Lg
namespace Go.Proofs.YtafhjckfgmcphaaGreatDoor
open Go Go.Lg Go.ChangeShapes Go.WideShapes Go.ChangeAt Go.RowKit
theorem own:ownKnob Tryz.prog.godebug=none:=by kernel_rfl
theorem qQJ:laidOutB Tryz.prog=true:=by kernel_rfl
theorem qQZ {W:World} (h:laidMetH Tryz.prog [("probecard/logic.fanins",Rows.laid_probecard_logic_fanins)] W):Gl G0 W (Old W):=by
 rw[MakeChecks.laidMetH_plain _ _ _ (by kernel_rfl)]at h
 exact qNP h
theorem qQK {H:Type} {enc:TypeId×Value->H} {W:World} {base:Nat} {v:Value} {d:DataW H} {p:List MemPlace} (hval:Value.okWide Tryz.prog W .any base 27 v) (h:DataW.Trod enc Tryz.prog W 0 (fun _=>true) true 27 v d p):∃ x,q4l x/\TR W (Old W) (.agg (P7 x)) v:=by
 simp only[Value.okWide,Tryz.underlying27]at hval
 obtain⟨cs,rfl,_,_⟩:=hval
 obtain⟨fuel,hf⟩:=h
 obtain⟨ts,⟨x,rfl,hx⟩,htr,ho⟩:=qQV H enc W true fuel _ _ hf
 exact⟨x,hx,qNH htr ho⟩
noncomputable def qOd (os:Os):World :=
 { World.holding Tryz.prog os ⟨#[],#[],[]⟩with heap:=(World.holding Tryz.prog os ⟨#[],#[],[]⟩).heap.modify 0 fun
   | .cells _ t frozen=>.cells (Uk.flatMap fun x=>[Value.int .i64 x.1,Value.int .i64 x.2]).toArray t frozen
   | o=>o }
def c0:Value:=.agg #[.int .u8 0,.int .u8 0,.int .u8 0,.int .u8 0,.bool false,.bool false,.int .u8 0,.int .u8 0,.int .u8 0,.int .u8 0,.slice none 0 0,.slice none 0 0]
def d0 {H:Type}:DataW H:=.agg [.lit (.int .u8 0),.lit (.int .u8 0),.agg [.lit (.int .u8 0),.lit (.int .u8 0)],.lit (.bool false),.lit (.bool false),.agg [.lit (.int .u8 0),.lit (.int .u8 0),.lit (.int .u8 0),.lit (.int .u8 0)],.nil,.nil]
end Go.Proofs.YtafhjckfgmcphaaGreatDoor
namespace Go.Lg
open Go Go.Proofs
def Za (v:Int):Int:=if v<2 then v else 2
def F4 (v:Int):Int:=if 3<v then 2 else v
def q61 (v:Int):Bool:=decide (v<=1)
def qIx (a b:Int):Bool:=decide (F4 a=F4 b\/F4 a=2)
def P8 (v:Int):Int:=if v<=1 then 1-v else 2
def M6 (low high:Int):Int->List Int->Int
 | out,[]=>out
 | out,v::l=>if v=low then low else if v≠high then M6 low high 2 l else M6 low high out l
def qFT (a b:Int):Int:=if a=b then 0 else 1
def Y3:Int->List Int->Int
 | out,[]=>out
 | out,v::l=>if v<=1 then Y3 (qFT out v) l else 2
def qBJ (s a b:Int):Int:=if s=0 then Za a else if s=1 then Za b else if a=b then Za a else 2
def qCo (e d:Int):Int:=if e=0 then 3 else if e=1 then Za d else 2
def q3d (l:List Int):Bool:=l.contains 0&&l.contains 1
def qE1 (v:Int):Bool:=decide (F4 v=2)
def qE2 (v:Int):Bool:=decide (v≠3)
def q82 (l:List Int):Int:=match l.findIdx? qE2 with
 | none=>3
 | some i=>if q3d l=true\/l.any qE1=true then 2 else l.getD i 0
def E8 (k:Int) (l:List Int):Int :=
 if k=1 then 0 else if k=2 then 1 else if k=3 then Za (l.getD 0 0)else if k=4 then P8 (l.getD 0 0) else
 if k=5 then M6 0 1 1 l else if k=6 then P8 (M6 0 1 1 l)else if k=7 then M6 1 0 0 l else if k=8 then P8 (M6 1 0 0 l) else
 if k=9 then Y3 0 l else if k=10 then P8 (Y3 0 l)else if k=11 then qBJ (l.getD 0 0) (l.getD 1 0) (l.getD 2 0) else
 if k=12 then qCo (l.getD 0 0) (l.getD 1 0)else if k=13 then q82 l else 2
def I8 (k:Int) (n:Nat):Bool:=decide ((n:Int)<(Oy k).1\/(Oy k).2<(n:Int))
def Gs (k:Int) (l:List Int):Int:=if I8 k l.length=true then 2 else E8 k l
theorem qHp (R:Int->Int->Prop) {k:Int} {l m:List Int} (h1:k=1->R (0) (0)) (h2:k=2->R (1) (1)) (h3:k=3->R (Za (l.getD 0 0)) (Za (m.getD 0 0))) (h4:k=4->R (P8 (l.getD 0 0)) (P8 (m.getD 0 0))) (h5:k=5->R (M6 0 1 1 l) (M6 0 1 1 m)) (h6:k=6->R (P8 (M6 0 1 1 l)) (P8 (M6 0 1 1 m))) (h7:k=7->R (M6 1 0 0 l) (M6 1 0 0 m)) (h8:k=8->R (P8 (M6 1 0 0 l)) (P8 (M6 1 0 0 m))) (h9:k=9->R (Y3 0 l) (Y3 0 m)) (h10:k=10->R (P8 (Y3 0 l)) (P8 (Y3 0 m))) (h11:k=11->R (qBJ (l.getD 0 0) (l.getD 1 0) (l.getD 2 0)) (qBJ (m.getD 0 0) (m.getD 1 0) (m.getD 2 0))) (h12:k=12->R (qCo (l.getD 0 0) (l.getD 1 0)) (qCo (m.getD 0 0) (m.getD 1 0))) (h13:k=13->R (q82 l) (q82 m)) (h0:k<1\/13<k->R 2 2):R (E8 k l) (E8 k m):=by
 by_cases e1:k=1
 ·subst e1;exact h1 rfl
 by_cases e2:k=2
 ·subst e2;exact h2 rfl
 by_cases e3:k=3
 ·subst e3;exact h3 rfl
 by_cases e4:k=4
 ·subst e4;exact h4 rfl
 by_cases e5:k=5
 ·subst e5;exact h5 rfl
 by_cases e6:k=6
 ·subst e6;exact h6 rfl
 by_cases e7:k=7
 ·subst e7;exact h7 rfl
 by_cases e8:k=8
 ·subst e8;exact h8 rfl
 by_cases e9:k=9
 ·subst e9;exact h9 rfl
 by_cases e10:k=10
 ·subst e10;exact h10 rfl
 by_cases e11:k=11
 ·subst e11;exact h11 rfl
 by_cases e12:k=12
 ·subst e12;exact h12 rfl
 by_cases e13:k=13
 ·subst e13;exact h13 rfl
 unfold E8
 rw[if_neg e1,if_neg e2,if_neg e3,if_neg e4,if_neg e5,if_neg e6,if_neg e7,if_neg e8,if_neg e9,if_neg e10,if_neg e11,if_neg e12,if_neg e13]
 rw[if_neg e1,if_neg e2,if_neg e3,if_neg e4,if_neg e5,if_neg e6,if_neg e7,if_neg e8,if_neg e9,if_neg e10,if_neg e11,if_neg e12,if_neg e13]
 exact h0 (by omega)
def V4 (v:Int):Prop:=0<=v/\v<=3
theorem q6i {v:Int} (h:V4 v):V4 (Za v):=by unfold Za V4 at *;split<;>omega
theorem qCp {v:Int} (h:V4 v):V4 (P8 v):=by unfold P8 V4 at *;split<;>omega
theorem Vx {low high:Int}:∀ {l:List Int} {out:Int},out=2\/out=high->M6 low high out l=if low∈l then low else if out=high/\∀ v∈l,v=high then high else 2
 | [],out,h=>by
  simp only[M6,xz2,if_false]
  by_cases ho:out=high
  ·simp[ho]
  ·simp[ho];omega
 | v::l,out,h=>by
  simp only[M6]
  by_cases h1:v=low
  ·subst h1;simp
  have h1':¬ low=v:=fun e=>h1 e.symm
  by_cases h2:v=high
  ·subst h2
   rw[if_neg h1,if_neg (by simp),Vx h]
   simp[h1']
  ·rw[if_neg h1,if_pos h2,Vx (.inl rfl)]
   by_cases hl:low∈l
   ·simp[hl]
   ·have:¬ (out=high/\∀ u∈v::l,u=high):=fun⟨_,h⟩=>h2 (h v xqh)
    have hlv:¬ low∈v::l:=by simp[h1',hl]
    rw[if_neg hl,if_neg hlv,if_neg this]
    split
    ·rename_i h3;exact h3.1.symm
    ·rfl
theorem qFU:∀ {l:List Int} {out:Int},V4 out->(∀ v∈l,V4 v)->V4 (Y3 out l)
 | [],out,h,_=>h
 | v::l,out,h,hl=>by
  simp only[Y3]
  split
  ·exact qFU (by unfold qFT;split<;>simp[V4]) fun u hu=>hl u (xqf _ hu)
  ·simp[V4]
theorem q2B {l:List Int} (h:∀ v∈l,V4 v) (i:Nat):V4 (l.getD i 0):=by
 rw[xqe]
 by_cases hi:i<l.length
 ·rw[xqg hi];exact h _ (xqj hi)
 ·rw[List.getElem?_eq_none (Nat.le_of_not_lt hi)];simp[V4]
theorem qCq {k:Int} {l:List Int} (h:∀ v∈l,V4 v):V4 (Gs k l):=by
 have g:=q2B h
 have d1:V4 (M6 0 1 1 l):=by rw[Vx (.inr rfl)];split;simp[V4];split<;>simp[V4]
 have d2:V4 (M6 1 0 0 l):=by rw[Vx (.inr rfl)];split;simp[V4];split<;>simp[V4]
 have x:=qFU (out:=0) (by simp[V4]) h
 unfold Gs
 by_cases hw:I8 k l.length=true
 ·rw[if_pos hw];simp[V4]
 rw[if_neg hw]
 refine qHp (fun a _=>V4 a) (l:=l) (m:=l) (fun _=>by simp[V4]) (fun _=>by simp[V4]) (fun _=>q6i (g 0)) (fun _=>qCp (g 0)) (fun _=>d1) (fun _=>qCp d1) (fun _=>d2) (fun _=>qCp d2) (fun _=>x) (fun _=>qCp x) (fun _=>?_) (fun _=>?_) (fun _=>?_) (fun _=>by simp[V4])
 ·unfold qBJ;split
  ·exact q6i (g 1)
  split
  ·exact q6i (g 2)
  split
  ·exact q6i (g 1)
  ·simp[V4]
 ·unfold qCo;split
  ·simp[V4]
  split
  ·exact q6i (g 1)
  ·simp[V4]
 ·unfold q82;split
  ·simp[V4]
  split
  ·simp[V4]
  ·exact g _
def Blw (a b:Int):Prop:=a=b\/a=2
def qBK (l m:List Int):Prop:=l.length=m.length/\∀ i,Blw (l.getD i 0) (m.getD i 0)
theorem Blw.refl (a:Int):Blw a a:=.inl rfl
theorem qBK.cons {a b:Int} {l m:List Int} (h:qBK (a::l) (b::m)):Blw a b/\qBK l m :=
 ⟨by simpa using h.2 0,by simpa using h.1,fun i=>by simpa using h.2 (i+1)⟩
theorem qBK.eq:∀ {l m:List Int},qBK l m->(2:Int)∉l->l=m
 | [],[],_,_=>rfl
 | [],_::_,h,_=>by have:=h.1;simp at this
 | _::_,[],h,_=>by have:=h.1;simp at this
 | a::l,b::m,h,h2=>by
  obtain⟨hab,hlm⟩:=h.cons
  rcases hab with rfl|rfl
  ·rw[qBK.eq hlm fun hm=>h2 (xqf _ hm)]
  ·exact absurd xqh h2
def Rl (i:Nat) (r:M8):Nat:=r.countP fun p=>decide (p.1=(i:Int))
theorem qIy {i:Nat} {r q:M8}:Rl i (r++q)=Rl i r+Rl i q:=by simp[Rl]
theorem qFV {rows:List M8} {n m i:Nat} {p:Int×Int} (hn:n<rows.length):Rl i ((J2 rows n p).getD m [])=Rl i (rows.getD m [])+if m=n/\p.1=(i:Int)then 1 else 0:=by
 unfold J2
 simp only[xqe,xzb]
 by_cases h:n=m
 ·subst h
  simp only[hn,if_true,xzy,qIy,true_and]
  congr 1
  by_cases h2:p.1=(i:Int)<;>simp[Rl,h2]
 ·have h':¬ m=n:=fun e=>h e.symm
  simp[h,h']
theorem q8h (c:Bi) (j i m:Nat):∀ (l:List Int) (k:Nat) (rows:List M8),rows.length=c.nodes.l.length->(∀ p∈l,0<=p/\p<c.nodes.l.length)->(Ll c j l k rows).length=c.nodes.l.length/\Rl i ((Ll c j l k rows).getD m [])=Rl i (rows.getD m [])+if j=i then l.count (m:Int)else 0
 | [],k,rows,hl,_=>⟨hl,by simp[Ll]⟩
 | n::l,k,rows,hl,hp=>by
  have hn:=hp n xqh
  have ho:S5 c n=false:=by simp[S5];omega
  simp only[Ll,ho,xqn,if_false]
  obtain⟨h1,h2⟩:=q8h c j i m l (k+1) (J2 rows n.toNat (j,k)) (by rw[q5s];exact hl) (fun p h=>hp p (xqf _ h))
  refine⟨h1,?_⟩
  rw[h2,qFV (by omega)]
  by_cases hji:j=i
  ·subst hji
   simp only[and_true,if_true,List.count_cons]
   by_cases hm:(m:Int)=n
   ·have h5:m=n.toNat:=by omega
    have h6:(n==(m:Int))=true:=by rw[hm];simp
    rw[if_pos h5,h6]
    simp only[if_true];omega
   ·have h5:¬ m=n.toNat:=by omega
    have h6:(n==(m:Int))=false:=by simp;omega
    rw[if_neg h5,h6]
    simp only[xqn,if_false];omega
  ·have:¬ ((j:Int)=i):=by omega
   simp[hji,this]
theorem q6j (c:Bi) (i m:Nat):∀ (l:List Nd) (s:Nat) (rows:List M8),rows.length=c.nodes.l.length->(∀ x∈l,∀ p∈x.inn.l,0<=p/\p<c.nodes.l.length) ->
  Rl i ((Hr c l s rows).getD m [])=Rl i (rows.getD m [])+if s<=i then((l.map fun x=>x.inn.l.count (m:Int)).getD (i-s) 0)else 0
 | [],s,rows,hl,_=>by simp[Hr]
 | x::l,s,rows,hl,hp=>by
  obtain⟨h1,h2⟩:=q8h c s i m x.inn.l 0 rows hl (hp x xqh)
  simp only[Hr]
  rw[q6j c i m l (s+1) _ h1 (fun y hy=>hp y (xqf _ hy)),h2]
  by_cases hsi:s=i
  ·subst hsi
   have:¬ s+1<=s:=by omega
   simp[this]
  ·by_cases hlt:s<=i
   ·have e:i-s=(i-(s+1))+1:=by omega
    have h3:s+1<=i:=by omega
    simp[hsi,hlt,h3,e]
   ·have h3:¬ s+1<=i:=by omega
    simp[hsi,hlt,h3]
def D4 (c:Bi) (i:Nat):List Int:=(c.nodes.l.getD i Nd.d).inn.l
theorem q19 (c:Bi) (hp:∀ x∈c.nodes.l,∀ p∈x.inn.l,0<=p/\p<c.nodes.l.length) (i m:Nat) (hi:i<c.nodes.l.length):Rl i (Ej c m)=(D4 c i).count (m:Int):=by
 unfold Ej B6
 rw[q6j c i m c.nodes.l 0 _ (by simp) hp]
 have h0:Rl i ((List.replicate c.nodes.l.length ([]:M8)).getD m [])=0:=by
  simp only[xqe,xz3]
  split<;>rfl
 rw[h0]
 simp[D4,hi]
theorem qGV (c:Bi) {i:Nat} (hi:i<c.nodes.l.length):(c.nodes.l.map leftOf).getD i 0=if C2 (Aj c i) then((D4 c i).length:Int)else 0:=by
 simp[Aj,D4,leftOf,hi]
theorem q83 {N M:Nat} {c:Bi} {n:Nat}:∀ {r:M8} {s:LS},s.left.length=N->(∀ p∈r,∃ i:Nat,i<N/\p.1=i)->(∀ i:Nat,i<N->s.left.getD i 0<=0->(i:Int)∈s.rdy) ->
  (∃ e,(r.foldl (E7 c n) s).rdy=s.rdy++e)/\(r.foldl (E7 c n) s).left.length=N/\(∀ i:Nat,i<N->(r.foldl (E7 c n) s).left.getD i 0=s.left.getD i 0-if C2 (Aj c i) then(Rl i r:Int)else 0)/\(∀ i:Nat,i<N->(r.foldl (E7 c n) s).left.getD i 0<=0->(i:Int)∈(r.foldl (E7 c n) s).rdy)
 | [],s,hl,_,hb=>⟨⟨[],by simp⟩,hl,fun i hi=>by simp[Rl],hb⟩
 | (p1,p2)::r,s,hl,hr,hb=>by
  obtain⟨j,hj,he⟩:=hr (p1,p2) xqh
  simp only at he;subst he
  have key:(∃ e,(E7 c n s (j,p2)).rdy=s.rdy++e)/\(E7 c n s (j,p2)).left.length=N/\(∀ i:Nat,i<N->(E7 c n s (j,p2)).left.getD i 0=s.left.getD i 0-if C2 (Aj c i) then(if j=i then 1 else 0:Int)else 0)/\(∀ i:Nat,i<N->(E7 c n s (j,p2)).left.getD i 0<=0->(i:Int)∈(E7 c n s (j,p2)).rdy):=by
   unfold E7
   simp only[xzl]
   by_cases hc:C2 (Aj c j)=true
   ·simp only[hc,if_true]
    refine⟨?_,by simp[hl],fun i hi=>?_,fun i hi h0=>?_⟩
    ·split
     ·exact⟨_,rfl⟩
     ·exact⟨[],by simp⟩
    ·rw[E4 (by omega)]
     by_cases hij:i=j
     ·subst hij;simp[hc]
     ·have:¬ j=i:=fun e=>hij e.symm
      simp[hij,this]
    ·rw[E4 (by omega)]at h0
     by_cases hij:i=j
     ·subst hij
      simp only[if_true]at h0
      by_cases h1:s.left.getD i 0-1=0
      ·rw[if_pos h1];simp
      ·rw[if_neg h1]
       exact hb i hi (by omega)
     ·simp only[hij,if_false]at h0
      have:=hb i hi h0
      split
      ·exact List.mem_append_left _ this
      ·exact this
   ·simp only[hc]
    refine⟨⟨[],by simp⟩,hl,fun i hi=>?_,hb⟩
    by_cases hij:j=i
    ·subst hij;simp[hc]
    ·simp[hij]
  obtain⟨⟨e1,h1⟩,h2,h3,h4⟩:=key
  obtain⟨⟨e2,g1⟩,g2,g3,g4⟩:=q83 (M:=M) (n:=n) (r:=r) h2 (fun q hq=>hr q (xqf _ hq)) h4
  simp only[xz4]
  refine⟨⟨e1++e2,by rw[g1,h1,List.append_assoc]⟩,g2,fun i hi=>?_,g4⟩
  rw[g3 i hi,h3 i hi]
  by_cases hc:C2 (Aj c i)=true
  ·simp only[hc,if_true]
   have:Rl i ((↑j,p2)::r)=Rl i r+if j=i then 1 else 0:=by
    by_cases hij:j=i
    ·subst hij;simp[Rl]
    ·have:¬ ((j:Int)=i):=by omega
     simp[Rl,hij,this]
   rw[this]
   split<;>omega
  ·simp[hc]
structure JI (c:Bi) (d:Nat) (s:LS):Prop where
 li:∃ M,LI c.nodes.l.length M s
 le:d<=s.rdy.length
 a:∀ i:Nat,i<c.nodes.l.length->s.left.getD i 0=(c.nodes.l.map leftOf).getD i 0-if C2 (Aj c i) then(((s.rdy.take d).map fun x=>(D4 c i).count x).sum:Int)else 0
 b:∀ i:Nat,i<c.nodes.l.length->s.left.getD i 0<=0->(i:Int)∈s.rdy
theorem JI.next {c:Bi} (hp:∀ x∈c.nodes.l,∀ p∈x.inn.l,0<=p/\p<c.nodes.l.length) {d:Nat} {s:LS} (h:JI c d s) (hd:d<s.rdy.length):JI c (d+1) ((Ej c (s.rdy.getD d 0).toNat).foldl (E7 c (s.rdy.getD d 0).toNat) s):=by
 obtain⟨M,hli⟩:=h.li
 have hg:s.rdy.getD d 0=s.rdy[d]:=by simp[hd]
 rw[hg]
 obtain⟨n,hn,he,_⟩:=hli.rd _ (xqj hd)
 rw[he]
 simp only[xzl]
 have hr:∀ p∈Ej c n,∃ i:Nat,i<c.nodes.l.length/\p.1=i:=by
  intro p hpp
  have hl:=Ht c
  have e:Ej c n=(B6 c)[n]'(by omega):=by simp[Ej,List.getD,xqg (show n<(B6 c).length by omega)]
  rw[e]at hpp
  exact Um c _ (xqj _) p hpp
 obtain⟨⟨e,h1⟩,h2,h3,h4⟩:=q83 (M:=M) (c:=c) (n:=n) (r:=Ej c n) hli.ll hr h.b
 refine⟨⟨_,hli.fold hr⟩,by rw[h1];simp;omega,fun i hi=>?_,h4⟩
 rw[h3 i hi,h.a i hi,h1]
 by_cases hc:C2 (Aj c i)=true
 ·simp only[hc,if_true]
  have ht:(s.rdy++e).take (d+1)=s.rdy.take d++[(n:Int)]:=by
   rw[List.take_append_of_le_length (by omega),xz7,xqg hd,he]
   rfl
  rw[ht,q19 c hp i n hi]
  simp
  omega
 ·simp[hc]
theorem q6k {c:Bi} (hp:∀ x∈c.nodes.l,∀ p∈x.inn.l,0<=p/\p<c.nodes.l.length):∀ (f d:Nat) (s:LS),JI c d s->c.nodes.l.length<f+d->JI c (Ko c f d s).1 (Ko c f d s).2/\(Ko c f d s).2.rdy.length<=(Ko c f d s).1
 | 0,d,s,h,hf=>by
  obtain⟨M,hli⟩:=h.li
  have:=hli.len
  exact⟨h,by simp only[Ko];omega⟩
 | f+1,d,s,h,hf=>by
  simp only[Ko]
  split
  ·rename_i hd
   exact q6k hp f (d+1) _ (h.next hp hd) (by omega)
  ·exact⟨h,by simp only;omega⟩
theorem qC5:∀ (L R:List Int),(∀ p∈L,p∈R)->L.length<=(R.map fun x=>L.count x).sum
 | [],R,_=>by simp
 | p::L,R,h=>by
  have ih:=qC5 L R fun q hq=>h q (xqf _ hq)
  have hpR:=h p xqh
  have key:∀ R:List Int,(R.map fun x=>(p::L).count x).sum=(R.map fun x=>L.count x).sum+R.count p:=by
   intro R
   induction R with
   | nil=>rfl
   | cons a R ihR =>
    simp only[xqm,List.sum_cons]
    rw[ihR,List.count_cons,List.count_cons]
    by_cases hpa:p=a
    ·subst hpa;simp only[BEq.rfl,if_true];omega
    ·have h1:(p==a)=false:=by simpa using hpa
     have h2:(a==p)=false:=by simpa using fun e=>hpa e.symm
     rw[h1,h2];simp only[xqn,if_false];omega
  rw[key]
  have:=List.count_pos_iff.2 hpR
  simp only[xq8];omega
theorem q3e:∀ (l:List Nd) (s i:Nat),s<=i->i<s+l.length->(l.map leftOf).getD (i-s) 0<=0->(i:Int)∈E6 l s
 | [],s,i,h1,h2,_=>by simp at h2;omega
 | x::l,s,i,h1,h2,h3=>by
  simp only[xq8]at h2
  by_cases hsi:i=s
  ·subst hsi
   simp only[xjb,xqm,List.getD_cons_zero]at h3
   have h4:0<=leftOf x:=by unfold leftOf;split<;>omega
   have h5:leftOf x=0:=by omega
   simp[E6,h5]
  ·have e:i-s=(i-(s+1))+1:=by omega
   rw[e,xqm,List.getD_cons_succ]at h3
   have:=q3e l (s+1) i (by omega) (by omega) h3
   simp only[E6]
   split
   ·exact xqf _ this
   ·exact this
theorem qE3 (c:Bi) (h16:∀ x∈c.nodes.l,x.inn.l.length<=16) (hp:∀ x∈c.nodes.l,∀ p∈x.inn.l,0<=p/\p<c.nodes.l.length) (ht:∀ i:Nat,i<c.nodes.l.length->C2 (Aj c i)=true->∀ p∈D4 c i,p<i):¬ (Hu c).1<c.nodes.l.length:=by
 have h0:JI c 0 (Hf c):=by
  refine⟨⟨0,?_⟩,by simp,fun i hi=>?_,fun i hi h=>?_⟩
  ·obtain⟨r1,r2⟩:=q5v c.nodes.l 0
   refine⟨by simp[Hf],by simp[Hf],?_,r2,fun i=>?_,fun i=>?_⟩
   ·intro j hj
    obtain⟨a,_,h2,h3,h4⟩:=r1 j hj
    exact⟨a,by omega,h3,by simp only[Hf];simp only[Nat.sub_zero]at h4;omega⟩
   ·simp only[Hf,xqe,xz3]
    split<;>simp
   ·simp only[Hf]
    by_cases hi:i<c.nodes.l.length
    ·have:=h16 _ (xqj hi)
     simp[hi,leftOf]
     split<;>omega
    ·simp[hi]
  ·simp[Hf]
  ·simp only[Hf]at h
   exact q3e c.nodes.l 0 i (by omega) (by omega) (by simpa using h)
 obtain⟨hJ,hle⟩:=q6k hp (c.nodes.l.length+1) 0 (Hf c) h0 (by omega)
 show ¬ (Ko c (c.nodes.l.length+1) 0 (Hf c)).1<c.nodes.l.length
 generalize (Ko c (c.nodes.l.length+1) 0 (Hf c)).1=d at *
 generalize (Ko c (c.nodes.l.length+1) 0 (Hf c)).2=s at *
 have all:∀ i:Nat,i<c.nodes.l.length->(i:Int)∈s.rdy:=by
  intro i
  induction i using Nat.strongRecOn with
  | ind i ih =>
   intro hi
   refine hJ.b i hi ?_
   rw[hJ.a i hi,qGV c hi]
   by_cases hc:C2 (Aj c i)=true
   ·simp only[hc,if_true]
    rw[xqw hle]
    have hm:D4 c i∈c.nodes.l.map fun x=>x.inn.l:=by
     simp only[D4,xqe,xqg hi,xzy]
     exact xzk (xqj hi)
    obtain⟨y,hy,hye⟩:=xqy.1 hm
    have:=qC5 (D4 c i) s.rdy fun p hpp=>by
     have h1:=ht i hi hc p hpp
     have h2:=(hp y hy p (by rw[hye];exact hpp)).1
     obtain⟨j,rfl⟩:∃ j:Nat,p=j:=⟨p.toNat,by omega⟩
     exact ih j (by omega) (by omega)
    omega
   ·simp[hc]
 have hnd:((List.range c.nodes.l.length).map fun i:Nat=>(i:Int)).Nodup:=by
  rw[List.nodup_iff_pairwise_ne,List.pairwise_map]
  exact(List.nodup_iff_pairwise_ne.1 List.nodup_range).imp fun h e=>h (by omega)
 have hsub:((List.range c.nodes.l.length).map fun i:Nat=>(i:Int)) ⊆ s.rdy:=by
  intro x hx
  obtain⟨i,hi,rfl⟩:=xqy.1 hx
  exact all i (List.mem_range.1 hi)
 have:=List.Nodup.length_le_of_subset hnd hsub
 simp at this
 omega
theorem q3f (p:Int) (L:List Int):∀ R:List Int,(R.map fun x=>(p::L).count x).sum=(R.map fun x=>L.count x).sum+R.count p
 | []=>rfl
 | a::R=>by
  simp only[xqm,List.sum_cons]
  rw[q3f p L R,List.count_cons,List.count_cons]
  by_cases hpa:p=a
  ·subst hpa;simp only[BEq.rfl,if_true];omega
  ·have h1:(p==a)=false:=by simpa using hpa
   have h2:(a==p)=false:=by simpa using fun e=>hpa e.symm
   rw[h1,h2];simp only[xqn,if_false];omega
theorem q6l:∀ (L R:List Int),R.Nodup->(R.map fun x=>L.count x).sum<=L.length
 | [],R,_=>by
  have:∀ R:List Int,(R.map fun x=>([]:List Int).count x).sum=0:=by
   intro R
   induction R with
   | nil=>rfl
   | cons a R ih=>rw[xqm,List.sum_cons,ih,List.count_nil]
  rw[this];omega
 | p::L,R,h=>by
  have ih:=q6l L R h
  have h1:=List.nodup_iff_count.1 h p
  rw[q3f]
  simp only[xq8];omega
theorem qIz {N n:Nat} {c:Bi}:∀ {r:M8} {s:LS},s.out.length=N->s.left.length=N->(∀ p∈r,∃ i:Nat,i<N/\p.1=i)->(∀ i:Nat,i<N->C2 (Aj c i)=true->(Rl i r:Int)<=s.left.getD i 0)->s.left.getD n 0<=0 ->
  (∀ i:Nat,i<N->s.left.getD i 0<=0->(r.foldl (E7 c n) s).out.getD i 0=s.out.getD i 0)/\(∀ i:Nat,i<N->s.out.getD i 0<=(r.foldl (E7 c n) s).out.getD i 0)/\(∀ i:Nat,i<N->C2 (Aj c i)=true->0<Rl i r->s.out.getD n 0+1<=(r.foldl (E7 c n) s).out.getD i 0)
 | [],s,ho,hl,_,_,_=>⟨fun _ _ _=>rfl,fun _ _=>Int.le_refl _,fun i _ _ h=>by simp[Rl]at h⟩
 | (p1,p2)::r,s,ho,hl,hr,hc,hn=>by
  obtain⟨j,hj,he⟩:=hr (p1,p2) xqh
  simp only at he;subst he
  have cnt:∀ i:Nat,Rl i ((↑j,p2)::r)=Rl i r+if j=i then 1 else 0:=fun i=>by
   by_cases hij:j=i
   ·subst hij;simp[Rl]
   ·have:¬ ((j:Int)=i):=by omega
    simp[Rl,hij,this]
  simp only[xz4]
  by_cases hcj:C2 (Aj c j)=true
  case neg =>
   have hs:E7 c n s (↑j,p2)=s:=by unfold E7;simp[hcj]
   rw[hs]
   obtain⟨a1,a2,a3⟩:=qIz (n:=n) (c:=c) (r:=r) ho hl (fun p hp=>hr p (xqf _ hp)) (fun i hi hci=>by have:=hc i hi hci;rw[cnt]at this;omega) hn
   refine⟨a1,a2,fun i hi hci h=>a3 i hi hci ?_⟩
   rw[cnt]at h
   have:¬ j=i:=fun e=>hcj (e ▸ hci)
   simpa[this]using h
  have hj1:=hc j hj hcj
  rw[cnt,if_pos rfl]at hj1
  have hnj:¬ n=j:=fun e=>by subst e;omega
  have so:∀ i:Nat,(E7 c n s (↑j,p2)).out.getD i 0=if i=j then max (s.out.getD j 0) (s.out.getD n 0+1)else s.out.getD i 0:=fun i=>by
   unfold E7
   simp only[xzl,hcj,if_true]
   rw[E4 (by omega)]
  have sl:∀ i:Nat,(E7 c n s (↑j,p2)).left.getD i 0=if i=j then s.left.getD j 0-1 else s.left.getD i 0:=fun i=>by
   unfold E7
   simp only[xzl,hcj,if_true]
   rw[E4 (by omega)]
  have lo:(E7 c n s (↑j,p2)).out.length=N:=by unfold E7;simp[hcj,ho]
  have ll:(E7 c n s (↑j,p2)).left.length=N:=by unfold E7;simp[hcj,hl]
  obtain⟨a1,a2,a3⟩:=qIz (n:=n) (c:=c) (r:=r) lo ll (fun p hp=>hr p (xqf _ hp)) (fun i hi hci=>by
   have:=hc i hi hci
   rw[cnt]at this
   rw[sl]
   by_cases hij:i=j
   ·subst hij;simp only[if_true]at this ⊢;omega
   ·have h':¬ j=i:=fun e=>hij e.symm
    simp only[hij,h',if_false]at this ⊢;omega) (by rw[sl,if_neg hnj];exact hn)
  refine⟨fun i hi h0=>?_,fun i hi=>?_,fun i hi hci h=>?_⟩
  ·have hij:¬ i=j:=fun e=>by subst e;omega
   rw[a1 i hi (by rw[sl,if_neg hij];exact h0),so,if_neg hij]
  ·have:=a2 i hi
   rw[so]at this
   split at this
   ·rename_i e;subst e;omega
   ·exact this
  ·by_cases hij:i=j
   ·subst hij
    have:=a2 i hi
    rw[so,if_pos rfl]at this
    omega
   ·have h':¬ j=i:=fun e=>hij e.symm
    rw[cnt,if_neg h']at h
    have:=a3 i hi hci (by omega)
    rw[so,if_neg hnj]at this
    exact this
def KI (c:Bi) (d:Nat) (s:LS):Prop:=∀ i:Nat,i<c.nodes.l.length->C2 (Aj c i)=true->∀ q:Nat,(q:Int)∈D4 c i->(q:Int)∈s.rdy.take d->s.out.getD q 0+1<=s.out.getD i 0
theorem KI.next {c:Bi} (hp:∀ x∈c.nodes.l,∀ p∈x.inn.l,0<=p/\p<c.nodes.l.length) {d:Nat} {s:LS} (h:JI c d s) (hk:KI c d s) (hd:d<s.rdy.length):KI c (d+1) ((Ej c (s.rdy.getD d 0).toNat).foldl (E7 c (s.rdy.getD d 0).toNat) s):=by
 obtain⟨M,hli⟩:=h.li
 have hg:s.rdy.getD d 0=s.rdy[d]:=by simp[hd]
 rw[hg]
 obtain⟨n,hn,he,hn0⟩:=hli.rd _ (xqj hd)
 rw[he]
 simp only[xzl]
 have hr:∀ p∈Ej c n,∃ i:Nat,i<c.nodes.l.length/\p.1=i:=by
  intro p hpp
  have hl:=Ht c
  have e:Ej c n=(B6 c)[n]'(by omega):=by simp[Ej,List.getD,xqg (show n<(B6 c).length by omega)]
  rw[e]at hpp
  exact Um c _ (xqj _) p hpp
 have htk:s.rdy.take (d+1)=s.rdy.take d++[(n:Int)]:=by
  rw[xz7,xqg hd,he];rfl
 have hnd:(s.rdy.take (d+1)).Nodup:=hli.nd.sublist (List.take_sublist _ _)
 have hcnt:∀ i:Nat,i<c.nodes.l.length->C2 (Aj c i)=true->(Rl i (Ej c n):Int)<=s.left.getD i 0:=by
  intro i hi hci
  have:=q6l (D4 c i) _ hnd
  rw[htk]at this
  simp only[List.map_append,List.sum_append,xqm,xq3,List.sum_cons,List.sum_nil]at this
  rw[h.a i hi,qGV c hi,q19 c hp i n hi]
  simp only[hci,if_true]
  omega
 obtain⟨⟨e,h1⟩,_,_,_⟩:=q83 (M:=M) (c:=c) (n:=n) (r:=Ej c n) hli.ll hr h.b
 obtain⟨a1,a2,a3⟩:=qIz (n:=n) (c:=c) hli.lo hli.ll hr hcnt hn0
 intro i hi hci q hq hqt
 rw[h1,List.take_append_of_le_length (by omega),htk]at hqt
 rcases xzg.1 hqt with hqt|hqt
 ·obtain⟨q',hq1,hq2,hq3⟩:=hli.rd _ (xz6 hqt)
  have:q=q':=by omega
  subst this
  rw[a1 q hq1 hq3]
  have h4:=hk i hi hci q hq hqt
  have h5:=a2 i hi
  omega
 ·have:q=n:=by simp at hqt;omega
  subst this
  rw[a1 q hn hn0]
  refine a3 i hi hci ?_
  rw[q19 c hp i q hi]
  exact List.count_pos_iff.2 hq
theorem qGW {c:Bi} (hp:∀ x∈c.nodes.l,∀ p∈x.inn.l,0<=p/\p<c.nodes.l.length):∀ (f d:Nat) (s:LS),JI c d s->KI c d s->KI c (Ko c f d s).1 (Ko c f d s).2
 | 0,d,s,_,hk=>hk
 | f+1,d,s,h,hk=>by
  simp only[Ko]
  split
  ·rename_i hd
   exact qGW hp f (d+1) _ (h.next hp hd) (hk.next hp h hd)
  ·exact hk
theorem qGX (c:Bi) (h16:∀ x∈c.nodes.l,x.inn.l.length<=16):JI c 0 (Hf c):=by
 refine⟨⟨0,qDu c h16⟩,by simp,fun i hi=>?_,fun i hi h=>?_⟩
 ·simp[Hf]
 ·simp only[Hf]at h
  exact q3e c.nodes.l 0 i (by omega) (by omega) (by simpa using h)
theorem q3g {c:Bi} (h:Eg c=0):∀ x∈c.nodes.l,∀ p∈x.inn.l,0<=p/\p<c.nodes.l.length:=by
 intro x hx
 have h4:=(J7 h).2.2.1 x hx
 unfold Eh at h4
 split at h4
 ·cases h4
 split at h4
 ·cases h4
 split at h4
 ·cases h4
 rename_i h6
 exact q4X (by simpa using h6)
def Gz (c:Bi) (i:Nat):Int:=(Hu c).2.out.getD i 0
theorem J8 {c:Bi} (h:Cf c=0):Eg c=0/\¬ (Hu c).1<c.nodes.l.length:=by
 unfold Cf at h
 split at h
 ·rename_i h1;exact absurd h h1
 split at h
 ·cases h
 ·rename_i h1 h2;exact⟨by simpa using h1,h2⟩
theorem q2C {c:Bi} (h:Cf c=0):(Hu c).2.out.length=c.nodes.l.length/\(∀ i,0<=Gz c i)/\∀ i:Nat,i<c.nodes.l.length->C2 (Aj c i)=true->∀ p∈D4 c i,(0<=p/\p<c.nodes.l.length)/\Gz c p.toNat<Gz c i:=by
 obtain⟨hs,hd⟩:=J8 h
 have hp:=q3g hs
 have h16:=(J7 hs).2.1
 have h0:=qGX c h16
 obtain⟨hJ,hle⟩:=q6k hp (c.nodes.l.length+1) 0 (Hf c) h0 (by omega)
 have hK:=qGW hp (c.nodes.l.length+1) 0 (Hf c) h0 (fun i _ _ q _ hq=>by simp at hq)
 obtain⟨M,hli⟩:=hJ.li
 refine⟨hli.lo,fun i=>(hli.bo i).1,fun i hi hc p hpi=>?_⟩
 have hin:0<=p/\p<c.nodes.l.length:=by
  simp only[D4,xqe,xqg hi,xzy]at hpi
  exact hp _ (xqj hi) p hpi
 refine⟨hin,?_⟩
 have hpe:p=(p.toNat:Int):=by omega
 have hall:p∈(Hu c).2.rdy.take (Hu c).1:=by
  have hle':(Hu c).2.rdy.length<=(Hu c).1:=hle
  rw[xqw hle']
  by_cases hm:p∈(Hu c).2.rdy
  ·exact hm
  exfalso
  have:=q4Z (N:=c.nodes.l.length) (xzj.2 ⟨hm,hli.nd⟩) fun j hj=>by
   rcases xqv.1 hj with rfl|hj
   ·exact⟨j.toNat,by omega,by omega⟩
   ·obtain⟨i,h1,h2,_⟩:=hli.rd j hj;exact⟨i,h1,h2⟩
  have h3:=hJ.le
  simp only[xq8]at this
  have:(Hu c).1<=(Hu c).2.rdy.length:=h3
  have:(Ko c (c.nodes.l.length+1) 0 (Hf c)).2=(Hu c).2:=rfl
  simp only[this]at *
  omega
 have:=hK i hi hc p.toNat (by rw[<- hpe];exact hpi) (by rw[<- hpe];exact hall)
 show(Hu c).2.out.getD p.toNat 0<(Hu c).2.out.getD i 0
 have e:(Ko c (c.nodes.l.length+1) 0 (Hf c)).2=(Hu c).2:=rfl
 rw[e]at this
 omega
theorem qGY {c:Bi} (h:Cf c=0) {Q:Nat->Prop} (hq:∀ i:Nat,i<c.nodes.l.length->(C2 (Aj c i)=true->∀ p∈D4 c i,(0<=p/\p<c.nodes.l.length)/\Q p.toNat)->Q i):∀ i:Nat,i<c.nodes.l.length->Q i:=by
 obtain⟨_,h0,h1⟩:=q2C h
 have:∀ (k:Nat) (i:Nat),i<c.nodes.l.length->(Gz c i).toNat=k->Q i:=by
  intro k
  induction k using Nat.strongRecOn with
  | ind k ih =>
   intro i hi hk
   refine hq i hi fun hc p hp=>?_
   obtain⟨h2,h3⟩:=h1 i hi hc p hp
   have:=h0 p.toNat
   exact⟨h2,ih (Gz c p.toNat).toNat (by omega) p.toNat (by omega) rfl⟩
 exact fun i hi=>this _ i hi rfl
def qAH (lt:Int->Int->Bool):Nat->List Int->List Int
 | 0,l=>l
 | j+1,l=>if lt (l.getD (j+1) 0) (l.getD j 0)then qAH lt j (q08 l (j+1) j)else l
def q3h (lt:Int->Int->Bool):Nat->Nat->List Int->List Int
 | 0,_,l=>l
 | f+1,i,l=>q3h lt f (i+1) (qAH lt i l)
theorem q4a {lt:Int->Int->Bool}:∀ {j:Nat} {l:List Int},j<l.length->(qAH lt j l).Perm l
 | 0,l,_=>List.Perm.refl l
 | j+1,l,h=>by
  simp only[qAH]
  split
  ·exact(q4a (by rw[q7y];omega)).trans (qAD h (by omega))
  ·exact List.Perm.refl l
def q3i (key:Int->Int) (l:List Int) (n:Nat):Prop:=∀ a b,a<b->b<n->key (l.getD a 0)<=key (l.getD b 0)
theorem q8i (key:Int->Int) (i:Nat):∀ (j:Nat) (l:List Int),j<=i->i<l.length->(∀ a b,a<b->b<=i->a≠j->b≠j->key (l.getD a 0)<=key (l.getD b 0))->(∀ b,j<b->b<=i->key (l.getD j 0)<=key (l.getD b 0)) ->
  q3i key (qAH (fun a b=>decide (key a<key b)) j l) (i+1)
 | 0,l,hj,hi,h1,h2=>by
  intro a b hab hb
  simp only[qAH]
  by_cases ha:a=0
  ·subst ha;exact h2 b hab (by omega)
  ·exact h1 a b hab (by omega) ha (by omega)
 | j+1,l,hj,hi,h1,h2=>by
  simp only[qAH]
  split
  ·rename_i hlt
   have hlt':key (l.getD (j+1) 0)<key (l.getD j 0):=by simpa using hlt
   have g:∀ q,q<l.length->(q08 l (j+1) j).getD q 0=if q=j then l.getD (j+1) 0 else if q=j+1 then l.getD j 0 else l.getD q 0:=fun q hq=>qHk (by omega) (by omega) hq
   refine q8i key i j _ (by omega) (by rw[q7y];exact hi) (fun a b hab hb ha hb'=>?_) (fun b hb hbi=>?_)
   ·rw[g a (by omega),g b (by omega),if_neg ha,if_neg hb']
    by_cases ha1:a=j+1
    ·rw[if_pos ha1,if_neg (by omega)]
     exact h1 j b (by omega) hb (by omega) (by omega)
    ·rw[if_neg ha1]
     by_cases hb1:b=j+1
     ·rw[if_pos hb1]
      exact h1 a j (by omega) (by omega) ha1 (by omega)
     ·rw[if_neg hb1]
      exact h1 a b hab hb ha1 hb1
   ·rw[g j (by omega),g b (by omega),if_pos rfl,if_neg (by omega)]
    by_cases hb1:b=j+1
    ·rw[if_pos hb1];omega
    ·rw[if_neg hb1]
     exact h2 b (by omega) hbi
  ·rename_i hlt
   have hlt':key (l.getD j 0)<=key (l.getD (j+1) 0):=by simpa using hlt
   intro a b hab hb
   by_cases ha1:a=j+1
   ·subst ha1;exact h2 b hab (by omega)
   ·by_cases hb1:b=j+1
    ·subst hb1
     by_cases haj:a=j
     ·subst haj;exact hlt'
     ·have:=h1 a j (by omega) (by omega) ha1 (by omega)
      omega
    ·exact h1 a b hab (by omega) ha1 hb1
theorem qGZ (key:Int->Int):∀ (f i:Nat) (l:List Int),i+f=l.length->q3i key l i->(q3h (fun a b=>decide (key a<key b)) f i l).Perm l/\q3i key (q3h (fun a b=>decide (key a<key b)) f i l) l.length
 | 0,i,l,h,hs=>⟨List.Perm.refl l,by have:i=l.length:=(by omega);subst this;exact hs⟩
 | f+1,i,l,h,hs=>by
  simp only[q3h]
  have hp:=q4a (lt:=fun a b=>decide (key a<key b)) (show i<l.length by omega)
  have hss:=q8i key i i l (xzo _) (by omega) (fun a b hab hb ha hb'=>hs a b hab (by omega)) (fun b h1 h2=>by omega)
  obtain⟨a1,a2⟩:=qGZ key f (i+1) _ (by rw[hp.length_eq];omega) hss
  rw[hp.length_eq]at a2
  exact⟨a1.trans hp,a2⟩
def rng (n:Nat):List Int:=(List.range n).map fun i:Nat=>(i:Int)
theorem Hv {n:Nat}:(rng n).length=n:=by simp[rng]
theorem Lm {n:Nat} {x:Int}:x∈rng n↔0<=x/\x<n:=by
 simp only[rng,xqy,List.mem_range]
 constructor
 ·rintro⟨i,hi,rfl⟩;omega
 ·intro h;exact⟨x.toNat,by omega,by omega⟩
theorem q1A {n:Nat}:(rng n).Nodup:=by
 rw[rng,List.nodup_iff_pairwise_ne,List.pairwise_map]
 exact(List.nodup_iff_pairwise_ne.1 List.nodup_range).imp fun h e=>h (by omega)
def qGa (c:Bi) (a b:Int):Bool:=decide (Gz c a.toNat<Gz c b.toNat)
def I9 (c:Bi):List Int:=q3h (qGa c) (c.nodes.l.length-1) 1 (rng c.nodes.l.length)
theorem Qs (c:Bi):(I9 c).Perm (rng c.nodes.l.length)/\q3i (fun a=>Gz c a.toNat) (I9 c) c.nodes.l.length:=by
 by_cases h:c.nodes.l.length=0
 ·unfold I9
  rw[h]
  exact⟨List.Perm.refl _,fun a b hab hb=>by omega⟩
 ·have:=qGZ (fun a=>Gz c a.toNat) (c.nodes.l.length-1) 1 (rng c.nodes.l.length) (by rw[Hv];omega) (fun a b hab hb=>by omega)
  rw[Hv]at this
  exact this
def Dx (c:Bi) (nets:List Int) (i:Nat):List Int:=(D4 c i).map fun k=>nets.getD k.toNat 0
def S8 (c:Bi) (nets:List Int) (n:Int):List Int:=if C2 (Aj c n.toNat)then nets.set n.toNat (Gs (Aj c n.toNat) (Dx c nets n.toNat))else nets
def q4m (c:Bi) (order init:List Int):List Int:=order.foldl (S8 c) init
theorem q4b {c:Bi} {nets:List Int} {n:Int}:(S8 c nets n).length=nets.length:=by unfold S8;split<;>simp
theorem q1B {c:Bi}:∀ {o nets:List Int},(q4m c o nets).length=nets.length
 | [],nets=>rfl
 | n::o,nets=>by
  show(q4m c o (S8 c nets n)).length=_
  rw[q1B,q4b]
def qFW (c:Bi) (init f:List Int):Prop:=f.length=c.nodes.l.length/\∀ i:Nat,i<c.nodes.l.length->f.getD i 0=if C2 (Aj c i)then Gs (Aj c i) (Dx c f i)else init.getD i 0
theorem qCr {c:Bi}:∀ {o nets:List Int},nets.length=c.nodes.l.length->o.Nodup->(∀ n∈o,0<=n/\n<c.nodes.l.length)->o.Pairwise (fun x y=>C2 (Aj c x.toNat)=true->y∉D4 c x.toNat)->(∀ x∈o,C2 (Aj c x.toNat)=true->x∉D4 c x.toNat/\∀ p∈D4 c x.toNat,0<=p) ->
  (∀ i:Nat,(i:Int)∉o->(q4m c o nets).getD i 0=nets.getD i 0)/\(∀ i:Nat,(i:Int)∈o->(q4m c o nets).getD i 0=if C2 (Aj c i)then Gs (Aj c i) (Dx c (q4m c o nets) i)else nets.getD i 0)
 | [],nets,_,_,_,_,_=>⟨fun i _=>rfl,fun i h=>by cases h⟩
 | n::o,nets,hl,hnd,hin,hpw,hself=>by
  obtain⟨hn1,hn2⟩:=xzj.1 hnd
  obtain⟨hp1,hp2⟩:=List.pairwise_cons.1 hpw
  have hnr:=hin n xqh
  have hne:n=(n.toNat:Int):=by omega
  have key:∀ i:Nat,i≠n.toNat->(S8 c nets n).getD i 0=nets.getD i 0:=fun i hi=>by
   unfold S8
   split
   ·rw[E4 (by omega),if_neg hi]
   ·rfl
  obtain⟨a1,a2⟩:=qCr (o:=o) (nets:=S8 c nets n) (by rw[q4b];exact hl) hn2 (fun m hm=>hin m (xqf _ hm)) hp2 (fun x hx=>hself x (xqf _ hx))
  have hrun:q4m c (n::o) nets=q4m c o (S8 c nets n):=rfl
  rw[hrun]
  refine⟨fun i hi=>?_,fun i hi=>?_⟩
  ·have h1:¬ i=n.toNat:=fun e=>hi (by rw[e,<- hne];exact xqh)
   rw[a1 i fun hm=>hi (xqf _ hm),key i h1]
  ·by_cases hio:(i:Int)∈o
   ·have h1:¬ i=n.toNat:=fun e=>hn1 (by rw[hne,<- e];exact hio)
    rw[a2 i hio,key i h1]
   ·have h1:i=n.toNat:=by
     rcases xqv.1 hi with h|h
     ·omega
     ·exact absurd h hio
    subst h1
    rw[a1 _ hio]
    by_cases hc:C2 (Aj c n.toNat)=true
    ·have h2:(S8 c nets n).getD n.toNat 0=Gs (Aj c n.toNat) (Dx c nets n.toNat):=by
      unfold S8
      rw[if_pos hc,E4 (by omega),if_pos rfl]
     rw[h2,if_pos hc]
     congr 1
     unfold Dx
     refine xq1 fun p hp=>?_
     obtain⟨hs1,hs2⟩:=hself n xqh hc
     have hp0:=hs2 p hp
     have hpe:p=(p.toNat:Int):=by omega
     have hpo:((p.toNat:Nat):Int)∉o:=fun hm=>hp1 _ hm hc (by rw[<- hpe];exact hp)
     have hpn:¬ p.toNat=n.toNat:=fun e=>by
      have h9:p=n:=by omega
      rw[h9]at hp
      exact hs1 hp
     rw[a1 _ hpo,key _ hpn]
    ·rw[if_neg hc]
     unfold S8
     rw[if_neg hc]
theorem qL1 {c:Bi} (h:Cf c=0) {o init:List Int} (hp:o.Perm (rng c.nodes.l.length)) (hs:q3i (fun a=>Gz c a.toNat) o c.nodes.l.length) (hi:init.length=c.nodes.l.length):qFW c init (q4m c o init):=by
 obtain⟨_,h0,h1⟩:=q2C h
 have hlen:o.length=c.nodes.l.length:=by rw[hp.length_eq,Hv]
 have hmem:∀ n,n∈o↔0<=n/\n<c.nodes.l.length:=fun n=>by rw[hp.mem_iff,Lm]
 have hpw:o.Pairwise (fun x y=>C2 (Aj c x.toNat)=true->y∉D4 c x.toNat):=by
  rw[List.pairwise_iff_getElem]
  intro i j hi hj hij hc hm
  have hx:=(hmem o[i]).1 (xqj hi)
  obtain⟨_,h3⟩:=h1 o[i].toNat (by omega) hc _ hm
  have h4:=hs i j hij (by omega)
  simp only[Be hi,Be hj]at h4
  omega
 obtain⟨_,a2⟩:=qCr (c:=c) (o:=o) (nets:=init) hi (hp.nodup_iff.2 q1A) (fun n hn=>(hmem n).1 hn) hpw (fun x hx hc=>by
  have hx':=(hmem x).1 hx
  refine⟨fun hm=>?_,fun p hpp=>(h1 x.toNat (by omega) hc p hpp).1.1⟩
  have:=(h1 x.toNat (by omega) hc x hm).2
  omega)
 exact⟨by rw[q1B];exact hi,fun i hi=>a2 i ((hmem i).2 (by omega))⟩
theorem qAI {c:Bi} (h:Cf c=0) {init f g:List Int} (hf:qFW c init f) (hg:qFW c init g):f=g:=by
 have key:=qGY h (Q:=fun i=>f.getD i 0=g.getD i 0) fun i hi hc=>by
  rw[hf.2 i hi,hg.2 i hi]
  split
  ·rename_i hcb
   congr 1
   unfold Dx
   exact xq1 fun p hp=>(hc hcb p hp).2
  ·rfl
 refine List.ext_getElem (by rw[hf.1,hg.1]) fun i h1 h2=>?_
 have:=key i (by rw[hf.1]at h1;exact h1)
 rwa [Be h1,Be h2]at this
def Ek:List Int->List Int->List Int->List Int
 | n::ns,v::vs,nets=>Ek ns vs (nets.set n.toNat v)
 | _,_,nets=>nets
theorem Qu:∀ {ns vs nets:List Int},(Ek ns vs nets).length=nets.length
 | [],vs,nets=>by cases vs<;>rfl
 | _::_,[],nets=>rfl
 | n::ns,v::vs,nets=>by simp only[Ek];rw[Qu];simp
theorem Qv:∀ {ns vs nets:List Int} {i:Nat},(∀ n∈ns,0<=n)->(i:Int)∉ns->(Ek ns vs nets).getD i 0=nets.getD i 0
 | [],vs,nets,i,_,_=>by cases vs<;>rfl
 | _::_,[],nets,i,_,_=>rfl
 | n::ns,v::vs,nets,i,h0,h=>by
  simp only[Ek]
  rw[Qv (fun m hm=>h0 m (xqf _ hm)) fun hm=>h (xqf _ hm)]
  have h1:¬ n.toNat=i:=fun e=>h (by have:=h0 n xqh;rw[<- e,Int.toNat_of_nonneg this];exact xqh)
  simp[xqe,xzb,h1]
theorem Zb:∀ {ns vs nets:List Int} {j:Nat},ns.Nodup->(∀ n∈ns,0<=n/\n<nets.length)->ns.length=vs.length->(h:j<ns.length)->(Ek ns vs nets).getD (ns[j]).toNat 0=vs.getD j 0
 | n::ns,v::vs,nets,j,hnd,hr,hl,h=>by
  obtain⟨h1,h2⟩:=xzj.1 hnd
  have hn:=hr n xqh
  simp only[Ek]
  cases j with
  | zero =>
   simp only[List.getElem_cons_zero,List.getD_cons_zero]
   rw[Qv (fun m hm=>(hr m (xqf _ hm)).1) (by rw[Int.toNat_of_nonneg hn.1];exact h1),E4 (by omega),if_pos rfl]
  | succ j =>
   simp only[List.getElem_cons_succ,List.getD_cons_succ]
   exact Zb h2 (fun m hm=>by have:=hr m (xqf _ hm);simpa using this) (by simpa using hl) (by simpa using h)
 | [],vs,nets,j,_,_,_,h=>by simp at h
 | _::_,[],nets,j,_,_,hl,h=>by simp at hl
def Bd (c:Bi):List Int:=N8 [0] c.nodes.l 0
def Kq (c:Bi) (pin pst:List Int):List Int:=Ek (B8 c) pst (Ek (Bd c) pin (List.replicate c.nodes.l.length 0))
def Br (c:Bi) (pin pst:List Int):List Int:=q4m c (I9 c) (Kq c pin pst)
theorem Ky {c:Bi} {pin pst:List Int}:(Kq c pin pst).length=c.nodes.l.length:=by unfold Kq;rw[Qu,Qu];simp
theorem q1C {c:Bi} (h:Cf c=0) (pin pst:List Int):qFW c (Kq c pin pst) (Br c pin pst):=qL1 h (Qs c).1 (Qs c).2 Ky
def q2d (k:Int) (c:Bi) (i:Nat):Nat:=(N8 [k] (c.nodes.l.take i) 0).length
theorem qC6 {k:Int} {c:Bi} {i:Nat} (hi:i<c.nodes.l.length) (hk:Aj c i=k):N8 [k] c.nodes.l 0=N8 [k] (c.nodes.l.take i) 0++(i:Int)::N8 [k] (c.nodes.l.drop (i+1)) (i+1):=by
 have e:c.nodes.l=c.nodes.l.take i++c.nodes.l[i]::c.nodes.l.drop (i+1):=by rw[List.getElem_cons_drop,List.take_append_drop]
 have hk':c.nodes.l[i].k=k:=by simpa[Aj,hi]using hk
 have hm:(c.nodes.l.take i).length=i:=by rw[xzf];omega
 conv=>lhs;rw[e,q6b,hm]
 simp[N8,hk']
theorem qGb {k:Int} {c:Bi} {i:Nat} (hi:i<c.nodes.l.length) (hk:Aj c i=k):q2d k c i<(N8 [k] c.nodes.l 0).length/\(N8 [k] c.nodes.l 0).getD (q2d k c i) 0=i:=by
 have e:=qC6 hi hk
 constructor
 ·rw[e];simp[q2d]
 ·rw[e];simp[q2d,xqe]
theorem F7 {k:Int} {c:Bi}:∀ n∈N8 [k] c.nodes.l 0,0<=n/\n<c.nodes.l.length/\Aj c n.toNat=k:=by
 intro n hn
 obtain⟨a,b,h⟩:=q6g [k] c.nodes.l 0 n hn
 refine⟨by omega,by omega,?_⟩
 simpa[Aj]using h
theorem q6m {k:Int} {c:Bi} {i:Nat} (hi:i<c.nodes.l.length):(i:Int)∈N8 [k] c.nodes.l 0↔Aj c i=k:=by
 constructor
 ·intro h
  have:=(F7 _ h).2.2
  simpa using this
 ·intro h
  rw[qC6 hi h]
  simp
theorem qGc {c:Bi} {pin pst:List Int} (h1:pin.length=(Bd c).length) (h2:pst.length=(B8 c).length) {i:Nat} (hi:i<c.nodes.l.length) :
  (Kq c pin pst).getD i 0=if Aj c i=0 then pin.getD (q2d 0 c i) 0 else if Aj c i=14 then pst.getD (q2d 14 c i) 0 else 0:=by
 have n0:=(Nz [0] c.nodes.l 0).2
 have n14:=(Nz [14] c.nodes.l 0).2
 have r14:∀ n∈B8 c,0<=n:=fun n hn=>(F7 n hn).1
 have r0:∀ n∈Bd c,0<=n:=fun n hn=>(F7 n hn).1
 unfold Kq
 by_cases hk:Aj c i=14
 ·obtain⟨a,b⟩:=qGb hi hk
  have e:(N8 [14] c.nodes.l 0)[q2d 14 c i]=(i:Int):=by rw[<- b,Be a]
  have:=Zb (ns:=B8 c) (vs:=pst) (nets:=Ek (Bd c) pin (List.replicate c.nodes.l.length 0)) (j:=q2d 14 c i) n14 (fun n hn=>by rw[Qu];have:=F7 n hn;simp;omega) h2.symm a
  have e':(B8 c)[q2d 14 c i]=(i:Int):=e
  rw[e']at this
  simp only[xzl]at this
  rw[this,if_neg (by omega),if_pos hk]
 ·have:(i:Int)∉B8 c:=fun hm=>hk ((q6m hi).1 hm)
  rw[Qv r14 this]
  by_cases hk0:Aj c i=0
  ·obtain⟨a,b⟩:=qGb hi hk0
   have e:(Bd c)[q2d 0 c i]'a=(i:Int):=by show(N8 [0] c.nodes.l 0)[q2d 0 c i]=_;rw[<- b,Be a]
   have:=Zb (ns:=Bd c) (vs:=pin) (nets:=List.replicate c.nodes.l.length 0) (j:=q2d 0 c i) n0 (fun n hn=>by have:=F7 n hn;simp;omega) h1.symm a
   rw[e]at this
   simp only[xzl]at this
   rw[this,if_pos hk0]
  ·have:(i:Int)∉Bd c:=fun hm=>hk0 ((q6m hi).1 hm)
   rw[Qv r0 this,if_neg hk0,if_neg hk]
   simp[xqe,xz3]
   split<;>rfl
end Go.Lg
