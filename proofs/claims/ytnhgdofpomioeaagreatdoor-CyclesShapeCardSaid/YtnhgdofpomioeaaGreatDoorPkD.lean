/- Plain data as trees, and how calls are taken. Conditions: none. -/
import Derived.Test.YtnhgdofpomioeaaGreatDoorPkC
import Derived.Test.YtnhgdofpomioeaaGreatDoorProg
import Derived.KernelRfl
import Derived.Lib.Bytealg
import Derived.Test.YtnhgdofpomioeaaGreatDoorRows
import Derived.Test.YtnhgdofpomioeaaGreatDoorCards
import Derived.Test.YtnhgdofpomioeaaGreatDoorTie
import Derived.ProofKit
import Derived.Deep.DeepHandedRow
import Derived.SevenTiedAt
set_option linter.unusedSimpArgs false
set_option linter.unusedVariables false
namespace Go.Lg
open Go
attribute [simp] Cb D2 T.one AV.one Value.oneCell' Dm Fo Fj Av Hq ret qFG
@[simp] theorem qIF (a b:Int):(a == b)=decide (a=b):=rfl
@[simp] theorem qMv (a b:Int):(a != b)=!decide (a=b):=rfl
@[simp] theorem qMw (s:List UInt8):(ByteArray.mk s.toArray).size=s.length:=by simp [ByteArray.size]
def Af {α:Type} (f:α→T) (l:List α):List (List T):=l.map fun n=>[f n]
theorem A0 {α:Type} {f:α→T} {l:List α}:(Af f l).length=l.length:=by simp [Af]
theorem Bw {α:Type} {f:α→T} {l:List α} {i:Nat} (d:α) (h:i<l.length):(Af f l)[i]?.getD []=[f (l[i]?.getD d)]:=by simp [Af,h]
theorem A8 {α:Type} {f:α→T} {l:List α}:D5 1 (Af f l):=by
 intro e he; obtain ⟨x,_,rfl⟩:=List.mem_map.1 he; rfl
theorem q5e {α:Type} {f:α→T} {l m:List α}:Af f l++Af f m=Af f (l++m):=by simp [Af]
theorem Ir {α:Type} {f:α→T} {l:List α} {n:Nat} {x:α}:(Af f l).set n [f x]=Af f (l.set n x):=by simp [Af,List.map_set]
theorem By {α:Type} {f:α→T}:Af f []=[]:=rfl
@[simp] theorem qIG {s:Nat}:D5 s []:=fun e h=>by cases h
def Ao {α:Type} (f:α→List T) (l:List α):List (List T):=l.map f
theorem Aa {α:Type} {f:α→List T} {l:List α}:(Ao f l).length=l.length:=by simp [Ao]
theorem Dv {α:Type} {f:α→List T} {l:List α} {i:Nat} (d:α) (h:i<l.length):(Ao f l)[i]?.getD []=f (l[i]?.getD d):=by simp [Ao,h]
theorem q5f {α:Type} {f:α→List T} {l:List α} {s:Nat} (h:∀ x,(f x).length=s):D5 s (Ao f l):=by
 intro e he; obtain ⟨x,_,rfl⟩:=List.mem_map.1 he; exact h x
theorem q2f {α:Type} {f:α→List T} {l m:List α}:Ao f l++Ao f m=Ao f (l++m):=by simp [Ao]
@[simp] theorem An {α:Type} {f:α→T} {l:List α}:(Af f l).take l.length=Af f l:=by rw [List.take_of_length_le (by simp [Af])]
theorem Bz {α:Type} {f:α→T} {l:List α} {x:α}:Af f l++[[f x]]=Af f (l++[x]):=by simp [Af]
@[simp] theorem q9Y {α:Type} {f:α→List T} {l:List α}:(Ao f l).take l.length=Ao f l:=by rw [List.take_of_length_le (by simp [Ao])]
theorem q0c {α:Type} {f:α→List T} {l:List α} {x:α}:Ao f l++[f x]=Ao f (l++[x]):=by simp [Ao]
structure Sl (α:Type) where
 l:List α
 cap:Option Nat
 nl:Option Bool
abbrev tI (n:Int):T:=.v (.int .i64 n)
abbrev tK (n:Int):T:=.v (.int .u8 n)
abbrev tB (b:Bool):T:=.v (.bool b)
abbrev Ax (l:List Int):List (List T):=Af tI l
def B5 (s:Sl Int):T:=.sl (Ax s.l) s.cap s.nl
@[simp] theorem qKL {cs:List AV}:Ti (.bx cs)=∀ c ∈ cs,Fj c:=rfl
@[simp] theorem qKM {s:ByteArray} {p:Nat}:Ti (.it s p)=True:=rfl
@[simp] theorem qJA {ty s:Nat}:Ti (.sl ty s [])=True:=by simp [Ti]
theorem q1S {α:Type} {f:α→T} {l:List α} {ty s:Nat} (h:∀ x,Av (f x)=true):Ti (.sl ty s (Af f l)):=by
 intro e he t ht
 obtain ⟨x,_,rfl⟩:=List.mem_map.1 he
 simp only [List.mem_singleton] at ht; subst ht; exact h x
@[simp] theorem qLS {l:List Int} {ty s:Nat}:Ti (.sl ty s (Af tI l))=True:=eq_true (q1S fun _=>rfl)
@[simp] theorem qLT {l:List Int} {ty s:Nat}:Ti (.sl ty s (Af tK l))=True:=eq_true (q1S fun _=>rfl)
@[simp] theorem qLU {l:List Bool} {ty s:Nat}:Ti (.sl ty s (Af tB l))=True:=eq_true (q1S fun _=>rfl)
section
variable {P:Program} {Γ:Tables} {hp:List (Nat × Bc)} {f:FuncId} {avs:List AV} {K:T→Prop} {ts:List T} {res:T}
theorem Ad (h:Ae P Γ f ts res) (ht:Ai (avs.map toT)=some ts) (hk:K res):q5d P Γ hp f avs K ⟨⟩:=⟨res,.inl ⟨ts,ht,h⟩,hk⟩
theorem A3 (h:A6 P Γ f ts res) (ht:Ai (avs.map (Aj hp 4))=some ts) (hk:K res):q5d P Γ hp f avs K ⟨⟩:=⟨res,.inr ⟨ts,ht,h⟩,hk⟩
theorem B1 {ic:IC} {N n:Nat} {rvs:List RV} {args:List T} (hc:Aw P f ic N n rvs=true) (hn:args.length=n) (h:run P Γ ic (ret false rvs fun r=>r=res) ⟨params 0 args,[]⟩):Ae P Γ f args res:=by
 obtain ⟨r,h1,rfl⟩:=run_pure hc hn h; exact h1
theorem Ab {ic:IC} {N n:Nat} {rvs:List RV} {args:List T} (hc:Aw P f ic N n rvs=true) (hn:args.length=n) (h:run P Γ ic (ret true rvs fun r=>r=res) ⟨params 0 args,[]⟩):A6 P Γ f args res:=by
 obtain ⟨r,h1,rfl⟩:=qA3 hc hn h; exact h1
theorem Ht {ic:IC} {N n:Nat} {rvs:List RV} {args:List AV} {r0:AV} {hp':List (Nat × Bc)} (hc:Aw P f ic N n rvs=true) (hn:args.length=n) (h:run P Γ ic (qFG rvs fun r h=>r=r0∧h=hp') ⟨qAt 0 args,hp⟩):F9 P Γ f hp args r0 hp':=by
 obtain ⟨r,h',h1,rfl,rfl⟩:=qGY hc hn h; exact h1
end
end Go.Lg
namespace Go.Lg
open Go
section
variable {P:Program} {Γ:Tables} {Q:AX→St→Prop} {s:St}
/- probecard/netlists.Check (function 19) -/
abbrev Yv:IC:=(.seq (.reg [od 1 (.box true (tm 0)),od 2 (.mv (ki 0))] [kp [1] []]) (.seq (.reg [od 6 (lG 4 1),od 7 (.call 75 [(tm 6)]),om 5 7,od 8 (ex 5 0),od 9 (ex 5 1),om 3 8,om 4 9] [kp [4] []]) (.seq (.reg [om 10 4,om 2 10] [kp [2]
 []]) .ret)))
def Yw:List RV:=[.tmp 2]
/- probecard/netlists.Of (function 74) -/
abbrev q2g:IC:=.gh (.seq (.reg [od 12 (.bin .lss (tm 11) (tm 10))] [kp [1,5,9,10,11,12] [23]]) (.seq (.cond (tm 12) .skip (.exit 0)) (.seq (.block 1 (.seq (.reg [om 13 11,od 14 (ia 4 9 11),od 15 (lG 4 14),od 7 (.alloc false [(.int .u8 0),
 (.slice none 0 0),(.int .i64 0),(.int .i64 0)]),om 6 13,on (.store 4 (tm 7) (tm 15))] [kp [1,5,6,7,9,10,11] [7,23]]) (.seq (.reg [om 16 1,od 17 (fa 0 7),od 18 (ld 1 17),od 19 (.call 136 [(tm 16),(tm 18)])] [kp [1,5,
 6,9,10,11,19] [23]]) (.cond (tm 19) (.reg [om 20 5,om 21 6,od 22 (.bsl true 3 1 [(tm 21)]),od 23 (.app false 3 1 (tm 20) (tm 22)),om 5 23] [kp [1,5,9,10,11] [23]]) .skip)))) (.reg [od 24 (.bin .add (tm 11) (ki 1)),om
 11 24] [kp [1,5,9,10,11] [23]])))) [kp [1,5,9,10,11] [23]]
def Py:IC:=.loop q2g
abbrev q2h:IC:=(.seq (.reg [od 2 (.box true (tm 0)),od 4 (.mv kN)] [kp [1,2] []]) (.seq (.reg [od 5 (.mv kN)] [.nl 5 23 3 1,kp [1,2,5] [23]]) (.seq (.seq (.reg [od 8 (fa 0 2),od 9 (ld 1 8),od 10 (le 0 9),od 11 (.mv (ki 0))] [kp [1,5,9,
 10,11] [23]]) (.block 0 Py)) (.seq (.reg [om 25 5,od 26 (.hcall 70 [(tm 25)] [23] 26000),om 4 26] [kp [4] [23]]) .ret))))
theorem X9 (h:∀ K:St→Prop,K=run P Γ Py Q→run P Γ q2g (As K Q) s):run P Γ Py Q s:=Ah h
def q2i:List RV:=[.tmp 4]
/- probecard/netlists.States (function 18) -/
abbrev Xa:IC:=(.seq (.reg [od 1 (.box true (tm 0)),od 2 (.mv kN)] [kp [1] []]) (.seq (.reg [od 3 (lG 4 1),od 4 (.bsl true 43 1 [(ku 14)]),od 5 (.call 74 [(tm 3),(tm 4)]),om 2 5] [kp [2] []]) .ret))
def Xb:List RV:=[.tmp 2]
/- probecard/netlists.Comb (function 47) -/
abbrev q0d:IC:=(.seq (.reg [od 2 (.mv kF)] [kp [0] []]) (.seq (.reg [om 3 0,od 4 (.bin .geq (tm 3) (ku 1)),om 5 4,oT 6 (.mv (tm 0)) 5,oT 7 (.bin .leq (tm 6) (ku 13)) 5,od 8 (.pick (tm 5) (tm 7) kF),om 2 8] [kp [2] []]) .ret))
def q0e:List RV:=[.tmp 2]
/- slices.Clip[[]int,int] (function 70) -/
abbrev O9:IC:=(.seq (.reg [od 2 (.mv kN)] [kp [0] [1000000]]) (.seq (.reg [om 3 0,om 4 0,od 5 (le 0 4),om 6 0,od 7 (le 0 6),od 8 (.slice 1 (tm 3) none (some (tm 5)) (some (tm 7))),om 2 8] [kp [2] [1000000]]) .ret))
def Oa:List RV:=[.tmp 2]
/- probecard/netlists.Levels (function 75) -/
def F8:List RO:=[om 45 6,om 46 8,od 47 (ia 1 45 46),od 48 (ld 1 47),od 49 (.bin .eql (tm 48) (ki 0))]
def Mc:List RO:=[om 50 7,om 51 8,od 52 (.bsl true 3 1 [(tm 51)]),od 53 (.app false 3 1 (tm 50) (tm 52)),om 7 53]
def Md:List RO:=[od 54 (.bin .add (tm 31) (ki 1)),om 31 54]
abbrev Xc:IC:=.gh (.seq (.reg [od 32 (.bin .lss (tm 31) (tm 30))] [kp [1,5,6,7,29,30,31,32] [23,27,53]]) (.seq (.cond (tm 32) .skip (.exit 0)) (.seq (.block 1 (.seq (.reg [om 33 31,od 34 (ia 4 29 31),od 35 (lG 4 34),od 9 (.alloc
 false [(.int .u8 0),(.slice none 0 0),(.int .i64 0),(.int .i64 0)]),om 8 33,on (.store 4 (tm 9) (tm 35))] [kp [1,5,6,7,8,9,29,30,31] [9,23,27,53]]) (.seq (.seq (.reg [od 36 (fa 0 9),od 37 (ld 1 36),od 38 (.call 47
 [(tm 37)])] [kp [1,5,6,7,8,9,29,30,31,38] [9,23,27,53]]) (.cond (tm 38) (.reg [om 39 6,om 40 8,od 41 (fa 1 9),od 42 (ld 1 41),od 43 (le 0 42),od 44 (ia 1 39 40),on (.store 1 (tm 44) (tm 43))] [kp [1,5,6,7,8,
 29,30,31] [23,27,53]]) .skip)) (.seq (.reg F8 [kp [1,5,6,7,8,29,30,31,49] [23,27,53]]) (.cond (tm 49) (.reg Mc [kp [1,5,6,7,29,30,31] [23,27,53]]) .skip))))) (.reg
 Md [kp [1,5,6,7,29,30,31] [23,27,53]])))) [kp [1,5,6,7,29,30,31] [23,27,53]]
def Ia:IC:=.loop Xc
abbrev Xd:IC:=.gh (.seq (.reg [od 79 (.bin .lss (tm 78) (tm 77))] [kp [1,5,6,7,10,11,12,76,77,78,79] [23,27,53]]) (.seq (.cond (tm 79) .skip (.exit 4)) (.seq (.block 5 (.seq (.reg [od 80 (ia 2 76 78),od 81 (lG 2 80),od 14 (.alloc
 false [(.int .i64 0),(.int .i64 0)]),on (.store 2 (tm 14) (tm 81))] [kp [1,5,6,7,10,11,12,14,76,77,78] [14,23,27,53]]) (.seq (.seq (.reg [od 82 (fa 0 1),od 83 (ld 1 82),od 84 (fa 0 14),od 85 (ld 1 84),od 86 (ia 4
 83 85),od 87 (fa 0 86),od 88 (ld 1 87),od 89 (.call 47 [(tm 88)]),od 90 (.un .not (tm 89))] [kp [1,5,6,7,10,11,12,14,76,77,78,90] [14,23,27,53]]) (.cond (tm 90) (.exit 5) .skip)) (.seq (.reg [om 91 5,od 92 (fa 0
 14),od 93 (.ldR 14 1 false (tm 92)),om 94 5,od 95 (fa 0 14),od 96 (.ldR 14 1 false (tm 95)),od 97 (ia 1 94 96),od 98 (.ldR 23 1 false (tm 97)),om 99 5,om 100 12,od 101 (ia 1 99 100),od 102 (.ldR 23 1 false (tm 101)),od
 103 (.bin .add (tm 102) (ki 1)),od 104 (.mmx true [(tm 98),(tm 103)]),od 105 (ia 1 91 93),on (.stR 23 1 (tm 105) (tm 104))] [kp [1,5,6,7,10,11,12,14,76,77,78] [14,23,27,53]]) (.seq (.reg [om 106 6,od 107 (fa 0
 14),od 108 (ld 1 107),od 109 (ia 1 106 108),od 110 (ld 1 109),od 111 (.bin .sub (tm 110) (ki 1)),od 112 (ia 1 106 108),on (.store 1 (tm 112) (tm 111))] [kp [1,5,6,7,10,11,12,14,76,77,78] [14,23,27,53]]) (.seq
 (.reg [om 113 6,od 114 (fa 0 14),od 115 (ld 1 114),od 116 (ia 1 113 115),od 117 (ld 1 116),od 118 (.bin .eql (tm 117) (ki 0))] [kp [1,5,6,7,10,11,12,14,76,77,78,118] [14,23,27,53]]) (.cond (tm 118) (.reg [om 119
 7,od 120 (fa 0 14),od 121 (ld 1 120),od 122 (.bsl true 3 1 [(tm 121)]),oz 123 (.app false 3 1 (tm 119) (tm 122)) 53,om 7 123] [kp [1,5,6,7,10,11,12,76,77,78] [23,27,53]]) .skip))))))) (.reg [od 124 (.bin .add (tm
 78) (ki 1)),om 78 124] [kp [1,5,6,7,10,11,12,76,77,78] [23,27,53]])))) [kp [1,5,6,7,10,11,12,76,77,78] [23,27,53]]
def Ib:IC:=.loop Xd
abbrev Xe:IC:=.gh (.seq (.seq (.reg [om 57 11,om 58 7,od 59 (le 0 58),od 60 (.bin .lss (tm 57) (tm 59))] [kp [1,5,6,7,10,11,60] [23,27,53]]) (.cond (tm 60) .skip (.exit 2))) (.block 3 (.seq (.reg [om 61 7,om 62 11,od 63 (ia 1 61
 62),od 64 (ld 1 63),om 12 64] [kp [1,5,6,7,10,11,12] [23,27,53]]) (.seq (.reg [om 65 11,od 66 (.bin .add (tm 65) (ki 1)),om 11 66] [kp [1,5,6,7,10,11,12] [23,27,53]]) (.seq (.seq (.reg [om 67 10,om 68 12,od 69
 (ia 1 67 68),od 70 (ld 1 69),od 71 (le 0 70),od 72 (.bin .eql (tm 71) (ki 0))] [kp [1,5,6,7,10,11,12,72] [23,27,53]]) (.cond (tm 72) (.exit 3) .skip)) (.seq (.reg [om 73 10,om 74 12,od 75 (ia 1 73 74),od 76 (ld 1
 75),od 77 (le 0 76),od 78 (.mv (ki 0))] [kp [1,5,6,7,10,11,12,76,77,78] [23,27,53]]) (.block 4 Ib))))))) [kp [1,5,6,7,10,11] [23,27,53]]
def Ic:IC:=.loop Xe
abbrev Xf:IC:=(.seq (.reg [od 1 (.box true (tm 0)),od 2 (.mv kN),od 3 (.mv (ki 0))] [kp [1] []]) (.scope (.seq (.seq (.reg [od 15 (lG 4 1),od 16 (.call 137 [(tm 15)]),om 4 16] [kp [1,4] []]) (.seq (.reg [om 17 4,od 18 (.bin .neq (tm 17)
 (ki 0))] [kp [1,4,18] []]) (.cond (tm 18) (.seq (.reg [om 19 4,od 2 (.mv kN),om 3 19] [kp [2,3] [23]]) .ret) .skip))) (.seq (.reg [od 20 (fa 0 1),od 21 (ld 1 20),od 22 (le 0 21),od 23 (.mk 3 1 [(.int .i64 0)] (tm 22) (tm
 22)),om 5 23] [kp [1,5] [23]]) (.seq (.reg [od 24 (fa 0 1),od 25 (ld 1 24),od 26 (le 0 25),od 27 (.mk 3 1 [(.int .i64 0)] (tm 26) (tm 26)),om 6 27] [kp [1,5,6] [23,27]]) (.seq (.reg [od 7 (.mv kN)] [.nl 7 53 3 1,kp [1,5,
 6,7] [23,27,53]]) (.seq (.seq (.reg [od 28 (fa 0 1),od 29 (ld 1 28),od 30 (le 0 29),od 31 (.mv (ki 0))] [kp [1,5,6,7,29,30,31] [23,27,53]]) (.block 0 Ia)) (.seq (.reg [od 55 (lG 4 1),od 56 (.call 138
 [(tm 55)]),om 10 56] [kp [1,5,6,7,10] [23,27,53]]) (.seq (.reg [od 11 (.mv (ki 0))] [kp [1,5,6,7,10,11] [23,27,53]]) (.seq .skip (.seq (.block 2 Ic) (.seq (.seq (.reg [om 125 11,od 126 (fa 0 1),od
 127 (ld 1 126),od 128 (le 0 127),od 129 (.bin .lss (tm 125) (tm 128))] [kp [5,129] [23]]) (.cond (tm 129) (.seq (.reg [od 2 (.mv kN),od 3 (.mv (ki 6))] [kp [2,3] [23]]) .ret) .skip)) (.seq (.reg [om 130 5,om 2 130,od 3 (.mv
 (ki 0))] [kp [2,3] [23]]) .ret)))))))))))))
theorem Pz (h:∀ K:St→Prop,K=run P Γ Ia Q→run P Γ Xc (As K Q) s):run P Γ Ia Q s:=Ah h
theorem Q0 (h:∀ K:St→Prop,K=run P Γ Ib Q→run P Γ Xd (As K Q) s):run P Γ Ib Q s:=Ah h
theorem Q1 (h:∀ K:St→Prop,K=run P Γ Ic Q→run P Γ Xe (As K Q) s):run P Γ Ic Q s:=Ah h
attribute [simp] F8 Mc Md
def Ie:List RV:=[.tmp 2,.tmp 3]
/- slices.Contains[[]probecard/api.Kind,probecard/api.Kind] (function 136) -/
abbrev J8:IC:=(.seq (.reg [od 4 (.mv kF)] [kp [0,1] []]) (.seq (.reg [om 5 0,om 6 1,od 7 (.call 198 [(tm 5),(tm 6)]),od 8 (.bin .geq (tm 7) (ki 0)),om 4 8] [kp [4] []]) .ret))
def J9:List RV:=[.tmp 4]
/- probecard/netlists.shape (function 137) -/
abbrev Yx:IC:=.gh (.seq (.reg [od 39 (.bin .lss (tm 38) (tm 37))] [kp [1,36,37,38,39] []]) (.seq (.cond (tm 39) .skip (.exit 1)) (.seq (.block 2 (.seq (.reg [od 40 (ia 4 36 38),od 41 (lG 4 40),od 4 (.alloc false [(.int .u8 0),(.slice none
 0 0),(.int .i64 0),(.int .i64 0)]),on (.store 4 (tm 4) (tm 41))] [kp [1,4,36,37,38] [4]]) (.seq (.reg [od 42 (lG 4 1),od 43 (lG 4 4),od 44 (.call 199 [(tm 42),(tm 43)]),om 5 44] [kp [1,5,36,37,38] []]) (.seq (.reg
 [om 45 5,od 46 (.bin .neq (tm 45) (ki 0))] [kp [1,5,36,37,38,46] []]) (.cond (tm 46) (.seq (.reg [om 47 5,om 2 47] [kp [2] []]) .ret) .skip))))) (.reg [od 48 (.bin .add (tm 38) (ki 1)),om 38 48] [kp [1,36,37,38] []]))))
 [kp [1,36,37,38] []]
def Ja:IC:=.loop Yx
abbrev Yy:IC:=.gh (.seq (.reg [od 58 (.bin .lss (tm 57) (tm 56))] [kp [1,55,56,57,58] []]) (.seq (.cond (tm 58) .skip (.exit 3)) (.seq (.block 4 (.seq (.reg [od 59 (ia 3 55 57),od 60 (lG 3 59),od 8 (.alloc false [(.slice none 0 0),(.slice
 none 0 0),(.int .i64 0)]),on (.store 3 (tm 8) (tm 60))] [kp [1,8,55,56,57] [8]]) (.seq (.reg [od 61 (lG 4 1),od 62 (lG 3 8),od 63 (.call 201 [(tm 61),(tm 62)]),om 9 63] [kp [1,9,55,56,57] []]) (.seq (.reg [om 64 9,od
 65 (.bin .neq (tm 64) (ki 0))] [kp [1,9,55,56,57,65] []]) (.cond (tm 65) (.seq (.reg [om 66 9,om 2 66] [kp [2] []]) .ret) .skip))))) (.reg [od 67 (.bin .add (tm 57) (ki 1)),om 57 67] [kp [1,55,56,57] []])))) [kp [1,55,
 56,57] []]
def Jb:IC:=.loop Yy
abbrev Et:IC:=(.seq (.reg [od 1 (.box true (tm 0)),od 2 (.mv (ki 0))] [kp [1] []]) (.seq (.block 0 (.seq (.reg [od 11 (fa 0 1),od 12 (ld 1 11),od 13 (le 0 12),od 14 (.bin .gtr (tm 13) (ki 16384)),om 15 14,oF 16 (fa 2 1) 15,oF 17 (ld 1 16)
 15,oF 18 (le 0 17) 15,oF 19 (.bin .gtr (tm 18) (ki 16)) 15,od 20 (.pick (tm 15) kT (tm 19)),om 21 20,oF 22 (fa 3 1) 21,oF 23 (ld 1 22) 21,oF 24 (le 0 23) 21,oF 25 (.bin .gtr (tm 24) (ki 16384)) 21,od 26 (.pick (tm 21) kT
 (tm 25)),om 10 26] [kp [1,10] []]) (.cond (tm 10) (.seq (.reg [od 2 (.mv (ki 3))] [kp [2] []]) .ret) (.seq (.reg [od 28 (fa 1 1),od 29 (ld 1 28),od 30 (le 0 29),od 31 (fa 0 1),od 32 (ld 1 31),od 33 (le 0 32),od 34 (.bin
 .neq (tm 30) (tm 33)),om 27 34] [kp [1,27] []]) (.cond (tm 27) (.seq (.reg [od 2 (.mv (ki 8))] [kp [2] []]) .ret) .skip))))) (.seq (.seq (.reg [od 35 (fa 0 1),od 36 (ld 1 35),od 37 (le 0 36),od 38 (.mv (ki 0))] [kp [1,36,37,
 38] []]) (.block 1 Ja)) (.seq (.seq (.reg [od 49 (lG 4 1),od 50 (.call 200 [(tm 49)]),om 6 50] [kp [1,6] []]) (.seq (.reg [om 51 6,od 52 (.bin .neq (tm 51) (ki 0))] [kp [1,6,52] []]) (.cond (tm 52) (.seq (.reg
 [om 53 6,om 2 53] [kp [2] []]) .ret) .skip))) (.seq (.seq (.reg [od 54 (fa 2 1),od 55 (ld 1 54),od 56 (le 0 55),od 57 (.mv (ki 0))] [kp [1,55,56,57] []]) (.block 3 Jb)) (.seq (.seq (.reg [od 68 (fa 3 1),od 69
 (ld 1 68),od 70 (lG 4 1),od 71 (.call 203 [(tm 70)]),od 72 (.call 202 [(tm 69),(tm 71)])] [kp [72] []]) (.cond (tm 72) (.seq (.reg [od 2 (.mv (ki 1))] [kp [2] []]) .ret) .skip)) (.seq (.reg [od 2 (.mv (ki 0))] [kp [2] []])
 .ret)))))))
theorem Qs (h:∀ K:St→Prop,K=run P Γ Ja Q→run P Γ Yx (As K Q) s):run P Γ Ja Q s:=Ah h
theorem Qu (h:∀ K:St→Prop,K=run P Γ Jb Q→run P Γ Yy (As K Q) s):run P Γ Jb Q s:=Ah h
def Cf:List RV:=[.tmp 2]
/- probecard/netlists.Fanout (function 138) -/
def E4:List RO:=[om 37 3,om 38 8,om 39 3,om 40 8,od 41 (ia 1 39 40),od 42 (ld 1 41),om 43 5,om 44 7,od 45 (.build [(1,(tm 43)),(1,(tm 44))]),od 46 (.bsl true 190 2 [(tm 45)]),od 47 (.app false 190 2 (tm 42) (tm 46)),od 48 (ia 1 37
 38),on (.store 1 (tm 48) (tm 47))]
def Me:List RO:=[od 49 (.bin .add (tm 28) (ki 1)),om 28 49]
abbrev Xg:IC:=.gh (.seq (.reg [od 29 (.bin .lss (tm 28) (tm 27))] [.keepB [3,4,5,18,19,20,26,27,28,29] [14] 100000 16384]) (.seq (.cond (tm 29) .skip (.exit 2)) (.seq (.block 3 (.seq (.reg [om 30 28,od 31 (ia 1 26 28),od 32 (ld 1 31),
 om 7 30,om 8 32] [.keepB [3,4,5,7,8,18,19,20,26,27,28] [14] 100000 16384]) (.seq (.reg [om 33 4,om 34 8,od 35 (.callv (tm 33) [(tm 34)]),od 36 (.un .not (tm 35))] [.keepB [3,4,5,7,8,18,19,20,26,27,28,36]
 [14] 100000 16384]) (.cond (tm 36) (.reg E4 [.renS 47 100000 8,.keepB [3,4,5,18,19,20,26,27,28] [14] 100000 16384]) .skip)))) (.reg Me [.keepB [3,4,5,18,19,20,26,27,28] [14] 100000
 16384])))) [.keepB [3,4,5,18,19,20,26,27,28] [14] 100000 16384]
def Ig:IC:=.loop Xg
abbrev Xh:IC:=.gh (.seq (.reg [od 21 (.bin .lss (tm 20) (tm 19))] [.keepB [3,4,18,19,20,21] [14] 100000 16384]) (.seq (.cond (tm 21) .skip (.exit 0)) (.seq (.block 1 (.seq (.reg [om 22 20,od 23 (ia 4 18 20),od 24 (lG 4 23),od 6 (.alloc
 false [(.int .u8 0),(.slice none 0 0),(.int .i64 0),(.int .i64 0)]),om 5 22,on (.store 4 (tm 6) (tm 24))] [.keepB [3,4,5,6,18,19,20] [6,14] 100000 16384]) (.seq (.reg [od 25 (fa 1 6),od 26 (ld 1 25),od 27 (le 0 26),
 od 28 (.mv (ki 0))] [.keepB [3,4,5,18,19,20,26,27,28] [14] 100000 16384]) (.block 2 Ig)))) (.reg [od 50 (.bin .add (tm 20) (ki 1)),om 20 50] [.keepB [3,4,18,19,20] [14] 100000 16384])))) [.keepB [3,4,
 18,19,20] [14] 100000 16384]
def Ih:IC:=.loop Xh
abbrev Xi:IC:=.gh (.seq (.reg [od 54 (.bin .lss (tm 53) (tm 52))] [kp [3,51,52,53,54] [14,47]]) (.seq (.cond (tm 54) .skip (.exit 4)) (.seq (.block 5 (.seq (.reg [om 55 53,od 56 (ia 1 51 53),od 57 (ld 1 56),om 9 55,om 10 57] [kp [3,9,
 10,51,52,53] [14,47]]) (.reg [om 58 3,om 59 9,om 60 10,od 61 (.call 204 [(tm 60)]),od 62 (ia 1 58 59),on (.store 1 (tm 62) (tm 61))] [kp [3,51,52,53] [14,47]]))) (.reg [od 63 (.bin .add (tm 53) (ki 1)),om 53 63] [kp
 [3,51,52,53] [14,47]])))) [kp [3,51,52,53] [14,47]]
def Ii:IC:=.loop Xi
abbrev Xj:IC:=(.seq (.reg [od 1 (.box true (tm 0)),od 2 (.mv kN)] [kp [1] []]) (.seq (.reg [od 11 (fa 0 1),od 12 (ld 1 11),od 13 (le 0 12),od 14 (.mkB 188 [(.slice none 0 0)] (tm 13) (tm 13)),om 3 14] [.keepB [1,3] [14] 100000 16384])
 (.seq (.reg [od 15 (lG 4 1),od 16 (.call 203 [(tm 15)]),om 4 16] [.keepB [1,3,4] [14] 100000 16384]) (.seq (.seq (.reg [od 17 (fa 0 1),od 18 (ld 1 17),od 19 (le 0 18),od 20 (.mv (ki 0))] [.keepB [3,4,18,19,20] [14]
 100000 16384]) (.block 0 Ih)) (.seq (.seq (.reg [om 51 3,od 52 (le 0 51),od 53 (.mv (ki 0))] [.frzs 100000 16384,kp [3,51,52,53] [14,47]]) (.block 4 Ii)) (.seq (.reg [om 64 3,om 2 64] [kp [2]
 [14,47]]) .ret))))))
theorem Q2 (h:∀ K:St→Prop,K=run P Γ Ig Q→run P Γ Xg (As K Q) s):run P Γ Ig Q s:=Ah h
theorem Q3 (h:∀ K:St→Prop,K=run P Γ Ih Q→run P Γ Xh (As K Q) s):run P Γ Ih Q s:=Ah h
theorem Q4 (h:∀ K:St→Prop,K=run P Γ Ii Q→run P Γ Xi (As K Q) s):run P Γ Ii Q s:=Ah h
attribute [simp] E4 Me
def Xk:List RV:=[.tmp 2]
/- slices.Index[[]probecard/api.Kind,probecard/api.Kind] (function 198) -/
abbrev Na:IC:=.gh (.seq (.reg [od 9 (.bin .lss (tm 8) (tm 7))] [kp [0,1,7,8,9] []]) (.seq (.cond (tm 9) .skip (.exit 0)) (.seq (.block 1 (.seq (.reg [om 10 8,om 5 10] [kp [0,1,5,7,8] []]) (.seq (.reg [om 11 1,om 12 0,om 13 5,od 14
 (ia 1 12 13),od 15 (ld 1 14),od 16 (.bin .eql (tm 11) (tm 15))] [kp [0,1,5,7,8,16] []]) (.cond (tm 16) (.seq (.reg [om 17 5,om 4 17] [kp [4] []]) .ret) .skip)))) (.reg [od 18 (.bin .add (tm 8) (ki 1)),om 8 18] [kp [0,1,
 7,8] []])))) [kp [0,1,7,8] []]
def Ed:IC:=.loop Na
def H8:List RO:=[od 4 (.mv (.const (.int .i64 (-1))))]
abbrev Nb:IC:=(.seq (.reg [od 4 (.mv (ki 0))] [kp [0,1] []]) (.seq (.seq (.reg [om 6 0,od 7 (le 0 6),od 8 (.mv (ki 0))] [kp [0,1,7,8] []]) (.block 0 Ed)) (.seq (.reg H8 [kp [4] []]) .ret)))
theorem Is (h:∀ K:St→Prop,K=run P Γ Ed Q→run P Γ Na (As K Q) s):run P Γ Ed Q s:=Ah h
attribute [simp] H8
def Dn:List RV:=[.tmp 4]
/- probecard/logic.Fanin (function 153) -/
abbrev Xl:IC:=(.seq (.reg [od 2 (.mv (ki 0)),od 3 (.mv (ki 0))] [kp [0] []]) (.seq (.seq (.reg [om 4 0,od 5 (.conv .i64 (tm 4)),od 6 (.bin .geq (tm 5) (ki 16))] [kp [0,6] []]) (.cond (tm 6) (.seq (.reg [od 2 (.mv (ki 0)),od 3 (.mv (.const
 (.int .i64 (-1))))] [kp [2,3] []]) .ret) .skip)) (.seq (.reg [om 7 0,od 8 (.iadrA 16 2 (.global 0) (tm 7)),od 9 (.iadrA 2 1 (tm 8) (ki 0)),od 10 (ld 1 9),om 11 0,od 12 (.iadrA 16 2 (.global 0) (tm 11)),od 13 (.iadrA 2 1 (tm
 12) (ki 1)),od 14 (ld 1 13),om 2 10,om 3 14] [kp [2,3] []]) .ret)))
def Xm:List RV:=[.tmp 2,.tmp 3]
/- strings.IndexByte (function 298) -/
abbrev U2:IC:=(.seq (.reg [od 4 (.mv (ki 0))] [kp [0,1] []]) (.seq (.reg [om 5 0,om 6 1,od 7 (.call 304 [(tm 5),(tm 6)]),om 4 7] [kp [4] []]) .ret))
def U3:List RV:=[.tmp 4]
/- probecard/netlists.node (function 199) -/
abbrev q0f:IC:=(.seq (.reg [od 2 (.box true (tm 0)),od 3 (.box true (tm 1)),od 4 (.mv (ki 0))] [kp [2,3] []]) (.seq (.reg [od 9 (fa 0 3),od 10 (ld 1 9),od 11 (.call 153 [(tm 10)]),om 8 11,od 12 (ex 8 0),od 13 (ex 8 1),om 5 12,om 6 13]
 [kp [2,3,5,6] []]) (.seq (.reg [od 14 (.mkf 240 [(tm 2)]),om 7 14] [kp [2,3,5,6,7] []]) (.seq (.block 0 (.seq (.reg [od 16 (fa 0 3),od 17 (ld 1 16),od 18 (.bin .gtr (tm 17) (ku 15)),om 15 18] [kp [2,3,5,6,7,15] []])
 (.cond (tm 15) (.seq (.reg [od 4 (.mv (ki 7))] [kp [4] []]) .ret) (.seq (.reg [od 20 (fa 1 3),od 21 (ld 1 20),od 22 (le 0 21),om 23 5,od 24 (.bin .lss (tm 22) (tm 23)),om 25 24,oF 26 (fa 1 3) 25,oF 27 (ld 1 26) 25,oF 28 (le
 0 27) 25,oF 29 (.mv (tm 6)) 25,oF 30 (.bin .gtr (tm 28) (tm 29)) 25,od 31 (.pick (tm 25) kT (tm 30)),om 19 31] [kp [2,3,7,19] []]) (.cond (tm 19) (.seq (.reg [od 4 (.mv (ki 8))] [kp [4] []]) .ret) (.seq (.reg [od 33 (fa 1
 3),od 34 (ld 1 33),od 35 (lG 4 2),od 36 (.call 203 [(tm 35)]),od 37 (.call 202 [(tm 34),(tm 36)]),om 32 37] [kp [2,3,7,32] []]) (.cond (tm 32) (.seq (.reg [od 4 (.mv (ki 1))] [kp [4] []]) .ret) (.seq (.reg [od 39 (fa 0 3),
 od 40 (ld 1 39),od 41 (.bin .eql (tm 40) (ku 13)),om 42 41,oT 43 (fa 1 3) 42,oT 44 (ld 1 43) 42,oT 45 (.mv (tm 7)) 42,oT 46 (.call 202 [(tm 44),(tm 45)]) 42,od 47 (.pick (tm 42) (tm 46) kF),om 38 47] [kp [2,3,38] []])
 (.cond (tm 38) (.seq (.reg [od 4 (.mv (ki 7))] [kp [4] []]) .ret) (.seq (.reg [od 49 (lG 4 2),od 50 (lG 4 3),od 51 (.call 241 [(tm 49),(tm 50)]),od 52 (.un .not (tm 51)),om 48 52] [kp [48] []]) (.cond (tm 48) (.seq (.reg [od 4
 (.mv (ki 1))] [kp [4] []]) .ret) .skip))))))))))) (.seq (.reg [od 4 (.mv (ki 0))] [kp [4] []]) .ret)))))
def Dw:List RV:=[.tmp 4]
/- probecard/netlists.names (function 200) -/
abbrev Yz:IC:=.gh (.seq (.reg [od 11 (.bin .lss (tm 10) (tm 9))] [kp [3,8,9,10,11] [6]]) (.seq (.cond (tm 11) .skip (.exit 0)) (.seq (.block 1 (.seq (.reg [od 12 (ia 1 8 10),od 13 (ld 1 12),om 5 13] [kp [3,5,8,9,10] [6]]) (.seq (.seq
 (.reg [om 14 5,od 15 (.call 242 [(tm 14)]),od 16 (.un .not (tm 15)),om 17 16,oF 18 (.mv (tm 3)) 17,oF 19 (.mv (tm 5)) 17,oF 20 (.lkup .str (.bool false) false (tm 18) (tm 19)) 17,od 21 (.pick (tm 17) kT (tm 20))] [kp [3,5,
 8,9,10,21] [6]]) (.cond (tm 21) (.seq (.reg [od 2 (.mv (ki 5))] [kp [2] []]) .ret) .skip)) (.reg [om 22 3,om 23 5,on (.mup .str (tm 22) (tm 23) kT)] [kp [3,8,9,10] [6]])))) (.reg [od 24 (.bin .add (tm 10) (ki 1)),om 10 24]
 [kp [3,8,9,10] [6]])))) [kp [3,8,9,10] [6]]
def Jc:IC:=.loop Yz
abbrev Z0:IC:=(.seq (.reg [od 1 (.box true (tm 0)),od 2 (.mv (ki 0))] [kp [1] []]) (.seq (.reg [od 6 (.mkmap),om 3 6] [kp [1,3] [6]]) (.seq (.seq (.reg [od 7 (fa 1 1),od 8 (ld 1 7),od 9 (le 0 8),od 10 (.mv (ki 0))] [kp [3,8,9,10] [6]])
 (.block 0 Jc)) (.seq (.reg [od 2 (.mv (ki 0))] [kp [2] []]) .ret))))
theorem Qv (h:∀ K:St→Prop,K=run P Γ Jc Q→run P Γ Yz (As K Q) s):run P Γ Jc Q s:=Ah h
def Q5:List RV:=[.tmp 2]
/- probecard/netlists.memory (function 201) -/
abbrev Xn:IC:=(.seq (.reg [od 2 (.box true (tm 0)),od 3 (.box true (tm 1)),od 4 (.mv (ki 0))] [kp [2,3] []]) (.seq (.reg [od 5 (.mv (.func 243))] [kp [2,3,5] []]) (.seq (.reg [od 7 (lG 4 2),od 8 (.call 203 [(tm 7)]),om 6 8] [kp [3,5,6]
 []]) (.seq (.block 0 (.seq (.reg [om 10 5,od 11 (fa 0 3),od 12 (ld 1 11),od 13 (.callv (tm 10) [(tm 12),(ki 8)]),om 14 13,oF 15 (.mv (tm 5)) 14,oF 16 (fa 1 3) 14,oF 17 (ld 1 16) 14,oF 18 (.callv (tm 15) [(tm 17),(ki 32)])
 14,od 19 (.pick (tm 14) kT (tm 18)),om 9 19] [kp [3,6,9] []]) (.cond (tm 9) (.seq (.reg [od 4 (.mv (ki 8))] [kp [4] []]) .ret) (.seq (.reg [od 21 (fa 0 3),od 22 (ld 1 21),om 23 6,od 24 (.call 202 [(tm 22),(tm 23)]),om 25
 24,oF 26 (fa 1 3) 25,oF 27 (ld 1 26) 25,oF 28 (.mv (tm 6)) 25,oF 29 (.call 202 [(tm 27),(tm 28)]) 25,od 30 (.pick (tm 25) kT (tm 29)),om 31 30,oF 32 (.mv (tm 6)) 31,oF 33 (fa 2 3) 31,oF 34 (ld 1 33) 31,oF 35 (.callv (tm
 32) [(tm 34)]) 31,od 36 (.pick (tm 31) kT (tm 35)),om 20 36] [kp [20] []]) (.cond (tm 20) (.seq (.reg [od 4 (.mv (ki 1))] [kp [4] []]) .ret) .skip))))) (.seq (.reg [od 4 (.mv (ki 0))] [kp [4] []]) .ret)))))
def Ds:List RV:=[.tmp 4]
/- slices.ContainsFunc[[]int,int] (function 202) -/
abbrev K6:IC:=(.seq (.reg [od 4 (.mv kF)] [kp [0,1] []]) (.seq (.reg [om 5 0,om 6 1,od 7 (.call 244 [(tm 5),(tm 6)]),od 8 (.bin .geq (tm 7) (ki 0)),om 4 8] [kp [4] []]) .ret))
def K7:List RV:=[.tmp 4]
/- probecard/netlists.outside (function 203) -/
abbrev Vm:IC:=(.seq (.reg [od 1 (.box true (tm 0)),od 2 (.mv (.const .nilFunc))] [kp [1] []]) (.seq (.reg [od 3 (.mkf 245 [(tm 1)]),om 2 3] [kp [2] []]) .ret))
def Vn:List RV:=[.tmp 2]
/- slices.Clip[[]probecard/api.Line,probecard/api.Line] (function 204) -/
abbrev Ox:IC:=(.seq (.reg [od 2 (.mv kN)] [kp [0] []]) (.seq (.reg [om 3 0,om 4 0,od 5 (le 0 4),om 6 0,od 7 (le 0 6),od 8 (.slice 2 (tm 3) none (some (tm 5)) (some (tm 7))),om 2 8] [kp [2] []]) .ret))
def Oy:List RV:=[.tmp 2]
/- internal/stringslite.IndexByte (function 304) -/
abbrev K8:IC:=(.seq (.reg [od 4 (.mv (ki 0))] [kp [0,1] []]) (.seq (.reg [om 5 0,om 6 1,od 7 (.call 305 [(tm 5),(tm 6)]),om 4 7] [kp [4] []]) .ret))
def K9:List RV:=[.tmp 4]
/- probecard/netlists.node$1 (function 240) -/
abbrev Xo:IC:=(.seq (.reg [od 3 (.mv kF)] [kp [0,1] []]) (.seq (.reg [od 4 (fa 0 1),od 5 (ld 1 4),om 6 0,od 7 (ia 4 5 6),od 8 (fa 0 7),od 9 (ld 1 8),od 10 (.bin .neq (tm 9) (ku 12)),om 3 10] [kp [3] []]) .ret))
def Xp:List RV:=[.tmp 3]
/- probecard/netlists.bit (function 241) -/
abbrev Ey:IC:=(.seq (.reg [od 2 (.box true (tm 0)),od 3 (.box true (tm 1)),od 4 (.mv kF)] [kp [2,3] []]) (.seq (.seq (.reg [od 5 (fa 0 3),od 6 (ld 1 5),od 7 (.bin .neq (tm 6) (ku 15))] [kp [2,3,7] []]) (.cond (tm 7) (.seq (.reg [od 8 (fa
 2 3),od 9 (ld 1 8),od 10 (.bin .eql (tm 9) (ki 0)),om 11 10,oT 12 (fa 3 3) 11,oT 13 (ld 1 12) 11,oT 14 (.bin .eql (tm 13) (ki 0)) 11,od 15 (.pick (tm 11) (tm 14) kF),om 4 15] [kp [4] []]) .ret) .skip)) (.seq (.reg [od 16
 (fa 2 3),od 17 (ld 1 16),od 18 (.bin .geq (tm 17) (ki 0)),om 19 18,oT 20 (fa 2 3) 19,oT 21 (ld 1 20) 19,oT 22 (fa 2 2) 19,oT 23 (ld 1 22) 19,oT 24 (le 0 23) 19,oT 25 (.bin .lss (tm 21) (tm 24)) 19,od 26 (.pick (tm 19) (tm
 25) kF),om 27 26,oT 28 (fa 3 3) 27,oT 29 (ld 1 28) 27,oT 30 (.bin .geq (tm 29) (ki 0)) 27,od 31 (.pick (tm 27) (tm 30) kF),om 32 31,oT 33 (fa 3 3) 32,oT 34 (ld 1 33) 32,oT 35 (fa 2 2) 32,oT 36 (ld 1 35) 32,oT 37 (fa 2 3)
 32,oT 38 (ld 1 37) 32,oT 39 (ia 3 36 38) 32,oT 40 (fa 1 39) 32,oT 41 (ld 1 40) 32,oT 42 (le 0 41) 32,oT 43 (.bin .lss (tm 34) (tm 42)) 32,od 44 (.pick (tm 32) (tm 43) kF),om 4 44] [kp [4] []]) .ret)))
def Ez:List RV:=[.tmp 4]
/- probecard/netlists.IsName (function 242) -/
abbrev Ij:IC:=(.seq (.reg [od 2 (.mv kF)] [kp [0] []]) (.seq (.reg [od 3 (.mv (.func 268))] [kp [0,3] []]) (.seq (.reg [om 4 0,od 5 (.bin .neq (tm 4) (.const (sV []))),om 6 5,oT 7 (.mv (tm 0)) 6,oT 8 (le 1 7) 6,oT 9 (.bin .leq (tm 8) (ki
 32)) 6,od 10 (.pick (tm 6) (tm 9) kF),om 11 10,oT 12 (.mv (tm 0)) 11,oT 13 (.mv (tm 3)) 11,oT 14 (.call 270 [(tm 12),(tm 13)]) 11,oT 15 (.un .not (tm 14)) 11,od 16 (.pick (tm 11) (tm 15) kF),om 2 16] [kp [2] []]) .ret)))
def Ik:List RV:=[.tmp 2]
/- probecard/netlists.memory$1 (function 243) -/
abbrev U4:IC:=(.seq (.reg [od 4 (.mv kF)] [kp [0,1] []]) (.seq (.reg [om 5 0,od 6 (le 0 5),od 7 (.bin .eql (tm 6) (ki 0)),om 8 7,oF 9 (.mv (tm 0)) 8,oF 10 (le 0 9) 8,oF 11 (.mv (tm 1)) 8,oF 12 (.bin .gtr (tm 10) (tm 11)) 8,od 13 (.pick
 (tm 8) kT (tm 12)),om 4 13] [kp [4] []]) .ret))
def U5:List RV:=[.tmp 4]
/- slices.IndexFunc[[]int,int] (function 244) -/
abbrev Oz:IC:=.gh (.seq (.reg [od 9 (.bin .lss (tm 8) (tm 7))] [kp [0,1,7,8,9] []]) (.seq (.cond (tm 9) .skip (.exit 0)) (.seq (.block 1 (.seq (.reg [om 10 8,om 5 10] [kp [0,1,5,7,8] []]) (.seq (.reg [om 11 1,om 12 0,om 13 5,od 14
 (ia 1 12 13),od 15 (ld 1 14),od 16 (.callv (tm 11) [(tm 15)])] [kp [0,1,5,7,8,16] []]) (.cond (tm 16) (.seq (.reg [om 17 5,om 4 17] [kp [4] []]) .ret) .skip)))) (.reg [od 18 (.bin .add (tm 8) (ki 1)),om 8 18] [kp [0,1,7,
 8] []])))) [kp [0,1,7,8] []]
def Eu:IC:=.loop Oz
abbrev P0:IC:=(.seq (.reg [od 4 (.mv (ki 0))] [kp [0,1] []]) (.seq (.seq (.reg [om 6 0,od 7 (le 0 6),od 8 (.mv (ki 0))] [kp [0,1,7,8] []]) (.block 0 Eu)) (.seq (.reg [od 4 (.mv (.const (.int .i64 (-1))))] [kp [4] []])
 .ret)))
theorem Jd (h:∀ K:St→Prop,K=run P Γ Eu Q→run P Γ Oz (As K Q) s):run P Γ Eu Q s:=Ah h
def Hu:List RV:=[.tmp 4]
/- probecard/netlists.outside$1 (function 245) -/
abbrev Qx:IC:=(.seq (.reg [od 3 (.mv kF)] [kp [0,1] []]) (.seq (.reg [om 4 0,od 5 (.bin .lss (tm 4) (ki 0)),om 6 5,oF 7 (.mv (tm 0)) 6,oF 8 (fa 0 1) 6,oF 9 (ld 1 8) 6,oF 10 (le 0 9) 6,oF 11 (.bin .geq (tm 7) (tm 10)) 6,od 12 (.pick (tm
 6) kT (tm 11)),om 3 12] [kp [3] []]) .ret))
def Qy:List RV:=[.tmp 3]
/- probecard/netlists.IsName$1 (function 268) -/
abbrev Gu:IC:=(.seq (.reg [od 2 (.mv kF)] [kp [0] []]) (.seq (.reg [om 3 0,od 4 (.bin .leq (tm 3) (.const (.int .i32 32))),om 5 4,oF 6 (.mv (tm 0)) 5,oF 7 (.bin .gtr (tm 6) (.const (.int .i32 126))) 5,od 8 (.pick (tm 5) kT (tm 7)),om 9 8,
 oF 10 (.mv (tm 0)) 9,oF 11 (.call 269 [(.const (sV [40,41,61,44,35])),(tm 10)]) 9,od 12 (.pick (tm 9) kT (tm 11)),om 2 12] [kp [2] []]) .ret))
def Gv:List RV:=[.tmp 2]
/- strings.ContainsRune (function 269) -/
abbrev P1:IC:=(.seq (.reg [od 4 (.mv kF)] [kp [0,1] []]) (.seq (.reg [om 5 0,om 6 1,od 7 (.call 288 [(tm 5),(tm 6)]),od 8 (.bin .geq (tm 7) (ki 0)),om 4 8] [kp [4] []]) .ret))
def P2:List RV:=[.tmp 4]
/- strings.ContainsFunc (function 270) -/
abbrev P3:IC:=(.seq (.reg [od 4 (.mv kF)] [kp [0,1] []]) (.seq (.reg [om 5 0,om 6 1,od 7 (.call 289 [(tm 5),(tm 6)]),od 8 (.bin .geq (tm 7) (ki 0)),om 4 8] [kp [4] []]) .ret))
def P4:List RV:=[.tmp 4]
/- strings.IndexRune (function 288) -/
abbrev U6:IC:=(.seq (.reg [od 4 (.mv (ki 0))] [kp [0,1] []]) (.block 0 (.seq (.reg [om 161 1,od 162 (.bin .leq (.const (.int .i32 0)) (tm 161)),om 163 162,oT 164 (.mv (tm 1)) 163,oT 165 (.bin .lss (tm 164) (.const (.int .i32 128))) 163,od
 166 (.pick (tm 163) (tm 165) kF),om 160 166] [kp [0,1,160] []]) (.cond (tm 160) (.seq (.reg [om 167 0,om 168 1,od 169 (.conv .u8 (tm 168)),od 170 (.call 298 [(tm 167),(tm 169)]),om 4 170] [kp [4] []]) .ret) (.seq (.reg [om
 172 1,od 173 (.bin .eql (tm 172) (.const (.int .i32 65533))),om 171 173] [kp [1,171] []]) (.cond (tm 171) .dead (.seq (.reg [om 184 1,od 185 (.call 299 [(tm 184)]),od 186 (.un .not (tm 185)),om 183 186] [kp [183] []]) (.cond
 (tm 183) .dead .dead))))))))
def U7:List RV:=[.tmp 4]
/- strings.IndexFunc (function 289) -/
abbrev U8:IC:=(.seq (.reg [od 4 (.mv (ki 0))] [kp [0,1] []]) (.seq (.reg [om 5 0,om 6 1,od 7 (.call 302 [(tm 5),(tm 6),kT]),om 4 7] [kp [4] []]) .ret))
def U9:List RV:=[.tmp 4]
/- unicode/utf8.ValidRune (function 299) -/
abbrev Ua:IC:=.gh (.seq (.reg [od 11 (.nxt (tm 10)),od 12 (ex 11 0)] [kp [1,2,10,11,12] [10]]) (.seq (.cond (tm 12) .skip (.exit 0)) (.block 1 (.seq (.reg [od 13 (ex 11 1),od 14 (ex 11 2),om 7 13,om 8 14] [kp [1,2,7,8,10] [10]])
 (.seq (.reg [om 15 1,om 16 8,od 17 (.callv (tm 15) [(tm 16)]),om 18 2,od 19 (.eqb true (tm 17) (tm 18))] [kp [1,2,7,10,19] [10]]) (.cond (tm 19) (.seq (.reg [om 20 7,om 6 20] [kp [6] []]) .ret) .skip)))))) [kp [1,2,10]
 [10]]
def Gw:IC:=.loop Ua
abbrev Ub:IC:=(.seq (.reg [od 6 (.mv (ki 0))] [kp [0,1,2] []]) (.seq (.seq (.reg [om 9 0,od 10 (.rng (tm 9))] [kp [1,2,10] [10]]) (.block 0 Gw)) (.seq (.reg [od 6 (.mv (.const (.int .i64 (-1))))] [kp [6] []]) .ret)))
theorem Nc (h:∀ K:St→Prop,K=run P Γ Gw Q→run P Γ Ua (As K Q) s):run P Γ Gw Q s:=Ah h
def Ko:List RV:=[.tmp 6]
/- slices.Clone[[]int,int] (function 224) -/
end
end Go.Lg
namespace Go.Lg
open Go Go.Proofs
theorem q4l:Aw Tryz.prog 19 Yv 11 1 Yw=true:=by kernel_rfl
theorem q7k:Aw Tryz.prog 74 q2h 27 2 q2i=true:=by kernel_rfl
theorem q3h:Aw Tryz.prog 18 Xa 6 1 Xb=true:=by kernel_rfl
theorem q5g:Aw Tryz.prog 47 q0d 9 1 q0e=true:=by kernel_rfl
theorem Vo:Aw Tryz.prog 70 O9 9 1 Oa=true:=by kernel_rfl
theorem q3i:Aw Tryz.prog 75 Xf 131 1 Ie=true:=by kernel_rfl
theorem V9:Aw Tryz.prog 136 J8 9 2 J9=true:=by kernel_rfl
theorem q4m:Aw Tryz.prog 137 Et 73 1 Cf=true:=by kernel_rfl
theorem q3j:Aw Tryz.prog 138 Xj 65 1 Xk=true:=by kernel_rfl
theorem Yn:Aw Tryz.prog 198 Nb 19 2 Dn=true:=by kernel_rfl
theorem q7l:Aw Tryz.prog 153 Xl 15 1 Xm=true:=by kernel_rfl
theorem q2H:Aw Tryz.prog 298 U2 8 2 U3=true:=by kernel_rfl
theorem q5h:Aw Tryz.prog 199 q0f 53 2 Dw=true:=by kernel_rfl
theorem q4n:Aw Tryz.prog 200 Z0 25 1 Q5=true:=by kernel_rfl
theorem q3k:Aw Tryz.prog 201 Xn 37 2 Ds=true:=by kernel_rfl
theorem We:Aw Tryz.prog 202 K6 9 2 K7=true:=by kernel_rfl
theorem q2j:Aw Tryz.prog 203 Vm 4 1 Vn=true:=by kernel_rfl
theorem q0A:Aw Tryz.prog 204 Ox 9 1 Oy=true:=by kernel_rfl
theorem Wg:Aw Tryz.prog 304 K8 8 2 K9=true:=by kernel_rfl
theorem q3l:Aw Tryz.prog 240 Xo 11 2 Xp=true:=by kernel_rfl
theorem q6g:Aw Tryz.prog 241 Ey 45 2 Ez=true:=by kernel_rfl
theorem q3m:Aw Tryz.prog 242 Ij 17 1 Ik=true:=by kernel_rfl
theorem q2I:Aw Tryz.prog 243 U4 14 2 U5=true:=by kernel_rfl
theorem q0B:Aw Tryz.prog 244 P0 19 2 Hu=true:=by kernel_rfl
theorem q1T:Aw Tryz.prog 245 Qx 13 2 Qy=true:=by kernel_rfl
theorem q2J:Aw Tryz.prog 268 Gu 13 1 Gv=true:=by kernel_rfl
theorem q0C:Aw Tryz.prog 269 P1 9 2 P2=true:=by kernel_rfl
theorem q0D:Aw Tryz.prog 270 P3 9 2 P4=true:=by kernel_rfl
theorem q2K:Aw Tryz.prog 288 U6 187 2 U7=true:=by kernel_rfl
theorem q2L:Aw Tryz.prog 289 U8 8 2 U9=true:=by kernel_rfl
theorem q2M:Aw Tryz.prog 302 Ub 21 3 Ko=true:=by kernel_rfl
end Go.Lg
set_option maxRecDepth 100000
namespace Go.Lg
open Go Go.Proofs
variable {Γ:Tables}
theorem q5i (es:List (List T)) (cap:Option Nat) (nl:Option Bool) (hw:D5 1 es):Ae Tryz.prog Γ 70 [.sl es cap nl] (.sl es (some es.length) nl):=by
 refine B1 Vo rfl ?_
 simp [O9,Oa,ret,hw]
theorem qA7 (es:List (List T)) (cap:Option Nat) (nl:Option Bool) (hw:D5 2 es):Ae Tryz.prog Γ 204 [.sl es cap nl] (.sl es (some es.length) nl):=by
 refine B1 q0A rfl ?_
 simp [Ox,Oy,ret,hw]
theorem qDN (ty:Nat) (es:List (List T)) (len:Nat) (cap:Option Nat) (hw:D5 1 es):F9 Tryz.prog Γ 70 [(1000000,.sl ty 1 es)] [.ls 1000000 0 len cap] (.ls 1000000 0 len (some len)) [(1000000,.sl ty 1 es)]:=by
 refine Ht Vo rfl ?_
 simp [O9,Oa,qFG,hw]
def q0E {α:Type} (p:α→Bool) (l:List α):Int:=match l.findIdx? p with | some i=>i | none => -1
theorem q1U {α:Type} {p:α→Bool} {l:List α} {i:Nat} (hp:∀ j,j<i→∀ x,l[j]? = some x→p x=false) (x:α) (hx:l[i]? = some x) (h:p x=true):l.findIdx? p=some i:=by
 rw [List.findIdx?_eq_some_iff_getElem]
 have hi:=(List.getElem?_eq_some_iff.1 hx).1
 refine ⟨hi,?_,fun j hj=>?_⟩
 ·have:=(List.getElem?_eq_some_iff.1 hx).2; rw [this]; exact h
 ·have:=hp j hj l[j] (List.getElem?_eq_getElem (by omega))
  simp [this]
theorem q1t (l:List Int) (c:Option Nat) (nl:Option Bool) (x:Int) (hl:l.length≤1000000000):∀ (k i:Nat),k+i=l.length→(∀ j,j<i→∀ y,l[j]? = some y→(y == x)=false) →
  run Tryz.prog Γ Ed (M9 0 (As (run Tryz.prog Γ (.seq (.reg H8 [.keep [4] []]) .ret) (ret true Dn fun r=>r=tI (q0E (· == x) l))) (ret true Dn fun r=>r=tI (q0E (· == x) l)))) ⟨[(0,.t (.sl (Af tK l) c nl)),(1,.t (tK x)),(7,.t (tI l.length)),(8,.t (tI i))],[]⟩
 | 0,i,h,hp=>by
  refine Is fun K hK=>?_
  have h2:¬ i<l.length:=by omega
  simp (disch:=omega) [A0,Bw (0:Int),A8,A5,h2,ret,Dn,Dm,Fo,Fj,Av]
  have:l.findIdx? (· == x)=none:=by
   rw [List.findIdx?_eq_none_iff]
   intro y hy
   obtain ⟨j,hj,rfl⟩:=List.getElem_of_mem hy
   exact hp j (by omega) _ (List.getElem?_eq_getElem hj)
  have e:l.findIdx? (fun y=>decide (y=x))=_:=this
  simp [q0E,e]
 | k+1,i,h,hp=>by
  refine Is fun K hK=>?_
  have h2:i<l.length:=by omega
  simp (disch:=omega) [A0,Bw (0:Int),A8,A5,h2]
  refine ⟨fun hc=>?_,fun hc=>?_⟩
  ·simp [Bh,ret,Dn,Dm,Fo,Fj,Av]
   have:=q1U (p:=(· == x)) hp l[i] (List.getElem?_eq_getElem h2) (by simp [hc])
   have e:l.findIdx? (fun y=>decide (y=x))=_:=this
   simp [q0E,e]
  ·simp (disch:=omega) [Bh,A5]
   rw [hK]
   exact_mod_cast q1t l c nl x hl k (i+1) (by omega) (fun j hj y hy=>by
    rcases Nat.lt_succ_iff_lt_or_eq.1 hj with hj | rfl
    ·exact hp j hj y hy
    ·rw [List.getElem?_eq_getElem h2] at hy; simp at hy; subst hy
     simp; exact fun e=>hc e.symm)
theorem qDO (l:List Int) (c:Option Nat) (nl:Option Bool) (x:Int) (hl:l.length≤1000000000):A6 Tryz.prog Γ 198 [.sl (Af tK l) c nl,tK x] (tI (q0E (· == x) l)):=by
 refine Ab Yn rfl ?_
 simp (disch:=omega) [Nb,A0,A5]
 exact_mod_cast q1t l c nl x hl l.length 0 (by omega) (by simp)
theorem q9Z (l:List Int) (c:Option Nat) (nl:Option Bool) (x:Int) (hl:l.length≤1000000000):A6 Tryz.prog Γ 136 [.sl (Af tK l) c nl,tK x] (tB (l.contains x)):=by
 refine Ab V9 rfl ?_
 simp (disch:=omega) [J8,A0,A5]
 refine A3 (qDO l c nl x hl) rfl ?_
 simp [ret,J9,Dm,Fo,Fj,Av]
 unfold q0E
 cases h:l.findIdx? (· == x) with
 | none =>
  rw [List.findIdx?_eq_none_iff] at h
  have:¬ x ∈ l:=fun hx=>by simpa using h x hx
  simp [this]
 | some i =>
  rw [List.findIdx?_eq_some_iff_getElem] at h
  obtain ⟨hi,h1,_⟩:=h
  have:x ∈ l:=by rw [← (show l[i]=x by simpa using h1)]; exact List.getElem_mem hi
  simp [this]
theorem Z1 {cs:List T}:Ai (cs.map fun t=>some t)=some cs:=by
 induction cs with
 | nil=>rfl
 | cons t cs ih=>simp only [List.map_cons,Ai,ih,Option.map_some]
theorem Xq {hp:List (Nat × Bc)} {f:FuncId} {K:T→Prop} {cs:List T} {t res:T} (h:A6 Tryz.prog Γ f (t::cs) res) (hk:K res):q5d Tryz.prog Γ hp f (.t t::cs.map .t) K ⟨⟩ :=
 A3 h (by simp only [List.map_cons,List.map_map,Function.comp_def,Ai,Aj]; rw [Z1]; rfl) hk
theorem q2k {Q:AX→St→Prop} (l:List Int) (c:Option Nat) (nl:Option Bool) (f:FuncId) (cs:List T) (p:Int→Bool) (hp:∀ x ∈ l,A6 Tryz.prog Γ f (tI x::cs) (tB (p x))) (hl:l.length≤1000000000)
  (h0:(∀ x ∈ l,p x=false)→Q (.exit 0) ⟨[(0,.t (.sl (Ax l) c nl)),(1,.t (.fn f cs)),(7,.t (tI l.length)),(8,.t (tI l.length)),(9,.t (tB false))],[]⟩)
  (h1:∀ i:Nat,l.findIdx? p=some i→Q .ret ⟨[(4,.t (tI i))],[]⟩):∀ (k i:Nat),k+i=l.length→(∀ j,j<i→∀ y,l[j]? = some y→p y=false) →
  run Tryz.prog Γ Eu Q ⟨[(0,.t (.sl (Ax l) c nl)),(1,.t (.fn f cs)),(7,.t (tI l.length)),(8,.t (tI i))],[]⟩
 | 0,i,h,hq=>by
  refine Jd fun K hK=>?_
  have h2:¬ i<l.length:=by omega
  simp (disch:=omega) [A0,Bw (0:Int),A8,A5,h2]
  have h3:i=l.length:=by omega
  subst h3
  refine h0 fun y hy=>?_
  obtain ⟨j,hj,rfl⟩:=List.getElem_of_mem hy
  exact hq j (by omega) _ (List.getElem?_eq_getElem hj)
 | k+1,i,h,hq=>by
  refine Jd fun K hK=>?_
  have h2:i<l.length:=by omega
  simp (disch:=omega) [A0,Bw (0:Int),A8,A5,h2]
  refine Xq (hp l[i] (List.getElem_mem h2)) ?_
  simp
  refine ⟨fun hc=>?_,fun hc=>?_⟩
  ·simp [Bh]
   exact h1 i (q1U hq l[i] (List.getElem?_eq_getElem h2) hc)
  ·simp (disch:=omega) [Bh,A5]
   rw [hK]
   exact_mod_cast q2k l c nl f cs p hp hl h0 h1 k (i+1) (by omega) (fun j hj y hy=>by
    rcases Nat.lt_succ_iff_lt_or_eq.1 hj with hj | rfl
    ·exact hq j hj y hy
    ·rw [List.getElem?_eq_getElem h2] at hy; simp at hy; subst hy; exact hc)
theorem q9a (l:List Int) (c:Option Nat) (nl:Option Bool) (f:FuncId) (cs:List T) (p:Int→Bool) (hp:∀ x ∈ l,A6 Tryz.prog Γ f (tI x::cs) (tB (p x))) (hl:l.length≤1000000000):A6 Tryz.prog Γ 244 [.sl (Ax l) c nl,.fn f cs] (tI (q0E p l)):=by
 refine Ab q0B rfl ?_
 simp (disch:=omega) [P0,A0,A5]
 refine q2k l c nl f cs p hp hl (fun h=>?_) (fun i h=>?_) l.length 0 (by omega) (by simp)
 ·have:l.findIdx? p=none:=List.findIdx?_eq_none_iff.2 h
  simp [ret,Hu,Dm,Fo,Fj,Av,q0E,this]
 ·simp [ret,Hu,Dm,Fo,Fj,Av,q0E,h]
theorem q0g (l:List Int) (c:Option Nat) (nl:Option Bool) (f:FuncId) (cs:List T) (p:Int→Bool) (hp:∀ x ∈ l,A6 Tryz.prog Γ f (tI x::cs) (tB (p x))) (hl:l.length≤1000000000):A6 Tryz.prog Γ 202 [.sl (Ax l) c nl,.fn f cs] (tB (l.any p)):=by
 refine Ab We rfl ?_
 simp (disch:=omega) [K6,A0,A5]
 refine A3 (q9a l c nl f cs p hp hl) rfl ?_
 simp [ret,K7,Dm,Fo,Fj,Av]
 unfold q0E
 cases h:l.findIdx? p with
 | none =>
  rw [List.findIdx?_eq_none_iff] at h
  have:l.any p=false:=by rw [List.any_eq_false]; intro x hx; simp [h x hx]
  simp [this]
 | some i =>
  rw [List.findIdx?_eq_some_iff_getElem] at h
  obtain ⟨hi,h1,_⟩:=h
  have:l.any p=true:=List.any_eq_true.2 ⟨_,List.getElem_mem hi,h1⟩
  simp [this]
theorem q6h (k:Int):A6 Tryz.prog Γ 47 [tK k] (tB (decide (1≤k∧k≤13))):=by
 refine Ab q5g rfl ?_
 by_cases h1:1≤k <;> by_cases h2:k≤13 <;> simp [q0d,ret,q0e,Dm,Fo,Fj,Av,h1,h2]
structure Nd where
 k:Int
 inn:Sl Int
 mem:Int
 bit:Int
structure Mm where
 addr:Sl Int
 data:Sl Int
 write:Int
structure B7 where
 nodes:Sl Nd
 names:Sl (List UInt8)
 mems:Sl Mm
 outs:Sl Int
def Bt (x:Nd):List T:=[tK x.k,B5 x.inn,tI x.mem,tI x.bit]
def tMm (m:Mm):List T:=[B5 m.addr,B5 m.data,tI m.write]
def tS (l:List UInt8):T:=.v (sV l)
def A7 (s:Sl Nd):T:=.sl (Ao Bt s.l) s.cap s.nl
def A9 (s:Sl (List UInt8)):T:=.sl (Af tS s.l) s.cap s.nl
def Ac (s:Sl Mm):T:=.sl (Ao tMm s.l) s.cap s.nl
def tC (c:B7):List T:=[A7 c.nodes,A9 c.names,Ac c.mems,B5 c.outs]
def Nd.d:Nd:=⟨0,⟨[],none,none⟩,0,0⟩
def Mm.d:Mm:=⟨⟨[],none,none⟩,⟨[],none,none⟩,0⟩
theorem Aq {l:List Nd}:D5 4 (Ao Bt l):=q5f fun _=>rfl
theorem Z2 {l:List Mm}:D5 3 (Ao tMm l):=q5f fun _=>rfl
structure CirOk (c:B7):Prop where
 nodes:c.nodes.l.length≤1000000000
 names:c.names.l.length≤1000000000
 mems:c.mems.l.length≤1000000000
 outs:c.outs.l.length≤1000000000
 kind:∀ x ∈ c.nodes.l,0≤x.k∧x.k≤255
 inn:∀ x ∈ c.nodes.l,x.inn.l.length≤1000000000
 addr:∀ m ∈ c.mems.l,m.addr.l.length≤1000000000∧m.data.l.length≤1000000000
def N1 (c:B7) (n:Int):Bool:=decide (n<0∨(c.nodes.l.length:Int)≤n)
theorem q0F (c:B7) (n:Int) (hc:c.nodes.l.length≤1000000000):A6 Tryz.prog Γ 245 [tI n,.ip (tC c) 0] (tB (N1 c n)):=by
 refine Ab q1T rfl ?_
 by_cases h1:n<0 <;> simp (disch:=omega) [Qx,ret,Qy,Dm,Fo,Fj,Av,h1,tC,A7,Aa,A5,N1]
theorem Wh (c:B7):Ae Tryz.prog Γ 203 [.agg (tC c)] (.fn 245 [.ip (tC c) 0]):=by
 refine B1 q2j rfl ?_
 simp [Vm,ret,Vn,tC,Cb,D2,T.one,AV.one,A7,A9,Ac,B5]
theorem Z3 (c:B7) (hc:c.nodes.l.length≤1000000000) (l:List Int) (cap:Option Nat) (nl:Option Bool) (hl:l.length≤1000000000):A6 Tryz.prog Γ 202 [.sl (Ax l) cap nl,.fn 245 [.ip (tC c) 0]] (tB (l.any (N1 c))) :=
 q0g l cap nl _ _ _ (fun x _=>q0F c x hc) hl
def q8b:List (Int × Int):=[(0,0),(0,0),(0,0),(1,1),(1,1),(2,16),(2,16),(2,16),(2,16),(2,16),(2,16),(3,3),(2,2),(1,16),(1,1),(0,0)]
def qFH:List T:=q8b.flatMap fun p=>[tI p.1,tI p.2]
def S5 (k:Int):Int × Int:=if 16≤k then (0,-1) else q8b.getD k.toNat (0,0)
def GOk (Γ:Tables):Prop:=Γ 0=some qFH
theorem Dj (hΓ:GOk Γ) (k:Int) (h0:0≤k) (h1:k≤255):A6 Tryz.prog Γ 153 [tK k] (.tup [tI (S5 k).1,tI (S5 k).2]):=by
 unfold GOk at hΓ
 refine Ab q7l rfl ?_
 by_cases h2:16≤k
 ·simp (disch:=omega) [Xl,ret,Xm,Dm,Fo,Fj,Av,h2,A5,S5]
 ·have h3:k=0∨k=1∨k=2∨k=3∨k=4∨k=5∨k=6∨k=7∨k=8∨k=9∨k=10∨k=11∨k=12∨k=13∨k=14∨k=15:=by omega
  rcases h3 with rfl | rfl | rfl | rfl | rfl | rfl | rfl | rfl | rfl | rfl | rfl | rfl | rfl | rfl | rfl | rfl <;>
  simp (disch:=omega) [Xl,ret,Xm,Dm,Fo,Fj,Av,A5,S5,hΓ,qFH,q8b] <;> exact ⟨rfl,rfl⟩
def Xr (c:B7) (x:Nd):Bool :=
 if x.k ≠ 15 then decide (x.mem=0∧x.bit=0)
 else decide (0≤x.mem∧x.mem<c.mems.l.length∧0≤x.bit∧x.bit<((c.mems.l.getD x.mem.toNat Mm.d).data.l.length))
theorem qGb (c:B7) (x:Nd) (hc:CirOk c):A6 Tryz.prog Γ 241 [.agg (tC c),.agg (Bt x)] (tB (Xr c x)):=by
 refine Ab q6g rfl ?_
 have hm:=hc.mems
 by_cases h1:x.k=15
 ·by_cases h2:0≤x.mem
  ·by_cases h3:x.mem<c.mems.l.length
   ·have h3':x.mem.toNat<c.mems.l.length:=by omega
    by_cases h4:0≤x.bit
    ·simp (disch:=omega) [Ey,ret,Ez,Dm,Fo,Fj,Av,Cb,D2,T.one,AV.one,tC,Bt,A7,A9,Ac,B5,h1,h2,h3,h4,h3',Aa,Dv Mm.d,A5,Z2,tMm,A0,Xr]
    ·simp (disch:=omega) [Ey,ret,Ez,Dm,Fo,Fj,Av,Cb,D2,T.one,AV.one,tC,Bt,A7,A9,Ac,B5,h1,h2,h3,h4,h3',Aa,Dv Mm.d,A5,Z2,tMm,A0,Xr]
   ·simp (disch:=omega) [Ey,ret,Ez,Dm,Fo,Fj,Av,Cb,D2,T.one,AV.one,tC,Bt,A7,A9,Ac,B5,h1,h2,h3,Aa,Dv Mm.d,A5,Z2,tMm,A0,Xr]
  ·simp (disch:=omega) [Ey,ret,Ez,Dm,Fo,Fj,Av,Cb,D2,T.one,AV.one,tC,Bt,A7,A9,Ac,B5,h1,h2,Aa,Dv Mm.d,A5,Z2,tMm,A0,Xr]
 ·by_cases h2:x.mem=0
  ·simp (disch:=omega) [Bh,Ey,Ez,tC,Bt,A7,A9,Ac,B5,h1,h2,Xr,-decide_eq_decide]
  ·have h2':(x.mem == 0)=false:=by simpa using h2
   simp (disch:=omega) [Bh,Ey,Ez,tC,Bt,A7,A9,Ac,B5,h1,h2,h2',Xr]
def Va (l:List Int) (most:Int):Bool:=decide (l.length=0∨most<l.length)
theorem q5j (l:List Int) (cap:Option Nat) (nl:Option Bool) (most:Int) (hl:l.length≤1000000000):A6 Tryz.prog Γ 243 [.sl (Ax l) cap nl,tI most] (tB (Va l most)):=by
 refine Ab q2I rfl ?_
 by_cases h:l.length=0 <;> simp (disch:=omega) [U4,ret,U5,Dm,Fo,Fj,Av,A0,h,Va,A5]
def q0G (c:B7) (n:Int):Bool:=decide ((c.nodes.l.getD n.toNat Nd.d).k ≠ 12)
theorem qDP (c:B7) (n:Int) (h0:0≤n) (h1:n<c.nodes.l.length):A6 Tryz.prog Γ 240 [tI n,.ip (tC c) 0] (tB (q0G c n)):=by
 refine Ab q3l rfl ?_
 have h2:n.toNat<c.nodes.l.length:=by omega
 simp (disch:=omega) [Xo,ret,Xp,Dm,Fo,Fj,Av,tC,A7,Aa,Dv Nd.d,Aq,h0,h1,h2,q0G,Bt]
def D7 (c:B7) (x:Nd):Int :=
 if 15<x.k then 7 else if (x.inn.l.length:Int)<(S5 x.k).1∨(S5 x.k).2<x.inn.l.length then 8 else if x.inn.l.any (N1 c) then 1
 else if x.k=13∧x.inn.l.any (q0G c)=true then 7 else if Xr c x=false then 1 else 0
theorem q1V {c:B7} {l:List Int} (h:l.any (N1 c)=false):∀ n ∈ l,0≤n∧n<c.nodes.l.length:=by
 intro n hn
 have:=List.any_eq_false.1 h n hn
 simp only [N1,decide_eq_true_eq,not_or,Int.not_lt,Int.not_le] at this
 exact this
theorem qFI (hΓ:GOk Γ) (c:B7) (x:Nd) (hc:CirOk c) (hk:0≤x.k∧x.k≤255) (hl:x.inn.l.length≤1000000000):A6 Tryz.prog Γ 199 [.agg (tC c),.agg (Bt x)] (tI (D7 c x)):=by
 refine Ab q5h rfl ?_
 have hn:=hc.nodes
 have e1:=Z3 (Γ:=Γ) c hn x.inn.l x.inn.cap x.inn.nl hl
 have e2:=Dj hΓ x.k hk.1 hk.2
 have e3:=Wh (Γ:=Γ) c
 have e4:=qGb (Γ:=Γ) c x hc
 simp (disch:=omega) [q0f,Cb,D2,T.one,AV.one,tC,Bt,A7,A9,Ac,B5]
 refine A3 e2 rfl ?_
 simp (disch:=omega)
 simp
 refine ⟨fun h1=>?_,fun h1=>?_⟩
 ·simp [Bh,ret,Dw,Dm,Fo,Fj,Av,D7,h1]
 by_cases h2:(x.inn.l.length:Int)<(S5 x.k).1
 ·simp (disch:=omega) [Bh,A0,A5,h2,ret,Dw,Dm,Fo,Fj,Av,D7,h1]
 by_cases h3:(S5 x.k).2<x.inn.l.length
 ·simp (disch:=omega) [Bh,A0,A5,h2,h3,ret,Dw,Dm,Fo,Fj,Av,D7,h1]
 simp (disch:=omega) [Bh,A0,A5,h2,h3]
 refine Ad e3 rfl ?_
 simp (disch:=omega)
 refine A3 e1 rfl ?_
 simp (disch:=omega) [-List.any_eq_true,-List.any_eq_false]
 refine ⟨fun h4=>?_,fun h4=>?_⟩
 ·simp [-List.any_eq_true,-List.any_eq_false,Bh,ret,Dw,Dm,Fo,Fj,Av,D7,h1,h2,h3,h4]
 have h4':x.inn.l.any (N1 c)=false:=h4
 by_cases h5:x.k=13
 ·have e5:=q0g (Γ:=Γ) x.inn.l x.inn.cap x.inn.nl 240 [.ip (tC c) 0] (q0G c) (fun n hm=>qDP c n (q1V h4' n hm).1 (q1V h4' n hm).2) hl
  simp (disch:=omega) [Bh,h5]
  refine A3 e5 rfl ?_
  simp [-List.any_eq_true,-List.any_eq_false]
  refine ⟨fun h6=>?_,fun h6=>?_⟩
  ·have h6':x.inn.l.any (q0G c)=true:=h6
   simp [-List.any_eq_true,-List.any_eq_false,Bh,ret,Dw,Dm,Fo,Fj,Av,D7,h1,h2,h3,h4',h5,h6']
   simp [h5] at h2 h3; omega
  ·have h6':x.inn.l.any (q0G c)=false:=h6
   have e:D7 c x=if Xr c x=false then 1 else 0:=by
    unfold D7
    rw [if_neg (by omega),if_neg (by omega),if_neg (by simp [h4']),if_neg (by simp [h6'])]
   rw [e]
   simp (disch:=omega) [Bh,h6']
   rw [show Bt x=[tK 13,B5 x.inn,tI x.mem,tI x.bit] from by simp [Bt,h5]] at e4
   refine A3 e4 rfl ?_
   simp
   refine ⟨fun h7=>?_,fun h7=>?_⟩ <;> simp [Bh,Dw,h7]
 ·have e:D7 c x=if Xr c x=false then 1 else 0:=by
   unfold D7
   rw [if_neg (by omega),if_neg (by omega),if_neg (by simp [h4']),if_neg (by simp [h5])]
  rw [e]
  simp (disch:=omega) [Bh,h5]
  refine A3 e4 rfl ?_
  simp
  refine ⟨fun h7=>?_,fun h7=>?_⟩ <;> simp [Bh,Dw,h7]
theorem qN7:(Tryz.prog.funcs[305]?).map (fun f=>(f.name,f.body.isNone,f.origin))=some ("internal/bytealg.IndexByteString",true, ""):=by kernel_rfl
abbrev tR (n:Int):T:=.v (.int .i32 n)
theorem q2l (s:ByteArray) (c:Int):A6 Tryz.prog Γ 305 [.v (.string s),tK c] (tI (Lib.indexByte s.data.toList c.toNat.toUInt8)):=by
 intro w X vs hg hx hts
 obtain ⟨x,xs,rfl,h1,h2⟩:=hts.cons_inv
 obtain ⟨y,ys,rfl,h3,h4⟩:=h2.cons_inv
 have:=h4.nil_inv; subst this
 cases h1; cases h3
 refine .inr ⟨.int .i64 (Lib.indexByte s.data.toList c.toNat.toUInt8),?_,RowKit.Below.refl _ _,.v _⟩
 have h:=qN7
 simp only [Option.map_eq_some_iff,Prod.mk.injEq] at h
 obtain ⟨fn,hf,hn,hb,ho⟩:=h
 have e1:Extern.findNext fn=none:=by
  simp only [Extern.findNext,hn,ho]
  have a:Extern.allNextRows.lookup "internal/bytealg.IndexByteString" = none:=by kernel_rfl
  have b:Extern.allNextRows.lookup "" = none:=by kernel_rfl
  rw [a,b]; rfl
 have e2:Extern.find fn=some Extern.BytealgIndexByte.indexByte:=by
  simp only [Extern.find,hn,ho]
  have a:Extern.allGenericRows.lookup "internal/bytealg.IndexByteString" = none:=by kernel_rfl
  have b:Extern.allTypedRows.lookup "internal/bytealg.IndexByteString" = none:=by kernel_rfl
  have c:Extern.allRows.lookup "internal/bytealg.IndexByteString" = some Extern.BytealgIndexByte.indexByte:=by kernel_rfl
  rw [a,b,c]; rfl
 have hnn:¬ fn.name = "runtime.NumGoroutine" := by rw [hn]; decide
 have hr:=Lib.run_indexByteString (P:=Tryz.prog) s c w
 have hb':fn.body=none:=by simpa using hb
 simp [callFunc,hf,hnn,hb',e1,e2,hr]
theorem qFJ (s:ByteArray) (c:Int):A6 Tryz.prog Γ 304 [.v (.string s),tK c] (tI (Lib.indexByte s.data.toList c.toNat.toUInt8)):=by
 refine Ab Wg rfl ?_
 simp [K8]
 refine A3 (q2l s c) rfl ?_
 simp [K9]
theorem q8c (s:ByteArray) (c:Int):A6 Tryz.prog Γ 298 [.v (.string s),tK c] (tI (Lib.indexByte s.data.toList c.toNat.toUInt8)):=by
 refine Ab q2H rfl ?_
 simp [U2]
 refine A3 (qFJ s c) rfl ?_
 simp [U3]
theorem q8d (s:ByteArray) (c:Int) (h0:0≤c) (h1:c<128):A6 Tryz.prog Γ 288 [.v (.string s),tR c] (tI (Lib.indexByte s.data.toList c.toNat.toUInt8)):=by
 refine Ab q2K rfl ?_
 simp (disch:=omega) [U6,h0,h1,Bj]
 refine A3 (q8c s c) rfl ?_
 simp [U7]
theorem q5k (s:ByteArray) (c:Int) (h0:0≤c) (h1:c<128):A6 Tryz.prog Γ 269 [.v (.string s),tR c] (tB (decide (0≤Lib.indexByte s.data.toList c.toNat.toUInt8))):=by
 refine Ab q0C rfl ?_
 simp (disch:=omega) [P1]
 refine A3 (q8d s c h0 h1) rfl ?_
 simp [P2]
def qFK (c:Int):Bool:=decide (c≤32∨126<c∨0≤Lib.indexByte [40,41,61,44,35] c.toNat.toUInt8)
theorem qFL (c:Int):A6 Tryz.prog Γ 268 [tR c] (tB (qFK c)):=by
 refine Ab q2J rfl ?_
 by_cases h1:c≤32
 ·simp [Gu,Gv,h1,qFK]
 by_cases h2:126<c
 ·simp [Gu,Gv,h1,h2,qFK]
 simp [Gu,h1,h2]
 refine A3 (q5k ⟨#[40,41,61,44,35]⟩ c (by omega) (by omega)) rfl ?_
 simp [Gv,qFK,h1,h2]
theorem qDQ (s:List UInt8) (i:Nat) (hi:i<s.length) (ha:s[i]<128):Utf8.decode ⟨s.toArray⟩ i=((s[i]).toNat,1):=by
 have e:(ByteArray.mk s.toArray).get! (i+0)=s[i]:=by
  simp [ByteArray.get!,hi]
 have h2:(s[i]).toNat<128:=by simpa [UInt8.lt_iff_toNat_lt] using ha
 unfold Utf8.decode
 simp only [e,h2,↓reduceIte]
def qDR (s:List UInt8):Bool:=s.any fun b=>qFK b.toNat
theorem q2m {Q:AX→St→Prop} (s:List UInt8) (ha:∀ b ∈ s,b<128)
  (h0:qDR s=false→Q (.exit 0) ⟨[(1,.t (.fn 268 [])),(2,.t (tB true)),(10,.li 10),(11,.t (.tup [tB false])),(12,.t (tB false))],[(10,.it ⟨s.toArray⟩ s.length)]⟩)
  (h1:qDR s=true→∀ i:Nat,Q .ret ⟨[(6,.t (tI i))],[]⟩):∀ (k i:Nat),k+i=s.length→(∀ j,j<i→∀ b,s[j]? = some b→qFK b.toNat=false) →
  run Tryz.prog Γ Gw Q ⟨[(1,.t (.fn 268 [])),(2,.t (tB true)),(10,.li 10)],[(10,.it ⟨s.toArray⟩ i)]⟩
 | 0,i,h,hq=>by
  refine Nc fun K hK=>?_
  have h2:¬ i<s.length:=by omega
  have h3:i=s.length:=by omega
  have h4:¬ i<(ByteArray.mk s.toArray).size:=by simpa [ByteArray.size] using h2
  simp [h2]
  subst h3
  refine h0 (List.any_eq_false.2 fun b hb=>?_)
  obtain ⟨j,hj,rfl⟩:=List.getElem_of_mem hb
  simp [hq j hj _ (List.getElem?_eq_getElem hj)]
 | k+1,i,h,hq=>by
  refine Nc fun K hK=>?_
  have h2:i<s.length:=by omega
  have h4:i<(ByteArray.mk s.toArray).size:=by simpa [ByteArray.size] using h2
  simp [h2,qDQ s i h2 (ha _ (List.getElem_mem h2))]
  refine A3 (qFL s[i].toNat) rfl ?_
  simp
  refine ⟨fun hc=>?_,fun hc=>?_⟩
  ·simp [Bh]
   exact h1 (List.any_eq_true.2 ⟨_,List.getElem_mem h2,hc⟩) i
  ·simp [Bh]
   rw [hK]
   exact q2m s ha h0 h1 k (i+1) (by omega) (fun j hj b hb=>by
    rcases Nat.lt_succ_iff_lt_or_eq.1 hj with hj | rfl
    ·exact hq j hj b hb
    ·rw [List.getElem?_eq_getElem h2] at hb; simp at hb; subst hb; exact hc)
theorem qAw (s:List UInt8) (ha:∀ b ∈ s,b<128):∃ n:Int,A6 Tryz.prog Γ 302 [tS s,.fn 268 [],tB true] (tI n)∧(0≤n↔qDR s=true):=by
 have:∃ r,A6 Tryz.prog Γ 302 [tS s,.fn 268 [],tB true] r∧∃ n,r=tI n∧(0≤n↔qDR s=true):=by
  refine qA3 q2M rfl ?_
  simp [Ub,tS,sV]
  refine q2m s ha (fun h=>?_) (fun h i=>?_) s.length 0 (by omega) (by simp)
  ·simp [Ko,h]
  ·simp [Ko,h]
 obtain ⟨_,h1,n,rfl,h2⟩:=this
 exact ⟨n,h1,h2⟩
theorem q7m (s:List UInt8) (ha:∀ b ∈ s,b<128):∃ n:Int,A6 Tryz.prog Γ 289 [tS s,.fn 268 []] (tI n)∧(0≤n↔qDR s=true):=by
 obtain ⟨n,h1,h2⟩:=qAw (Γ:=Γ) s ha
 refine ⟨n,Ab q2L rfl ?_,h2⟩
 simp [U8]
 refine A3 h1 rfl ?_
 simp [U9]
theorem q2n (s:List UInt8) (ha:∀ b ∈ s,b<128):A6 Tryz.prog Γ 270 [tS s,.fn 268 []] (tB (qDR s)):=by
 obtain ⟨n,h1,h2⟩:=q7m (Γ:=Γ) s ha
 refine Ab q0D rfl ?_
 simp [P3]
 refine A3 h1 rfl ?_
 simp [P4,h2]
def q0H (s:List UInt8):Bool:=decide (s ≠ []∧s.length≤32) && !qDR s
theorem qBz (s:List UInt8) (ha:∀ b ∈ s,b<128):A6 Tryz.prog Γ 242 [tS s] (tB (q0H s)):=by
 refine Ab q3m rfl ?_
 have h:=q2n (Γ:=Γ) s ha
 by_cases h1:s=[]
 ·simp [Ij,Ik,tS,sV,h1,q0H]
 have h1':s.isEmpty=false:=by simpa using h1
 by_cases h2:s.length≤32
 ·have h2':(s.length:Int)≤32:=by omega
  simp [Ij,tS,sV,h1,h1',h2']
  refine A3 h rfl ?_
  simp [Ik,q0H,h1,h2]
 ·have h2':¬ (s.length:Int)≤32:=by omega
  simp [Ij,Ik,tS,sV,h1,h1',h2',h2,q0H]
def Ob (c:B7) (m:Mm):Int :=
 if Va m.addr.l 8=true∨Va m.data.l 32=true then 8 else if m.addr.l.any (N1 c)=true∨m.data.l.any (N1 c)=true∨N1 c m.write=true then 1 else 0
theorem qC0 (c:B7) (m:Mm) (hc:CirOk c) (hm:m.addr.l.length≤1000000000∧m.data.l.length≤1000000000):A6 Tryz.prog Γ 201 [.agg (tC c),.agg (tMm m)] (tI (Ob c m)):=by
 refine Ab q3k rfl ?_
 have hn:=hc.nodes
 have e1:=Z3 (Γ:=Γ) c hn m.addr.l m.addr.cap m.addr.nl hm.1
 have e2:=Z3 (Γ:=Γ) c hn m.data.l m.data.cap m.data.nl hm.2
 have e3:=Wh (Γ:=Γ) c
 have e4:=q5j (Γ:=Γ) m.addr.l m.addr.cap m.addr.nl 8 hm.1
 have e5:=q5j (Γ:=Γ) m.data.l m.data.cap m.data.nl 32 hm.2
 have e6:=q0F (Γ:=Γ) c m.write hn
 simp [Xn,tC,tMm,A7,A9,Ac,B5]
 refine Ad e3 rfl ?_
 simp
 refine A3 e4 rfl ?_
 have fin2:∀ b:Bool,b=decide (m.addr.l.any (N1 c)=true∨m.data.l.any (N1 c)=true∨N1 c m.write=true)→(Va m.addr.l 8=false)→(Va m.data.l 32=false)→Ob c m=if b then 1 else 0:=by
  intro b hb h1 h2
  subst hb
  unfold Ob
  rw [if_neg (by simp [h1,h2])]
  simp
 by_cases h1:Va m.addr.l 8=true
 ·simp [h1,Ds,Ob]
 have h1':Va m.addr.l 8=false:=by simpa using h1
 simp [h1']
 refine A3 e5 rfl ?_
 by_cases h2:Va m.data.l 32=true
 ·simp [h2,Ds,Ob]
 have h2':Va m.data.l 32=false:=by simpa using h2
 simp [h2']
 refine A3 e1 rfl ?_
 generalize m.addr.l.any (N1 c)=b1 at e1 fin2
 generalize m.data.l.any (N1 c)=b2 at e2 fin2
 generalize N1 c m.write=b3 at e6 fin2
 cases b1 with
 | true=>simp [Ds,fin2 true (by simp) h1' h2']
 | false =>
  simp
  refine A3 e2 rfl ?_
  cases b2 with
  | true=>simp [Ds,fin2 true (by simp) h1' h2']
  | false =>
   simp
   refine Xq e6 ?_
   cases b3 with
   | true=>simp [Ds,fin2 true (by simp) h1' h2']
   | false=>simp [Ds,fin2 false (by simp) h1' h2']
def q8e (l:List (List UInt8)):List (Value × T):=l.map fun s=>(sV s,tB true)
theorem qJB (a b:List UInt8):q1r (sV a) (sV b)=decide (a=b):=by
 simp only [q1r,sV]
 by_cases h:a=b
 ·subst h; simp [qAn]
 ·have:¬ (ByteArray.mk a.toArray)=⟨b.toArray⟩:=fun e=>h (by simpa using e)
  have h2:((ByteArray.mk a.toArray) == ⟨b.toArray⟩)=false:=by
   cases hq:((ByteArray.mk a.toArray) == ⟨b.toArray⟩)
   ·rfl
   ·exact absurd ((qAn _ _).1 hq) this
  rw [h2]; simp [h]
theorem q8f (x:List UInt8):∀ l:List (List UInt8),G1 (sV x) (q8e l)=if x ∈ l then some (tB true) else none
 | []=>rfl
 | y::l=>by
  have ih:=q8f x l
  simp only [q8e,List.map_cons,G1,qJB] at ih ⊢
  by_cases h:x=y
  ·simp [h]
  ·simp [h,ih]
theorem qA8 (x:List UInt8):∀ l:List (List UInt8),x ∉ l→q6O (sV x) (tB true) (q8e l)=q8e (l++[x])
 | [],_=>rfl
 | y::l,h=>by
  have ih:=qA8 x l (fun hm=>h (List.mem_cons_of_mem _ hm))
  have hne:x ≠ y:=fun e=>h (by simp [e])
  simp only [q8e,List.map_cons,q6O,qJB,List.cons_append] at ih ⊢
  simp [hne,ih]
theorem qFM (l:List (List UInt8)):O0 .str (q8e l):=by
 intro e he; obtain ⟨s,_,rfl⟩:=List.mem_map.1 he; rfl
def G2:List (List UInt8)→List (List UInt8)→Int
 | _,[]=>0
 | done,s::l=>if q0H s=false∨s ∈ done then 5 else G2 (done++[s]) l
theorem q8g {Q:AX→St→Prop} (n:Sl (List UInt8)) (hl:n.l.length≤1000000000) (ha:∀ s ∈ n.l,∀ b ∈ s,b<128) (R:Int)
  (h0:R=0→∀ m:List (Value × T),Q (.exit 0) ⟨[(3,.lm 6),(8,.t (A9 n)),(9,.t (tI n.l.length)),(10,.t (tI n.l.length)),(11,.t (tB false))],[(6,.mp m)]⟩)
  (h5:R=5→Q .ret ⟨[(2,.t (tI 5))],[]⟩):∀ (k i:Nat),k+i=n.l.length→G2 (n.l.take i) (n.l.drop i)=R →
  run Tryz.prog Γ Jc Q ⟨[(3,.lm 6),(8,.t (A9 n)),(9,.t (tI n.l.length)),(10,.t (tI i))],[(6,.mp (q8e (n.l.take i)))]⟩
 | 0,i,h,hR=>by
  refine Qv fun K hK=>?_
  have h2:¬ i<n.l.length:=by omega
  have h3:i=n.l.length:=by omega
  simp [h2,A9]
  subst h3
  refine h0 ?_ _
  rw [← hR]; simp [G2]
 | k+1,i,h,hR=>by
  refine Qv fun K hK=>?_
  have h2:i<n.l.length:=by omega
  simp (disch:=omega) [h2,A9,A0,Bw ([]:List UInt8),A8]
  refine A3 (qBz n.l[i] (ha _ (List.getElem_mem h2))) rfl ?_
  have hd:n.l.drop i=n.l[i]::n.l.drop (i+1):=List.drop_eq_getElem_cons h2
  rw [hd] at hR
  simp only [G2] at hR
  have ht:n.l.take i++[n.l[i]]=n.l.take (i+1):=by rw [List.take_add_one]; simp [h2]
  by_cases hq:q0H n.l[i]=true
  ·have hfit:=qFM (n.l.take i)
   simp [hq,tS,KT.fits,sV,hfit]
   rw [show (Value.string ⟨(n.l[i]).toArray⟩)=sV n.l[i] from rfl,q8f]
   by_cases hm:n.l[i] ∈ n.l.take i
   ·simp [hm]
    refine h5 ?_
    rw [← hR,if_pos (.inr hm)]
   ·rw [if_neg (by simp [hq,hm]),ht] at hR
    simp (disch:=omega) [hm,sV,KT.fits,hfit,A5]
    rw [hK]
    have:=q8g n hl ha R h0 h5 k (i+1) (by omega) hR
    rw [show (Value.string ⟨(n.l[i]).toArray⟩)=sV n.l[i] from rfl,qA8 _ _ hm,ht]
    exact_mod_cast this
  ·have hq':q0H n.l[i]=false:=by simpa using hq
   simp [hq']
   refine h5 ?_
   rw [← hR,if_pos (.inl hq')]
theorem qDS (c:B7) (hc:CirOk c) (ha:∀ s ∈ c.names.l,∀ b ∈ s,b<128):A6 Tryz.prog Γ 200 [.agg (tC c)] (tI (G2 [] c.names.l)):=by
 refine Ab q4n rfl ?_
 simp [Z0,tC,A7,A9,Ac,B5,A0]
 refine q8g c.names hc.names ha (G2 [] c.names.l) (fun h m=>?_) (fun h=>?_) c.names.l.length 0 (by omega) (by simp)
 ·simp [Q5,h]
 ·simp [Q5,h]
def Dh:List Int→Int
 | []=>0
 | e::l=>if e ≠ 0 then e else Dh l
theorem q40 {α:Type} (f:α→Int) (l:List α) (i:Nat) (h:i<l.length):Dh ((l.drop i).map f)=if f l[i] ≠ 0 then f l[i] else Dh ((l.drop (i+1)).map f):=by
 rw [List.drop_eq_getElem_cons h]; rfl
theorem q7J {Q:AX→St→Prop} (hΓ:GOk Γ) (c:B7) (hc:CirOk c) (R:Int)
  (h0:R=0→Q (.exit 1) ⟨[(1,.t (.ip (tC c) 0)),(36,.t (A7 c.nodes)),(37,.t (tI c.nodes.l.length)),(38,.t (tI c.nodes.l.length)),(39,.t (tB false))],[]⟩)
  (h5:R ≠ 0→Q .ret ⟨[(2,.t (tI R))],[]⟩):∀ (k i:Nat),k+i=c.nodes.l.length→Dh ((c.nodes.l.drop i).map (D7 c))=R →
  run Tryz.prog Γ Ja Q ⟨[(1,.t (.ip (tC c) 0)),(36,.t (A7 c.nodes)),(37,.t (tI c.nodes.l.length)),(38,.t (tI i))],[]⟩
 | 0,i,h,hR=>by
  refine Qs fun K hK=>?_
  have h2:¬ i<c.nodes.l.length:=by omega
  have h3:i=c.nodes.l.length:=by omega
  simp [h2]
  subst h3
  exact h0 (by rw [← hR]; simp [Dh])
 | k+1,i,h,hR=>by
  refine Qs fun K hK=>?_
  have h2:i<c.nodes.l.length:=by omega
  have hn:=hc.nodes
  have hx:=List.getElem_mem h2
  rw [q40 (D7 c) _ _ h2] at hR
  have e:=qFI (Γ:=Γ) hΓ c c.nodes.l[i] hc (hc.kind _ hx) (hc.inn _ hx)
  simp (disch:=omega) [h2,A7,Aa,Dv Nd.d,Aq,Bt,tC,B5]
  refine A3 e rfl ?_
  by_cases hq:D7 c c.nodes.l[i]=0
  ·rw [if_neg (by simp [hq])] at hR
   simp (disch:=omega) [hq,A5]
   rw [hK]
   have:=q7J hΓ c hc R h0 h5 k (i+1) (by omega) hR
   simpa [tC,A7,B5] using this
  ·rw [if_pos (by simpa using hq)] at hR
   simp [hq]
   rw [hR]
   exact h5 (by rw [← hR]; exact hq)
theorem q8h {Q:AX→St→Prop} (c:B7) (hc:CirOk c) (R:Int)
  (h0:R=0→Q (.exit 3) ⟨[(1,.t (.ip (tC c) 0)),(55,.t (Ac c.mems)),(56,.t (tI c.mems.l.length)),(57,.t (tI c.mems.l.length)),(58,.t (tB false))],[]⟩)
  (h5:R ≠ 0→Q .ret ⟨[(2,.t (tI R))],[]⟩):∀ (k i:Nat),k+i=c.mems.l.length→Dh ((c.mems.l.drop i).map (Ob c))=R →
  run Tryz.prog Γ Jb Q ⟨[(1,.t (.ip (tC c) 0)),(55,.t (Ac c.mems)),(56,.t (tI c.mems.l.length)),(57,.t (tI i))],[]⟩
 | 0,i,h,hR=>by
  refine Qu fun K hK=>?_
  have h2:¬ i<c.mems.l.length:=by omega
  have h3:i=c.mems.l.length:=by omega
  simp [h2]
  subst h3
  exact h0 (by rw [← hR]; simp [Dh])
 | k+1,i,h,hR=>by
  refine Qu fun K hK=>?_
  have h2:i<c.mems.l.length:=by omega
  have hn:=hc.mems
  have hx:=List.getElem_mem h2
  rw [q40 (Ob c) _ _ h2] at hR
  have e:=qC0 (Γ:=Γ) c c.mems.l[i] hc (hc.addr _ hx)
  simp (disch:=omega) [h2,Ac,Aa,Dv Mm.d,Z2,tMm,tC,B5]
  refine A3 e rfl ?_
  by_cases hq:Ob c c.mems.l[i]=0
  ·rw [if_neg (by simp [hq])] at hR
   simp (disch:=omega) [hq,A5]
   rw [hK]
   have:=q8h c hc R h0 h5 k (i+1) (by omega) hR
   simpa [tC,Ac,B5] using this
  ·rw [if_pos (by simpa using hq)] at hR
   simp [hq]
   rw [hR]
   exact h5 (by rw [← hR]; exact hq)
def Ci (c:B7):Int :=
 if 16384<c.nodes.l.length∨16<c.mems.l.length∨16384<c.outs.l.length then 3 else if c.names.l.length ≠ c.nodes.l.length then 8
 else if Dh (c.nodes.l.map (D7 c)) ≠ 0 then Dh (c.nodes.l.map (D7 c))
 else if G2 [] c.names.l ≠ 0 then G2 [] c.names.l
 else if Dh (c.mems.l.map (Ob c)) ≠ 0 then Dh (c.mems.l.map (Ob c))
 else if c.outs.l.any (N1 c)=true then 1 else 0
theorem qDT (hΓ:GOk Γ) (c:B7) (hc:CirOk c) (ha:∀ s ∈ c.names.l,∀ b ∈ s,b<128):A6 Tryz.prog Γ 137 [.agg (tC c)] (tI (Ci c)):=by
 refine Ab q4m rfl ?_
 have hn:=hc.nodes
 have hm:=hc.mems
 have ho:=hc.outs
 have hnn:=hc.names
 have en:=qDS (Γ:=Γ) c hc ha
 have eo:=Wh (Γ:=Γ) c
 have ec:=Z3 (Γ:=Γ) c hn c.outs.l c.outs.cap c.outs.nl ho
 by_cases h1:16384<c.nodes.l.length∨16<c.mems.l.length∨16384<c.outs.l.length
 ·have:Ci c=3:=by unfold Ci; rw [if_pos h1]
  rw [this]
  by_cases g1:(16384:Int)<c.nodes.l.length
  ·simp [Et,Cf,tC,A7,A9,Ac,B5,Aa,A0,g1]
  by_cases g2:(16:Int)<c.mems.l.length
  ·simp [Et,Cf,tC,A7,A9,Ac,B5,Aa,A0,g1,g2]
  have g3:(16384:Int)<c.outs.l.length:=by omega
  simp [Et,Cf,tC,A7,A9,Ac,B5,Aa,A0,g1,g2,g3]
 have g1:¬ (16384:Int)<c.nodes.l.length:=by omega
 have g2:¬ (16:Int)<c.mems.l.length:=by omega
 have g3:¬ (16384:Int)<c.outs.l.length:=by omega
 by_cases h2:c.names.l.length=c.nodes.l.length
 case neg =>
  have:Ci c=8:=by unfold Ci; rw [if_neg h1,if_pos h2]
  have h2':¬ (c.names.l.length:Int)=c.nodes.l.length:=by omega
  rw [this]
  simp [Et,Cf,tC,A7,A9,Ac,B5,Aa,A0,g1,g2,g3,h2']
 simp [Et,tC,A7,A9,Ac,B5,Aa,A0,g1,g2,g3,h2]
 have e0:Ci c=if Dh (c.nodes.l.map (D7 c)) ≠ 0 then Dh (c.nodes.l.map (D7 c))
   else if G2 [] c.names.l ≠ 0 then G2 [] c.names.l
   else if Dh (c.mems.l.map (Ob c)) ≠ 0 then Dh (c.mems.l.map (Ob c))
   else if c.outs.l.any (N1 c)=true then 1 else 0:=by
  unfold Ci; rw [if_neg h1,if_neg (by simp [h2])]
 refine q7J hΓ c hc (Dh (c.nodes.l.map (D7 c))) (fun h3=>?_) (fun h3=>?_) c.nodes.l.length 0 (by omega) (by simp)
 case refine_2 =>
  rw [if_pos h3] at e0
  simp [Cf,e0]
 rw [if_neg (by rw [h3]; decide)] at e0
 simp [tC,A7,A9,Ac,B5]
 refine A3 en rfl ?_
 by_cases h4:G2 [] c.names.l=0
 case neg =>
  rw [if_pos h4] at e0
  simp [h4,Cf,e0]
 rw [if_neg (by rw [h4]; decide)] at e0
 simp [h4,Aa]
 refine q8h c hc (Dh (c.mems.l.map (Ob c))) (fun h5=>?_) (fun h5=>?_) c.mems.l.length 0 (by omega) (by simp)
 case refine_2 =>
  rw [if_pos h5] at e0
  simp [Cf,e0]
 rw [if_neg (by rw [h5]; decide)] at e0
 simp [tC,A7,A9,Ac,B5]
 refine Ad eo rfl ?_
 simp
 refine A3 ec rfl ?_
 generalize c.outs.l.any (N1 c)=b at e0
 cases b <;> simp [Cf,e0]
def ofL (ks:List Int):List Nd→Nat→List Int
 | [],_=>[]
 | x::l,i=>if ks.contains x.k then (i:Int)::ofL ks l (i+1) else ofL ks l (i+1)
theorem q83 (ks:List Int):∀ (a b:List Nd) (i:Nat),ofL ks (a++b) i=ofL ks a i++ofL ks b (i+a.length)
 | [],b,i=>by simp [ofL]
 | x::a,b,i=>by
  have:=q83 ks a b (i+1)
  simp only [List.cons_append,ofL,this,List.length_cons]
  split <;> simp [Nat.add_assoc,Nat.add_comm 1]
theorem q1W (ks:List Int):∀ (a:List Nd) (i:Nat),(ofL ks a i).length≤a.length
 | [],_=>by simp [ofL]
 | x::a,i=>by
  have:=q1W ks a (i+1)
  simp only [ofL]
  split <;> simp <;> omega
theorem qEM {Q:AX→St→Prop} (n:Sl Nd) (hl:n.l.length≤1000000000) (ks:List Int) (kc:Option Nat) (kn:Option Bool) (hk:ks.length≤1000000000)
  (h0:Q (.exit 0) ⟨[(1,.t (.sl (Af tK ks) kc kn)),(5,.ls 23 0 (ofL ks n.l 0).length none),(9,.t (A7 n)),(10,.t (tI n.l.length)),(11,.t (tI n.l.length)),(12,.t (tB false))],[(23,.sl 3 1 (Ax (ofL ks n.l 0)))]⟩):∀ (k i:Nat),k+i=n.l.length →
  run Tryz.prog Γ Py Q ⟨[(1,.t (.sl (Af tK ks) kc kn)),(5,.ls 23 0 (ofL ks (n.l.take i) 0).length none),(9,.t (A7 n)),(10,.t (tI n.l.length)),(11,.t (tI i))],[(23,.sl 3 1 (Ax (ofL ks (n.l.take i) 0)))]⟩
 | 0,i,h=>by
  refine X9 fun K hK=>?_
  have h2:¬ i<n.l.length:=by omega
  have h3:i=n.l.length:=by omega
  simp [h2]
  subst h3
  simpa using h0
 | k+1,i,h=>by
  refine X9 fun K hK=>?_
  have h2:i<n.l.length:=by omega
  have ht:n.l.take (i+1)=n.l.take i++[n.l[i]]:=by rw [List.take_add_one]; simp [h2]
  have hlen:=q1W ks (n.l.take i) 0
  have htl:(n.l.take i).length=i:=by simp; omega
  have hal:ofL ks (n.l.take (i+1)) 0=if ks.contains n.l[i].k then ofL ks (n.l.take i) 0++[(i:Int)] else ofL ks (n.l.take i) 0:=by
   rw [ht,q83,htl]
   simp only [ofL,Nat.zero_add]
   split <;> simp
  have e:=q9Z (Γ:=Γ) ks kc kn n.l[i].k hk
  simp (disch:=omega) [h2,A7,Aa,Dv Nd.d,Aq,Bt,B5]
  refine A3 e rfl ?_
  generalize ks.contains n.l[i].k=b at hal
  have ih:=qEM n hl ks kc kn hk h0 k (i+1) (by omega)
  rw [hal] at ih
  cases b with
  | false =>
   simp (disch:=omega) [A5]
   rw [hK]
   simpa [A7] using ih
  | true =>
   have hw:D5 1 [[tI (i:Int)]]:=by intro e he; simp at he; subst he; rfl
   simp (disch:=omega) [A5,A0,A8,hw]
   rw [hK]
   simp [A7] at ih
   rw [Bz (f:=tI) (x:=(i:Int))]
   exact ⟨by omega,ih⟩
theorem qIH (c:B7) (hc:CirOk c) (ks:List Int) (kc:Option Nat) (kn:Option Bool) (hk:ks.length≤1000000000) :
  A6 Tryz.prog Γ 74 [.agg (tC c),.sl (Af tK ks) kc kn] (.sl (Ax (ofL ks c.nodes.l 0)) (some (ofL ks c.nodes.l 0).length) none):=by
 refine Ab q7k rfl ?_
 simp [q2h,tC,A7,A9,Ac,B5,Aa]
 refine qEM c.nodes hc.nodes ks kc kn hk ?_ c.nodes.l.length 0 (by omega)
 simp
 refine ⟨_,_,qDN 3 (Ax (ofL ks c.nodes.l 0)) (ofL ks c.nodes.l 0).length none A8,?_⟩
 simp [q2i]
abbrev N6:=List (Int × Int)
def tLn (p:Int × Int):List T:=[tI p.1,tI p.2]
def q8i (i:Nat) (r:N6):AV:=if r=[] then .t (.sl [] (some 0) (some true)) else .ls (100000+i) 0 r.length none
def Cm (rows:List N6):List AV:=rows.mapIdx q8i
def Kp (rows:List N6) (id:Nat):Option Bc:=match rows[id - 100000]? with
 | some r=>if r=[] then none else some (.sl 190 2 (Ao tLn r))
 | none=>none
def Kq (k:Nat) (g:Nat→Option Bc):List (Nat × Bc):=(List.range' 100000 k).filterMap fun id=>(g id).map fun r=>(id,r)
def D6 (rows:List N6):List (Nat × Bc):=Kq 16384 (Kp rows)
theorem q8j {α β:Type} {f g:α→Option β}:∀ {l:List α},(∀ x ∈ l,f x=g x)→l.filterMap f=l.filterMap g
 | [],_=>rfl
 | x::l,h=>by
  rw [List.filterMap_cons,List.filterMap_cons,h x List.mem_cons_self,q8j (l:=l) fun y hy=>h y (List.mem_cons_of_mem _ hy)]
theorem qII {l:List Nat} {g:Nat→Option Bc} {t:Nat}:A4 (l.filterMap fun id=>(g id).map fun r=>(id,r)) t=if t ∈ l then g t else none:=by
 induction l with
 | nil=>simp [A4]
 | cons k l ih =>
  rw [List.filterMap_cons]
  cases hg:g k with
  | none =>
   simp only [Option.map_none,ih]
   by_cases h:t=k
   ·subst h; simp [hg]
   ·simp [h]
  | some r =>
   simp only [Option.map_some,A4,ih]
   by_cases h:k=t
   ·subst h; simp [hg]
   ·simp [h,Ne.symm h]
theorem Oc {k:Nat} {g:Nat→Option Bc} {t:Nat}:A4 (Kq k g) t=if 100000≤t∧t<100000+k then g t else none:=by
 unfold Kq; rw [qII]
 by_cases h:100000≤t∧t<100000+k
 ·rw [if_pos h,if_pos (by rw [List.mem_range'_1]; exact h)]
 ·rw [if_neg h,if_neg (by rw [List.mem_range'_1]; exact h)]
theorem qA9 {rows:List N6} {l:List (Nat × Bc)} (h:∀ t ∈ List.range' 100000 16384,A4 l t=Kp rows t):Lg.keep (List.range' 100000 16384) l=D6 rows:=by
 unfold Lg.keep D6 Kq
 exact q8j fun t ht=>by rw [h t ht]
theorem q6i {env:List (Nat × AV)} {hp:List (Nat × Bc)} {ks:List Nat} {rows:List N6} (hk:(hp.map (·.1)).filter (fun id=>!([14]:List Nat).contains id && !(decide (100000≤id) && decide (id<100000+16384)))=[])
  (h14:A4 hp 14=some (.bx (Cm rows))) (hr:∀ t,100000≤t→t<116384→A4 hp t=Kp rows t) :
  Gh.run (.keepB ks [14] 100000 16384) ⟨env,hp⟩=⟨Lg.keep ks env,(14,.bx (Cm rows))::D6 rows⟩:=by
 simp only [Gh.run,q81,hk,I9,q6f,h14,q8Z,List.cons_append,List.nil_append]
 congr 2
 simp only [Lg.keep,D6,Kq]
 refine q8j fun t ht=>?_
 rw [List.mem_range'_1] at ht
 rw [hr t ht.1 (by omega)]
theorem q0h {k:Nat} {g:Nat→Option Bc}:∀ p ∈ Kq k g,100000≤p.1∧p.1<100000+k:=by
 intro p hp
 obtain ⟨id,hid,he⟩:=List.mem_filterMap.1 hp
 rw [List.mem_range'_1] at hid
 cases hg:g id with
 | none=>rw [hg] at he; cases he
 | some r=>rw [hg] at he; simp at he; subst he; exact hid
theorem q7K {rows:List N6}:((D6 rows).map (·.1)).filter (fun id=>!([14]:List Nat).contains id && !(decide (100000≤id) && decide (id<100000+16384)))=[]:=by
 rw [List.filter_eq_nil_iff]
 intro id hid
 obtain ⟨p,hp,rfl⟩:=List.mem_map.1 hid
 have:=q0h p hp
 simp [this.1,this.2]
theorem q3X {rows:List N6} {t:Nat}:A4 ((14,.bx (Cm rows))::D6 rows) t=if t=14 then some (.bx (Cm rows)) else if 100000≤t∧t<116384 then Kp rows t else none:=by
 simp only [A4,D6,Oc]
 by_cases h:t=14
 ·simp [h]
 ·simp [h,Ne.symm h]
theorem Wi {env:List (Nat × AV)} {ks:List Nat} {rows:List N6}:Gh.run (.keepB ks [14] 100000 16384) ⟨env,(14,.bx (Cm rows))::D6 rows⟩=⟨Lg.keep ks env,(14,.bx (Cm rows))::D6 rows⟩:=by
 refine q6i ?_ (by simp [A4]) fun t h1 h2=>?_
 ·rw [List.map_cons,List.filter_cons]; simp only [q7K]; simp
 ·rw [q3X,if_neg (by omega),if_pos ⟨h1,h2⟩]
theorem qAx {id:Nat} (h:id<100000) (rows:List N6):(Cm rows).map (B0 id)=Cm rows:=by
 apply List.ext_getElem?
 intro i
 simp only [Cm,List.getElem?_map,List.getElem?_mapIdx,Option.map_map]
 cases rows[i]? with
 | none=>rfl
 | some r =>
  simp only [Option.map_some,Function.comp_def,q8i]
  split
  ·rfl
  ·simp only [B0,kill1]; rw [if_neg (by omega)]
theorem qIJ {env:List (Nat × AV)} {ks:List Nat} {rows:List N6} {q:Bc}:Gh.run (.keepB ks [14] 100000 16384) ⟨env,(6,q)::(14,.bx (Cm rows))::D6 rows⟩=⟨(Lg.keep ks env).map (fun p=>(p.1,B0 6 p.2)),(14,.bx (Cm rows))::D6 rows⟩:=by
 have hk:(((6,q)::(14,Bc.bx (Cm rows))::D6 rows).map (·.1)).filter (fun id=>!([14]:List Nat).contains id && !(decide (100000≤id) && decide (id<100000+16384)))=[6]:=by
  rw [List.map_cons,List.map_cons,List.filter_cons,List.filter_cons]; simp only [q7K]; simp
 have hl:∀ t,t ≠ 6→A4 (St.kill 6 ⟨Lg.keep ks env,(6,q)::(14,.bx (Cm rows))::D6 rows⟩).hp t=A4 ((14,.bx (Cm rows))::D6 rows) t:=by
  intro t ht
  rw [Wx,if_neg ht]
  show (A4 ((6,q)::(14,.bx (Cm rows))::D6 rows) t).map _=_
  rw [A4,if_neg (Ne.symm ht),q3X]
  by_cases h:t=14
  ·simp [h,Hi,qAx]
  ·simp only [h,↓reduceIte]
   split
   ·unfold Kp
    split
    ·split <;> simp [Hi]
    ·rfl
   ·rfl
 simp only [Gh.run,q81,hk,I9,q6f,q8Z,List.cons_append,List.nil_append]
 rw [hl 14 (by omega)]
 simp only [A4,↓reduceIte,List.cons_append,List.nil_append]
 congr 2
 refine qA9 fun t ht=>?_
 rw [List.mem_range'_1] at ht
 rw [hl t (by omega),q3X,if_neg (by omega),if_pos ⟨ht.1,by omega⟩]
def Hv (rows:List N6) (n:Nat) (p:Int × Int):List N6:=rows.set n (rows.getD n []++[p])
theorem q4o {rows:List N6} {n:Nat} {p:Int × Int}:(Hv rows n p).length=rows.length:=by simp [Hv]
theorem qFN {env:List (Nat × AV)} {ks:List Nat} {rows:List N6} {n:Nat} {p:Int × Int} {hp:List (Nat × Bc)} {cs:List AV} (hn:n<rows.length) (hn2:rows.length≤16384)
  (hlen:cs.length=rows.length) (hcs:∀ i,i ≠ n→cs[i]? = (Cm rows)[i]?) (hc:cs[n]? = some (.ls 47 0 ((rows.getD n []).length+1) none)) (h47:A4 hp 47=some (.sl 190 2 (Ao tLn (rows.getD n []++[p])))) (h14:A4 hp 14=some (.bx cs))
  (hno:A4 hp (100000+n)=none) (hoth:∀ t,100000≤t→t<116384→t ≠ 100000+n→A4 hp t=Kp rows t) (hkeys:∀ q ∈ hp,q.1=47∨q.1=14∨(100000≤q.1∧q.1<116384)) :
  Gh.run (.keepB ks [14] 100000 16384) (q0a 47 (100000+n) ⟨env,hp⟩)=⟨(Lg.keep ks (env.map fun q=>(q.1,Be (Hr 47 (100000+n)) q.2))),(14,.bx (Cm (Hv rows n p)))::D6 (Hv rows n p)⟩:=by
 have hr:q0a 47 (100000+n) ⟨env,hp⟩=⟨env.map fun q=>(q.1,Be (Hr 47 (100000+n)) q.2),Yu 47 (100000+n) hp⟩:=by
  unfold q0a
  rw [if_pos]
  simp [hno,h47]; omega
 rw [hr]
 have hget:∀ i,(Hv rows n p)[i]? = if i=n then some (rows.getD n []++[p]) else rows[i]? := by
  intro i
  unfold Hv
  rw [List.getElem?_set]
  by_cases h:n=i
  ·subst h; simp [hn]
  ·simp [h,Ne.symm h]
 have hl:=fun t=>q4j (a:=47) (b:=100000+n) (t:=t) hno (by omega)
 refine q6i ?_ ?_ fun t h1 h2=>?_
 ·rw [List.filter_eq_nil_iff]
  intro id hid
  have:id=100000+n∨id ≠ 47∧∃ q ∈ hp,q.1=id:=by
   clear hl hr hno hoth h14 h47
   induction hp with
   | nil=>simp [Yu] at hid
   | cons q l ih =>
    obtain ⟨k,r⟩:=q
    simp only [Yu,List.map_cons,List.mem_cons] at hid
    rcases hid with hid | hid
    ·by_cases h:k=47
     ·left; simpa [h] using hid
     ·right; simp [h] at hid; subst hid; exact ⟨h,_,List.mem_cons_self,rfl⟩
    ·rcases ih (fun q hq=>hkeys q (List.mem_cons_of_mem _ hq)) hid with h | ⟨h,q,hq,e⟩
     ·exact .inl h
     ·exact .inr ⟨h,q,List.mem_cons_of_mem _ hq,e⟩
  rcases this with h | ⟨h,q,hq,rfl⟩
  ·subst h; simp; intro _; omega
  ·rcases hkeys q hq with e | e | ⟨e1,e2⟩
   ·exact absurd e h
   ·simp [e]
   ·simp; intro _; omega
 ·rw [hl,if_neg (by omega),if_neg (by omega),h14]
  simp only [Option.map_some,D3,Option.some.injEq,Bc.bx.injEq]
  apply List.ext_getElem?
  intro i
  simp only [List.getElem?_map,Cm,List.getElem?_mapIdx]
  rw [hget]
  by_cases h:i=n
  ·subst h
   rw [hc]
   have:¬ (rows.getD i []++[p]=[]):=by simp
   simp only [↓reduceIte,Option.map_some,Option.some.injEq]
   unfold q8i
   rw [if_neg this]
   simp [Be,ren1,ren0,Hr]
  ·rw [hcs i h,if_neg h]
   simp only [Cm,List.getElem?_mapIdx,Option.map_map]
   cases hrow:rows[i]? with
   | none=>rfl
   | some r =>
    simp only [Option.map_some,Function.comp_def,q8i,Option.some.injEq]
    split
    ·rfl
    ·simp only [Be,ren1,ren0,Hr]; rw [if_neg (by omega)]
 ·rw [hl]
  by_cases h:t=100000+n
  ·rw [if_pos h,h47]
   subst h
   unfold Kp
   rw [show 100000+n - 100000=n by omega,hget,if_pos rfl]
   simp [D3]
  ·rw [if_neg h,if_neg (by omega),hoth t h1 h2 h]
   unfold Kp
   rw [hget,if_neg (by omega)]
   cases rows[t - 100000]? with
   | none=>rfl
   | some r=>simp only; split <;> simp [D3]
def q6j (k i:Nat) (r:N6):AV:=if r=[] then .t (.sl [] (some 0) (some true)) else if k≤i then .t (.sl (Ao tLn r) none none) else .ls (100000+i) 0 r.length none
theorem qGc {env:List (Nat × AV)} {rows:List N6} (he:∀ id r,100000≤id→∀ p ∈ env,Bi id r p.2=p.2) (k:Nat):St.freeze (100000+k) ⟨env,(14,.bx (rows.mapIdx (q6j (k+1))))::Kq (k+1) (Kp rows)⟩=⟨env,(14,.bx (rows.mapIdx (q6j k)))::Kq k (Kp rows)⟩:=by
 have hsplit:Kq (k+1) (Kp rows)=Kq k (Kp rows)++(match Kp rows (100000+k) with | some r=>[(100000+k,r)] | none=>[]):=by
  unfold Kq
  rw [← List.range'_append (s:=100000) (m:=k) (n:=1) (step:=1)]
  rw [List.filterMap_append]
  congr 1
  cases hr:Kp rows (100000+k) <;> simp [hr]
 have hl:A4 ((14,Bc.bx (rows.mapIdx (q6j (k+1))))::Kq (k+1) (Kp rows)) (100000+k)=Kp rows (100000+k):=by
  rw [A4,if_neg (by omega),Oc,if_pos (by omega)]
 simp only [St.freeze,hl]
 cases hr:Kp rows (100000+k) with
 | none =>
  rw [hr] at hsplit
  simp only [hsplit,List.append_nil]
  refine congrArg (fun l=>(⟨env,(14,Bc.bx l)::Kq k (Kp rows)⟩:St)) ?_
  apply List.ext_getElem?
  intro i
  simp only [List.getElem?_mapIdx]
  cases hi:rows[i]? with
  | none=>rfl
  | some r =>
   simp only [Option.map_some,q6j]
   by_cases h0:r=[]
   ·simp [h0]
   ·by_cases hik:i=k
    ·subst hik
     unfold Kp at hr
     rw [show 100000+i - 100000=i by omega,hi] at hr
     simp [h0] at hr
    ·have:(k+1≤i)=(k≤i):=by apply propext; omega
     simp [this]
 | some q =>
  obtain ⟨r,hrow,hne,rfl⟩:∃ r,rows[k]? = some r∧r ≠ []∧q=.sl 190 2 (Ao tLn r):=by
   unfold Kp at hr
   rw [show 100000+k - 100000=k by omega] at hr
   split at hr
   ·rename_i r h
    split at hr
    ·cases hr
    ·rename_i hne; simp only [Option.some.injEq] at hr; exact ⟨r,h,hne,hr.symm⟩
   ·cases hr
  rw [hr] at hsplit
  simp only [Bc.closed,↓reduceIte]
  have e1:env.map (fun p=>(p.1,Bi (100000+k) (.sl 190 2 (Ao tLn r)) p.2))=env:=by
   conv=>rhs; rw [← List.map_id env]
   refine List.map_congr_left fun p hp=>?_
   rw [he _ _ (by omega) p hp]; rfl
  have e2:del (100000+k) ((14,Bc.bx (rows.mapIdx (q6j (k+1))))::Kq (k+1) (Kp rows))=(14,Bc.bx (rows.mapIdx (q6j (k+1))))::Kq k (Kp rows):=by
   rw [hsplit]
   unfold del
   rw [List.filter_cons,if_pos (by simp; omega),List.filter_append]
   congr 1
   have h1:(Kq k (Kp rows)).filter (fun p=>p.1 != 100000+k)=Kq k (Kp rows):=by
    rw [List.filter_eq_self]
    intro p hp
    have:=q0h p hp
    simp; omega
   rw [h1]; simp
  rw [e1,e2]
  have e3:(Kq k (Kp rows)).map (fun p=>(p.1,Dq (100000+k) (.sl 190 2 (Ao tLn r)) p.2))=Kq k (Kp rows):=by
   conv=>rhs; rw [← List.map_id (Kq k (Kp rows))]
   refine List.map_congr_left fun p hp=>?_
   obtain ⟨id,hid,hee⟩:=List.mem_filterMap.1 hp
   cases hg:Kp rows id with
   | none=>rw [hg] at hee; cases hee
   | some q =>
    rw [hg] at hee
    simp only [Option.map_some,Option.some.injEq] at hee; subst hee
    unfold Kp at hg
    split at hg
    ·split at hg
     ·cases hg
     ·simp only [Option.some.injEq] at hg; subst hg; rfl
    ·cases hg
  rw [List.map_cons,e3]
  refine congrArg (fun l=>(⟨env,(14,Bc.bx l)::Kq k (Kp rows)⟩:St)) ?_
  apply List.ext_getElem?
  intro i
  simp only [List.getElem?_map,List.getElem?_mapIdx,Option.map_map]
  cases hi:rows[i]? with
  | none=>rfl
  | some r' =>
   simp only [Option.map_some,Function.comp_def,q6j]
   by_cases h0:r'=[]
   ·simp [h0,Bi,frz1,frz0]
   ·simp only [h0,↓reduceIte]
    by_cases hik:i=k
    ·subst hik
     rw [hrow] at hi; cases hi
     rw [if_neg (by omega),if_pos (Nat.le_refl _)]
     simp [Bi,frz1,frz0,Aj,A4]
    ·by_cases hlt:k+1≤i
     ·rw [if_pos hlt,if_pos (by omega)]; rfl
     ·rw [if_neg hlt,if_neg (by omega)]
      simp only [Bi,frz1,frz0]
      rw [if_neg (by omega)]
theorem qEN {env:List (Nat × AV)} {rows:List N6} (he:∀ id r,100000≤id→∀ p ∈ env,Bi id r p.2=p.2):∀ k,qDJ 100000 k ⟨env,(14,.bx (rows.mapIdx (q6j k)))::Kq k (Kp rows)⟩=⟨env,(14,.bx (rows.mapIdx (q6j 0)))::[]⟩
 | 0=>by simp [qDJ,Kq]
 | k+1=>by
  rw [qDJ,qGc he k]
  exact qEN he k
def q9b (r:N6):T:=if r=[] then .sl [] (some 0) (some true) else .sl (Ao tLn r) none none
theorem qGd {env:List (Nat × AV)} {rows:List N6} (hl:rows.length≤16384) (he:∀ id r,100000≤id→∀ p ∈ env,Bi id r p.2=p.2):Gh.run (.frzs 100000 16384) ⟨env,(14,.bx (Cm rows))::D6 rows⟩=⟨env,[(14,.bx (rows.map fun r=>.t (q9b r)))]⟩:=by
 have h1:Cm rows=rows.mapIdx (q6j 16384):=by
  apply List.ext_getElem?
  intro i
  simp only [Cm,List.getElem?_mapIdx]
  cases hi:rows[i]? with
  | none=>rfl
  | some r =>
   have:=(List.getElem?_eq_some_iff.1 hi).1
   simp only [Option.map_some,q8i,q6j]
   rw [if_neg (show ¬ 16384≤i by omega)]
 have h2:rows.mapIdx (q6j 0)=rows.map fun r=>.t (q9b r):=by
  apply List.ext_getElem?
  intro i
  simp only [List.getElem?_mapIdx,List.getElem?_map]
  cases rows[i]? with
  | none=>rfl
  | some r =>
   simp only [Option.map_some,q6j,q9b,Nat.zero_le,↓reduceIte]
   split <;> rfl
 have:=qEN (rows:=rows) he 16384
 rw [h2] at this
 simp only [Gh.run,h1,D6]
 exact this
theorem S7 {rows:List N6}:(Cm rows).length=rows.length:=by simp [Cm]
theorem qGe {rows:List N6} {n:Nat} (h:n<rows.length):((Cm rows).drop n).take 1=[q8i n (rows.getD n [])]:=by
 have:(Cm rows).drop n=q8i n (rows.getD n [])::(Cm rows).drop (n+1):=by
  rw [List.drop_eq_getElem_cons (by rw [S7]; exact h)]
  simp [Cm,h]
 rw [this]; rfl
theorem qAy {l:N6}:D5 2 (Ao tLn l):=q5f fun _=>rfl
theorem qKN {Q:AX→St→Prop} (rows:List N6) (n:Nat) (hn:n<rows.length) (hn2:rows.length≤16384) (i k:Int) (hr:(rows.getD n []).length≤1000000000) (t4 t18 t19 t20 t26 t27 t28 t36:T) (m:Nat) (hm:m=rows.length)
  (h:Q .normal ⟨[(3,.lb 14 m),(4,.t t4),(5,.t (tI i)),(18,.t t18),(19,.t t19),(20,.t t20),(26,.t t26),(27,.t t27),(28,.t t28)],(14,.bx (Cm (Hv rows n (i,k))))::D6 (Hv rows n (i,k))⟩) :
  Gp Tryz.prog Γ E4 ⟨[(3,.lb 14 m),(4,.t t4),(5,.t (tI i)),(7,.t (tI k)),(8,.t (tI n)),(18,.t t18),(19,.t t19),(20,.t t20),(26,.t t26),(27,.t t27),(28,.t t28),(36,.t t36)],(14,.bx (Cm rows))::D6 rows⟩
   (fun s1=>Q .normal (ghs [.renS 47 100000 8,.keepB [3,4,5,18,19,20,26,27,28] [14] 100000 16384] s1)) ⟨⟩:=by
 subst hm
 have hw:D5 2 [[tI i,tI k]]:=by intro e he; simp at he; subst he; rfl
 have hlk47:A4 (D6 rows) 47=none:=by rw [D6,Oc,if_neg (by omega)]
 have hat:=qGe hn
 have hlk:A4 (D6 rows) (100000+n)=if rows.getD n []=[] then none else some (.sl 190 2 (Ao tLn (rows.getD n []))):=by
  rw [D6,Oc,if_pos (by omega)]
  unfold Kp
  rw [show 100000+n - 100000=n by omega,List.getElem?_eq_getElem hn]
  simp [hn]
 have hadd:Hv rows n (i,k)=rows.set n (rows.getD n []++[(i,k)]):=rfl
 have fin:=@qFN
 generalize hrow:rows.getD n []=row at hr hat hlk hadd
 have hlen1:n+1≤rows.length:=hn
 have hset:∀ (j:Nat),j ≠ n→∀ (l:List AV) (x:AV),l.length=rows.length→(l.take n++x::l.drop (n+1))[j]? = l[j]? := by
  intro j hj l x hl
  rw [List.getElem?_append]
  by_cases hlt:j<n
  ·rw [if_pos (by simp; omega),List.getElem?_take,if_pos hlt]
  ·rw [if_neg (by simp; omega)]
   have e:(l.take n).length=n:=by simp; omega
   rw [e,show j - n=(j - n - 1)+1 by omega,List.getElem?_cons_succ,List.getElem?_drop]
   congr 1; omega
 have hseta:∀ (l:List AV) (x:AV),l.length=rows.length→(l.take n++x::l.drop (n+1))[n]? = some x:=by
  intro l x hl
  rw [List.getElem?_append,if_neg (by simp; omega)]
  have e:(l.take n).length=n:=by simp; omega
  rw [e]; simp
 by_cases h0:row=[]
 ·subst h0
  simp only [q8i,↓reduceIte] at hat hlk
  simp (disch:=omega) [-Gh.run,Fv,hat,S7,hn,hw,hlk47,hlen1]
  rw [show ∀ st,A4 st.env 8=some (.t (tI n))→(Gh.renS 47 100000 8).run st=q0a 47 (100000+n) st from fun st hs=>by simp [Gh.run,hs]]
  rw [fin (p:=(i,k)) hn hn2 (by simp [S7]; omega) (fun j hj=>hset j hj _ _ S7) (by rw [hseta _ _ S7,hrow]; first | done | rfl) (by rw [hrow]; first | done | rfl) (by simp [A4]) (by rw [A4,if_neg (by omega),A4,if_neg (by omega)]; exact hlk) (fun t h1 h2 h3=>?_) (fun q hq=>?_)]
  ·simpa [Be,ren1,ren0,Hr] using h
  ·rw [A4,if_neg (by omega),A4,if_neg (by omega),D6,Oc,if_pos (by omega)]
  ·rcases List.mem_cons.1 hq with rfl | hq
   ·exact .inl rfl
   ·rcases List.mem_cons.1 hq with rfl | hq
    ·exact .inr (.inl rfl)
    ·have:=q0h q hq; exact .inr (.inr (by omega))
  ·rfl
 ·simp only [q8i,h0,↓reduceIte] at hat hlk
  have h14:¬ 14=100000+n:=by omega
  have htl:∀ t,A4 ((D6 rows).filter fun p=>p.1 != 100000+n) t=if t=100000+n then none else A4 (D6 rows) t:=fun t=>q5O (100000+n) (D6 rows) t
  have hkl:∀ l:List (Nat × Bc),(∀ p ∈ l,p ∈ D6 rows)→l.map (fun p=>(p.1,Hi (100000+n) p.2))=l:=by
   intro l hl
   conv=>rhs; rw [← List.map_id l]
   refine List.map_congr_left fun p hp=>?_
   obtain ⟨id,hid,hee⟩:=List.mem_filterMap.1 (hl p hp)
   cases hg:Kp rows id with
   | none=>rw [hg] at hee; cases hee
   | some q =>
    rw [hg] at hee
    simp only [Option.map_some,Option.some.injEq] at hee; subst hee
    unfold Kp at hg
    split at hg
    ·split at hg
     ·cases hg
     ·simp only [Option.some.injEq] at hg; subst hg; rfl
    ·cases hg
  have hk:(del (100000+n) ((14,Bc.bx (Cm rows))::D6 rows)).map (fun p=>(p.1,Hi (100000+n) p.2))=(14,.bx ((Cm rows).map (B0 (100000+n))))::(D6 rows).filter fun p=>p.1 != 100000+n:=by
   have e:del (100000+n) ((14,Bc.bx (Cm rows))::D6 rows)=(14,Bc.bx (Cm rows))::(D6 rows).filter fun p=>p.1 != 100000+n:=by
    unfold del
    rw [List.filter_cons,if_pos (by simp; omega)]
   rw [e,List.map_cons,hkl _ (fun p hp=>(List.mem_filter.1 hp).1)]
   rfl
  have hl47:A4 ((D6 rows).filter fun p=>p.1 != 100000+n) 47=none:=by rw [htl,if_neg (by omega)]; exact hlk47
  generalize htail:(D6 rows).filter (fun p=>p.1 != 100000+n)=tl at htl hk hl47
  have hkeys:∀ q ∈ tl,100000≤q.1∧q.1<116384:=by
   intro q hq
   rw [← htail] at hq
   have:=q0h q (List.mem_filter.1 hq).1
   omega
  have hcs:∀ j,j ≠ n→((Cm rows).map (B0 (100000+n)))[j]? = (Cm rows)[j]? := by
   intro j hj
   simp only [Cm,List.getElem?_map,List.getElem?_mapIdx,Option.map_map]
   cases rows[j]? with
   | none=>rfl
   | some r =>
    simp only [Option.map_some,Function.comp_def,q8i]
    split
    ·rfl
    ·simp only [B0,kill1]; rw [if_neg (by omega)]
  have hcl:((Cm rows).map (B0 (100000+n))).length=rows.length:=by simp [S7]
  simp (disch:=omega) [-Gh.run,Fv,-del,-Hi,hat,S7,hn,hw,hlk,hlen1,Aa,qAy,h14,hk,hl47]
  refine ⟨by omega,?_⟩
  rw [show ∀ st,A4 st.env 8=some (.t (tI n))→(Gh.renS 47 100000 8).run st=q0a 47 (100000+n) st from fun st hs=>by simp [Gh.run,hs]]
  ·rw [fin (p:=(i,k)) hn hn2 (by simp [hcl]; omega) (fun j hj=>(hset j hj _ _ hcl).trans (hcs j hj)) (by rw [hseta _ _ hcl,hrow]) (by rw [hrow]; simp [A4]; rw [show [tI i,tI k]=tLn (i,k) from rfl,q0c]) (by simp [A4]) (by rw [A4,if_neg (by omega),A4,if_neg (by omega),htl,if_pos rfl]) (fun t h1 h2 h3=>?_) (fun q hq=>?_)]
   ·simpa [Be,ren1,ren0,Hr] using h
   ·rw [A4,if_neg (by omega),A4,if_neg (by omega),htl,if_neg h3,D6,Oc,if_pos (by omega)]
   ·rcases List.mem_cons.1 hq with rfl | hq
    ·exact .inl rfl
    ·rcases List.mem_cons.1 hq with rfl | hq
     ·exact .inr (.inl rfl)
     ·exact .inr (.inr (hkeys q hq))
  ·rfl
def Je (c:B7) (i:Nat):List Int→Nat→List N6→List N6
 | [],_,rows=>rows
 | n::l,k,rows=>Je c i l (k+1) (if N1 c n then rows else Hv rows n.toNat (i,k))
def Gx (c:B7):List Nd→Nat→List N6→List N6
 | [],_,rows=>rows
 | x::l,i,rows=>Gx c l (i+1) (Je c i x.inn.l 0 rows)
def RB (rows:List N6) (B:Nat):Prop:=∀ r ∈ rows,r.length≤B
theorem RB.add {rows:List N6} {B n:Nat} {p:Int × Int} (h:RB rows B):RB (Hv rows n p) (B+1):=by
 intro r hr
 unfold Hv at hr
 by_cases hn:n<rows.length
 ·rcases List.mem_or_eq_of_mem_set hr with hr | rfl
  ·have:=h r hr; omega
  ·have:(rows.getD n []).length≤B:=by
    have e:rows.getD n []=rows[n]:=by simp [hn]
    rw [e]; exact h _ (List.getElem_mem hn)
   simp at this ⊢; omega
 ·rw [List.set_eq_of_length_le (by omega)] at hr
  have:=h r hr; omega
theorem RB.mono {rows:List N6} {B C:Nat} (h:RB rows B) (hc:B≤C):RB rows C:=fun r hr=>Nat.le_trans (h r hr) hc
theorem RB.at {rows:List N6} {B:Nat} (h:RB rows B) (n:Nat):(rows.getD n []).length≤B:=by
 by_cases hn:n<rows.length
 ·have e:rows.getD n []=rows[n]:=by simp [hn]
  rw [e]; exact h _ (List.getElem_mem hn)
 ·simp [List.getD,List.getElem?_eq_none (Nat.not_lt.1 hn)]
theorem Xs (c:B7) (i:Nat):∀ (l:List Int) (k:Nat) (rows:List N6) (B:Nat),RB rows B→(Je c i l k rows).length=rows.length∧RB (Je c i l k rows) (B+l.length)
 | [],k,rows,B,h=>⟨rfl,h⟩
 | n::l,k,rows,B,h=>by
  simp only [Je,List.length_cons]
  split
  ·have:=Xs c i l (k+1) rows B h
   exact ⟨this.1,this.2.mono (by omega)⟩
  ·have:=Xs c i l (k+1) _ (B+1) (h.add (n:=n.toNat) (p:=(i,k)))
   exact ⟨this.1.trans q4o,this.2.mono (by omega)⟩
theorem q6k {Q:AX→St→Prop} (c:B7) (hn:c.nodes.l.length≤16384) (i:Nat) (s:Sl Int) (hs:s.l.length≤1000000000) (R:List N6)
  (h0:Q (.exit 2) ⟨[(3,.lb 14 c.nodes.l.length),(4,.t (.fn 245 [.ip (tC c) 0])),(5,.t (tI i)),(18,.t (A7 c.nodes)),(19,.t (tI c.nodes.l.length)),(20,.t (tI i)),(26,.t (B5 s)),(27,.t (tI s.l.length)),(28,.t (tI s.l.length)),(29,.t (tB false))],(14,.bx (Cm R))::D6 R⟩) :
  ∀ (kk k:Nat) (rows:List N6),kk+k=s.l.length→rows.length=c.nodes.l.length→(∀ n,(rows.getD n []).length+kk≤1000000000)→Je c i (s.l.drop k) k rows=R →
  run Tryz.prog Γ Ig Q ⟨[(3,.lb 14 c.nodes.l.length),(4,.t (.fn 245 [.ip (tC c) 0])),(5,.t (tI i)),(18,.t (A7 c.nodes)),(19,.t (tI c.nodes.l.length)),(20,.t (tI i)),(26,.t (B5 s)),(27,.t (tI s.l.length)),(28,.t (tI k))],(14,.bx (Cm rows))::D6 rows⟩
 | 0,k,rows,h,hl,hb,hR=>by
  refine Q2 fun K hK=>?_
  have h2:¬ k<s.l.length:=by omega
  have h3:k=s.l.length:=by omega
  simp [h2,-Gh.run,Fv,Wi]
  subst h3
  rw [List.drop_of_length_le (Nat.le_refl _)] at hR
  simp only [Je] at hR
  subst hR
  exact h0
 | kk+1,k,rows,h,hl,hb,hR=>by
  refine Q2 fun K hK=>?_
  have h2:k<s.l.length:=by omega
  rw [List.drop_eq_getElem_cons h2] at hR
  simp only [Je] at hR
  have e:=q0F (Γ:=Γ) c s.l[k] (by omega)
  simp (disch:=omega) [h2,-Gh.run,Fv,Wi,-E4,B5,A0,Bw (0:Int),A8]
  refine Xq e ?_
  by_cases ho:N1 c s.l[k]=true
  ·rw [if_pos ho] at hR
   simp (disch:=omega) [ho,-Gh.run,Fv,Wi,-E4,A5]
   rw [hK]
   have:=q6k c hn i s hs R h0 kk (k+1) rows (by omega) hl (fun n=>by have:=hb n; omega) hR
   simpa [B5] using this
  ·have ho':N1 c s.l[k]=false:=by simpa using ho
   rw [if_neg ho] at hR
   have hr:=q1V (c:=c) (l:=[s.l[k]]) (by simp [ho']) s.l[k] (by simp)
   simp (disch:=omega) [ho',-Gh.run,Fv,Wi,-E4]
   have hz:((s.l[k]).toNat:Int)=s.l[k]:=by omega
   have:=qKN (Γ:=Γ) (Q:=M9 3 (As (run Tryz.prog Γ (.reg Me [.keepB [3,4,5,18,19,20,26,27,28] [14] 100000 16384]) (As (fun s=>As K Q .normal (ghs [.keepB [3,4,5,18,19,20,26,27,28] [14] 100000 16384] s)) (As K Q))) (As (fun s=>As K Q .normal (ghs [.keepB [3,4,5,18,19,20,26,27,28] [14] 100000 16384] s)) (As K Q)))) rows (s.l[k]).toNat (by omega) (by omega) i k (by have:=hb (s.l[k]).toNat; omega)
    (.fn 245 [.ip (tC c) 0]) (A7 c.nodes) (tI c.nodes.l.length) (tI i) (.sl (Ax s.l) s.cap s.nl) (tI s.l.length) (tI k) (tB true) c.nodes.l.length hl.symm ?_
   ·rw [hz] at this; exact this
   ·simp (disch:=omega) [-Gh.run,Fv,Wi,A5]
    rw [hK]
    have hbb:∀ n,((Hv rows (s.l[k]).toNat (i,k)).getD n []).length+kk≤1000000000:=by
     intro n
     unfold Hv
     have h5:=hb n
     have h6:=hb (s.l[k]).toNat
     by_cases hq:n=(s.l[k]).toNat
     ·subst hq
      have hlt:(s.l[k]).toNat<rows.length:=by omega
      simp [List.getD,List.getElem?_set,hlt] at h6 ⊢
      omega
     ·have:¬ (s.l[k]).toNat=n:=fun e=>hq e.symm
      simp [List.getD,List.getElem?_set,this] at h5 ⊢
      omega
    have:=q6k c hn i s hs R h0 kk (k+1) (Hv rows (s.l[k]).toNat (i,k)) (by omega) (q4o.trans hl) hbb hR
    simpa [B5] using this
theorem qIK {ks rs:List Nat} {st:St}:Gh.run (.keep ks rs) st=⟨(I9 ((st.hp.map (·.1)).filter fun id=>!rs.contains id) ⟨Lg.keep ks st.env,st.hp⟩).env,Lg.keep rs (I9 ((st.hp.map (·.1)).filter fun id=>!rs.contains id) ⟨Lg.keep ks st.env,st.hp⟩).hp⟩:=rfl
theorem qGf {env:List (Nat × AV)} {ks:List Nat} {rows:List N6} {q:Bc}:Gh.run (.keepB ks [6,14] 100000 16384) ⟨env,(6,q)::(14,.bx (Cm rows))::D6 rows⟩=⟨Lg.keep ks env,(6,q)::(14,.bx (Cm rows))::D6 rows⟩:=by
 have hk:(((6,q)::(14,Bc.bx (Cm rows))::D6 rows).map (·.1)).filter (fun id=>!([6,14]:List Nat).contains id && !(decide (100000≤id) && decide (id<100000+16384)))=[]:=by
  rw [List.filter_eq_nil_iff]
  intro id hid
  simp only [List.map_cons,List.mem_cons] at hid
  rcases hid with rfl | rfl | hid
  ·simp
  ·simp
  ·obtain ⟨p,hp,rfl⟩:=List.mem_map.1 hid
   have:=q0h p hp
   simp; omega
 simp only [Gh.run,q81,hk,I9,q6f,q8Z,A4,↓reduceIte]
 simp only [show ¬ (6=14) by omega,↓reduceIte,List.cons_append,List.nil_append]
 congr 3
 refine qA9 fun t ht=>?_
 rw [List.mem_range'_1] at ht
 rw [A4,if_neg (by omega),q3X,if_neg (by omega),if_pos ⟨ht.1,by omega⟩]
theorem q8k {Q:AX→St→Prop} (c:B7) (hn:c.nodes.l.length≤16384) (hi:∀ x ∈ c.nodes.l,x.inn.l.length≤16) (R:List N6)
  (h0:Q (.exit 0) ⟨[(3,.lb 14 c.nodes.l.length),(4,.t (.fn 245 [.ip (tC c) 0])),(18,.t (A7 c.nodes)),(19,.t (tI c.nodes.l.length)),(20,.t (tI c.nodes.l.length)),(21,.t (tB false))],(14,.bx (Cm R))::D6 R⟩) :
  ∀ (kk i:Nat) (rows:List N6),kk+i=c.nodes.l.length→rows.length=c.nodes.l.length→RB rows (16*i)→Gx c (c.nodes.l.drop i) i rows=R →
  run Tryz.prog Γ Ih Q ⟨[(3,.lb 14 c.nodes.l.length),(4,.t (.fn 245 [.ip (tC c) 0])),(18,.t (A7 c.nodes)),(19,.t (tI c.nodes.l.length)),(20,.t (tI i))],(14,.bx (Cm rows))::D6 rows⟩
 | 0,i,rows,h,hl,hb,hR=>by
  refine Q3 fun K hK=>?_
  have h2:¬ i<c.nodes.l.length:=by omega
  have h3:i=c.nodes.l.length:=by omega
  simp [h2,-Gh.run,Fv,Wi]
  subst h3
  rw [List.drop_of_length_le (Nat.le_refl _)] at hR
  simp only [Gx] at hR
  subst hR
  exact h0
 | kk+1,i,rows,h,hl,hb,hR=>by
  refine Q3 fun K hK=>?_
  have h2:i<c.nodes.l.length:=by omega
  rw [List.drop_eq_getElem_cons h2] at hR
  simp only [Gx] at hR
  have hx:=hi _ (List.getElem_mem h2)
  have hlk6:A4 (D6 rows) 6=none:=by rw [D6,Oc,if_neg (by omega)]
  simp (disch:=omega) [h2,-Gh.run,Fv,Wi,qIJ,qGf,A7,Aa,Dv Nd.d,Aq,Bt,B5,hlk6,A0]
  refine q6k c hn i c.nodes.l[i].inn (by omega) _ ?_ c.nodes.l[i].inn.l.length 0 rows (by omega) hl (fun n=>by have:=hb.at n; omega) rfl
  obtain ⟨hf1,hf2⟩:=Xs c i c.nodes.l[i].inn.l 0 rows (16*i) hb
  simp (disch:=omega) [-Gh.run,Fv,Wi,A5,List.drop_zero]
  rw [hK]
  have:=q8k c hn hi R h0 kk (i+1) _ (by omega) (hf1.trans hl) (hf2.mono (by omega)) hR
  simpa [A7] using this
def Xt (r:N6):T:=.sl (Ao tLn r) (some r.length) (if r=[] then some true else none)
theorem qGg (r:N6):Ae Tryz.prog Γ 204 [q9b r] (Xt r):=by
 unfold q9b Xt
 by_cases h:r=[]
 ·subst h; simpa [Ao] using qA7 (Γ:=Γ) [] (some 0) (some true) qIG
 ·rw [if_neg h,if_neg h]
  have:=qA7 (Γ:=Γ) (Ao tLn r) none none qAy
  rwa [Aa] at this
def q1X (rows:List N6) (i:Nat):List AV:=rows.mapIdx fun j r=>.t (if j<i then Xt r else q9b r)
theorem q5l {rows:List N6} {i:Nat}:(q1X rows i).length=rows.length:=by simp [q1X]
theorem qIL {rows:List N6} {i:Nat} (h:i<rows.length):((q1X rows i).drop i).take 1=[.t (q9b rows[i])]:=by
 rw [List.drop_eq_getElem_cons (by rw [q5l]; exact h)]
 simp [q1X]
theorem qFO {rows:List N6} {i:Nat} (h:i<rows.length):(q1X rows i).take i++.t (Xt rows[i])::(q1X rows i).drop (i+1)=q1X rows (i+1):=by
 apply List.ext_getElem?
 intro j
 rw [List.getElem?_append]
 have e:((q1X rows i).take i).length=i:=by simp [q5l]; omega
 rw [e]
 by_cases h1:j<i
 ·rw [if_pos h1,List.getElem?_take,if_pos h1]
  simp only [q1X,List.getElem?_mapIdx]
  cases rows[j]? with
  | none=>rfl
  | some r=>simp only [Option.map_some]; rw [if_pos h1,if_pos (by omega)]
 ·rw [if_neg h1]
  by_cases h2:j=i
  ·subst h2
   simp [q1X,List.getElem?_eq_getElem h]
  ·rw [show j - i=(j - i - 1)+1 by omega,List.getElem?_cons_succ,List.getElem?_drop]
   rw [show i+1+(j - i - 1)=j by omega]
   simp only [q1X,List.getElem?_mapIdx]
   cases rows[j]? with
   | none=>rfl
   | some r=>simp only [Option.map_some]; rw [if_neg h1,if_neg (by omega)]
theorem qAA {Q:AX→St→Prop} (rows:List N6) (hn:rows.length≤16384)
  (h0:Q (.exit 4) ⟨[(3,.lb 14 rows.length),(51,.lb 14 rows.length),(52,.t (tI rows.length)),(53,.t (tI rows.length)),(54,.t (tB false))],[(14,.bx (q1X rows rows.length))]⟩) :
  ∀ (kk i:Nat),kk+i=rows.length →
  run Tryz.prog Γ Ii Q ⟨[(3,.lb 14 rows.length),(51,.lb 14 rows.length),(52,.t (tI rows.length)),(53,.t (tI i))],[(14,.bx (q1X rows i))]⟩
 | 0,i,h=>by
  refine Q4 fun K hK=>?_
  have h2:¬ i<rows.length:=by omega
  have h3:i=rows.length:=by omega
  simp [h2]
  subst h3
  exact h0
 | kk+1,i,h=>by
  refine Q4 fun K hK=>?_
  have h2:i<rows.length:=by omega
  have h3:i+1≤rows.length:=h2
  have e:=qGg (Γ:=Γ) rows[i]
  have ho:(q9b rows[i]).one=true:=by unfold q9b; split <;> rfl
  simp (disch:=omega) [h2,h3,qIL h2,q5l]
  refine Ad e rfl ?_
  simp (disch:=omega) [h2,h3,q5l,A5,Xt]
  rw [hK]
  have:=qAA rows hn h0 kk (i+1) (by omega)
  rw [← qFO h2] at this
  simpa [Xt] using this
def Ew (c:B7):List N6:=Gx c c.nodes.l 0 (List.replicate c.nodes.l.length [])
def qC1 (rows:List N6):T:=.sl (Af Xt rows) (some rows.length) none
theorem q5m (c:B7):∀ (l:List Nd) (i:Nat) (rows:List N6),(Gx c l i rows).length=rows.length
 | [],_,_=>rfl
 | x::l,i,rows=>by
  simp only [Gx]
  rw [q5m c l]
  exact (Xs c i x.inn.l 0 rows (rows.foldr (fun r m=>r.length+m) 0) (by
   intro r hr
   induction rows with
   | nil=>cases hr
   | cons y ys ih =>
    simp only [List.foldr_cons]
    rcases List.mem_cons.1 hr with rfl | hr
    ·omega
    ·have:=ih hr; omega)).1
theorem Z4 (c:B7):(Ew c).length=c.nodes.l.length:=by rw [Ew,q5m]; simp
theorem qC2 (c:B7) (hn:c.nodes.l.length≤16384) (hi:∀ x ∈ c.nodes.l,x.inn.l.length≤16):Ae Tryz.prog Γ 138 [.agg (tC c)] (qC1 (Ew c)):=by
 refine B1 q3j rfl ?_
 have eo:=Wh (Γ:=Γ) c
 have hR:=Z4 c
 have hk1:∀ (env:List (Nat × AV)) (ks:List Nat),Gh.run (.keepB ks [14] 100000 16384) ⟨env,[(14,.bx (List.replicate c.nodes.l.length (.t (.sl [] (some 0) (some true)))))]⟩=⟨Lg.keep ks env,(14,.bx (Cm (List.replicate c.nodes.l.length [])))::D6 (List.replicate c.nodes.l.length [])⟩:=by
  intro env ks
  have hc:Cm (List.replicate c.nodes.l.length [])=List.replicate c.nodes.l.length (.t (.sl [] (some 0) (some true))):=by
   apply List.ext_getElem?
   intro j
   simp only [Cm,List.getElem?_mapIdx,List.getElem?_replicate]
   split <;> simp [q8i]
  refine q6i (by simp) (by simp [A4,hc]) fun t h1 h2=>?_
  rw [A4,if_neg (by omega)]
  unfold Kp
  rw [List.getElem?_replicate]
  split <;> rename_i hq
  ·split at hq
   ·simp only [Option.some.injEq] at hq; subst hq; rfl
   ·cases hq
  ·rfl
 simp (disch:=omega) [Xj,tC,A7,A9,Ac,B5,Aa,-Gh.run,Fv,qIK,hk1,A5]
 refine ⟨by omega,?_⟩
 refine Ad eo rfl ?_
 simp (disch:=omega) [-Gh.run,Fv,Wi,Aa]
 have hp0:RB (List.replicate c.nodes.l.length []) (16*0):=by
  intro r hr; rw [List.eq_of_mem_replicate hr]; simp
 refine q8k c hn hi (Ew c) ?_ c.nodes.l.length 0 (List.replicate c.nodes.l.length []) (by omega) (by simp) hp0 rfl
 generalize Ew c=R at hR
 rw [← hR]
 simp (disch:=omega) [-Gh.run,Fv]
 rw [qGd (by omega) (fun id r h p hp=>by
  simp only [List.mem_cons,List.not_mem_nil,or_false] at hp
  have h14:¬ 14=id:=by omega
  rcases hp with rfl | rfl | rfl | rfl | rfl | rfl | rfl | rfl | rfl <;> simp [Bi,frz1,frz0,h14])]
 have hmix:(R.map fun r=>AV.t (q9b r))=q1X R 0:=by
  apply List.ext_getElem?
  intro j
  simp only [List.getElem?_map,q1X,List.getElem?_mapIdx]
  cases R[j]? <;> simp
 rw [hmix]
 simp
 refine qAA R (by omega) ?_ R.length 0 (by omega)
 have hfin:q1X R R.length=(R.map Xt).map .t:=by
  apply List.ext_getElem?
  intro j
  simp only [List.getElem?_map,q1X,List.getElem?_mapIdx,Option.map_map]
  cases hj:R[j]? with
  | none=>rfl
  | some r =>
   have:=(List.getElem?_eq_some_iff.1 hj).1
   simp only [Option.map_some,Function.comp_def]
   rw [if_pos this]
 have hopt:Ai ((q1X R R.length).map (Aj [(14,.bx (q1X R R.length))] 3))=some (R.map Xt):=by
  conv=>lhs; rw [hfin]
  rw [List.map_map]
  have:(R.map Xt).map (Aj [(14,.bx ((R.map Xt).map .t))] 3 ∘ AV.t)=(R.map Xt).map fun t=>some t:=List.map_congr_left fun t _=>by simp [Aj]
  rw [this]; exact Z1
 simp [Xk,qC1,hopt,Af]
end Go.Lg
namespace Go.Lg
open Go Go.Proofs
def Z5 (N:Nat) (rows:List N6):Prop:=∀ r ∈ rows,∀ p ∈ r,∃ i:Nat,i<N∧p.1=i
theorem Z5.add {N:Nat} {rows:List N6} {n i:Nat} {k:Int} (h:Z5 N rows) (hi:i<N):Z5 N (Hv rows n (i,k)):=by
 intro r hr p hp
 unfold Hv at hr
 by_cases hn:n<rows.length
 ·rcases List.mem_or_eq_of_mem_set hr with hr | rfl
  ·exact h r hr p hp
  ·rcases List.mem_append.1 hp with hp | hp
   ·have e:rows.getD n []=rows[n]:=by simp [hn]
    rw [e] at hp
    exact h _ (List.getElem_mem hn) p hp
   ·simp at hp; subst hp; exact ⟨i,hi,rfl⟩
 ·rw [List.set_eq_of_length_le (by omega)] at hr
  exact h r hr p hp
theorem q4p {N:Nat} (c:B7) (i:Nat) (hi:i<N):∀ (l:List Int) (k:Nat) (rows:List N6),Z5 N rows→Z5 N (Je c i l k rows)
 | [],_,_,h=>h
 | n::l,k,rows,h=>by
  simp only [Je]
  split
  ·exact q4p c i hi l (k+1) rows h
  ·exact q4p c i hi l (k+1) _ (h.add hi)
theorem q7L {N:Nat} (c:B7):∀ (l:List Nd) (i:Nat) (rows:List N6),i+l.length≤N→Z5 N rows→Z5 N (Gx c l i rows)
 | [],_,_,_,h=>h
 | x::l,i,rows,hl,h=>by
  simp only [Gx]
  simp at hl
  exact q7L c l (i+1) _ (by omega) (q4p c i (by omega) _ _ _ h)
theorem q4q (c:B7):Z5 c.nodes.l.length (Ew c):=by
 refine q7L c c.nodes.l 0 _ (by omega) fun r hr p hp=>?_
 rw [List.eq_of_mem_replicate hr] at hp; cases hp
theorem q7M (c:B7):∀ (l:List Nd) (i B:Nat) (rows:List N6),(∀ x ∈ l,x.inn.l.length≤16)→RB rows B→RB (Gx c l i rows) (B+16*l.length)
 | [],_,_,_,_,h=>h
 | x::l,i,B,rows,hl,h=>by
  simp only [Gx,List.length_cons]
  have h1:=(Xs c i x.inn.l 0 rows B h).2
  have h2:=hl x List.mem_cons_self
  exact (q7M c l (i+1) (B+16) _ (fun y hy=>hl y (List.mem_cons_of_mem _ hy)) (h1.mono (by omega))).mono (by omega)
theorem qDU (c:B7) (hn:c.nodes.l.length≤16384) (hi:∀ x ∈ c.nodes.l,x.inn.l.length≤16):RB (Ew c) 262144:=by
 refine (q7M c c.nodes.l 0 0 _ hi fun r hr=>?_).mono (by omega)
 rw [List.eq_of_mem_replicate hr]; simp
structure LS where
 out:List Int
 left:List Int
 rdy:List Int
def G3 (k:Int):Bool:=decide (1≤k∧k≤13)
def C2 (c:B7) (j:Nat):Int:=(c.nodes.l.getD j Nd.d).k
def E1 (c:B7) (n:Nat) (s:LS) (p:Int × Int):LS :=
 if G3 (C2 c p.1.toNat) then
  ⟨s.out.set p.1.toNat (max (s.out.getD p.1.toNat 0) (s.out.getD n 0+1)),s.left.set p.1.toNat (s.left.getD p.1.toNat 0 - 1),if s.left.getD p.1.toNat 0 - 1=0 then s.rdy++[p.1] else s.rdy⟩
 else s
def Gj (c:B7) (n:Nat):N6:=(Ew c).getD n []
def Lu (c:B7):Nat→Nat→LS→Nat × LS
 | 0,d,s=>(d,s)
 | f+1,d,s=>if d<s.rdy.length then Lu c f (d+1) ((Gj c (s.rdy.getD d 0).toNat).foldl (E1 c (s.rdy.getD d 0).toNat) s) else (d,s)
def Do (x:Nd):Int:=if G3 x.k then x.inn.l.length else 0
def Dp:List Nd→Nat→List Int
 | [],_=>[]
 | x::l,i=>if Do x=0 then (i:Int)::Dp l (i+1) else Dp l (i+1)
def Hw (c:B7):LS:=⟨List.replicate c.nodes.l.length 0,c.nodes.l.map Do,Dp c.nodes.l 0⟩
def Oe (c:B7):Nat × LS:=Lu c (c.nodes.l.length+1) 0 (Hw c)
structure LI (N M:Nat) (s:LS):Prop where
 lo:s.out.length=N
 ll:s.left.length=N
 rd:∀ j ∈ s.rdy,∃ i:Nat,i<N∧j=i∧s.left.getD i 0≤0
 nd:s.rdy.Nodup
 bo:∀ i,0≤s.out.getD i 0∧s.out.getD i 0≤M
 bl:∀ i,-(M:Int)≤s.left.getD i 0∧s.left.getD i 0≤1000
theorem qAB {N:Nat} {l:List Int} (h:l.Nodup) (hb:∀ j ∈ l,∃ i:Nat,i<N∧j=i):l.length≤N:=by
 have h1:(l.map Int.toNat).Nodup:=by
  rw [List.nodup_iff_pairwise_ne] at h ⊢
  rw [List.pairwise_map]
  refine h.imp_of_mem fun {a b} ha hb' hne e=>hne ?_
  obtain ⟨i,_,rfl⟩:=hb a ha
  obtain ⟨j,_,rfl⟩:=hb b hb'
  have:i=j:=by simpa using e
  rw [this]
 have h2:(l.map Int.toNat) ⊆ List.range N:=by
  intro j hj
  obtain ⟨a,ha,rfl⟩:=List.mem_map.1 hj
  obtain ⟨i,hi,rfl⟩:=hb a ha
  simpa using hi
 have:=(List.Nodup.length_le_of_subset h1 h2)
 simpa using this
theorem LI.len {N M:Nat} {s:LS} (h:LI N M s):s.rdy.length≤N:=qAB h.nd fun j hj=>by obtain ⟨i,h1,h2,_⟩:=h.rd j hj; exact ⟨i,h1,h2⟩
theorem Nh {l:List Int} {j i:Nat} {v:Int} (hj:j<l.length):(l.set j v).getD i 0=if i=j then v else l.getD i 0:=by
 simp only [List.getD,List.getElem?_set]
 by_cases h:j=i
 ·subst h; simp [hj]
 ·simp [h,Ne.symm h]
theorem LI.step {N M:Nat} {c:B7} {s:LS} {n i:Nat} {k:Int} (h:LI N M s) (hi:i<N):LI N (M+1) (E1 c n s (i,k)):=by
 unfold E1
 simp only [Int.toNat_natCast]
 split
 case isFalse=>exact ⟨h.lo,h.ll,h.rd,h.nd,fun j=>⟨(h.bo j).1,by have:=(h.bo j).2; omega⟩,fun j=>⟨by have:=(h.bl j).1; omega,(h.bl j).2⟩⟩
 refine ⟨by simp [h.lo],by simp [h.ll],?_,?_,?_,?_⟩
 ·intro j hj
  have old:∀ j ∈ s.rdy,∃ i0:Nat,i0<N∧j=i0∧(s.left.set i (s.left.getD i 0 - 1)).getD i0 0≤0:=by
   intro j hj
   obtain ⟨i0,h1,h2,h3⟩:=h.rd j hj
   refine ⟨i0,h1,h2,?_⟩
   rw [Nh (by rw [h.ll]; exact hi)]
   split
   ·rename_i e; subst e; omega
   ·exact h3
  split at hj
  ·rename_i hz
   rcases List.mem_append.1 hj with hj | hj
   ·exact old j hj
   ·simp at hj; subst hj
    refine ⟨i,hi,rfl,?_⟩
    rw [Nh (by rw [h.ll]; exact hi),if_pos rfl]; omega
  ·exact old j hj
 ·split
  ·rename_i hz
   rw [List.nodup_append]
   refine ⟨h.nd,by simp,?_⟩
   intro a ha b hb e
   simp at hb; subst hb; subst e
   obtain ⟨i0,h1,h2,h3⟩:=h.rd _ ha
   have:i=i0:=by omega
   subst this
   omega
  ·exact h.nd
 ·intro j
  rw [Nh (by rw [h.lo]; exact hi)]
  have h1:=h.bo j
  have h2:=h.bo i
  have h3:=h.bo n
  split
  ·rename_i e
   omega
  ·omega
 ·intro j
  rw [Nh (by rw [h.ll]; exact hi)]
  have h1:=h.bl j
  have h2:=h.bl i
  split <;> omega
theorem LI.fold {N:Nat} {c:B7} {n:Nat}:∀ {r:N6} {s:LS} {M:Nat},LI N M s→(∀ p ∈ r,∃ i:Nat,i<N∧p.1=i)→LI N (M+r.length) (r.foldl (E1 c n) s)
 | [],_,_,h,_=>h
 | p::r,s,M,h,hr=>by
  obtain ⟨i,hi,he⟩:=hr p List.mem_cons_self
  obtain ⟨p1,p2⟩:=p
  simp only at he; subst he
  have:=LI.fold (c:=c) (n:=n) (h.step (c:=c) (n:=n) (k:=p2) hi) fun q hq=>hr q (List.mem_cons_of_mem _ hq)
  simp only [List.foldl_cons,List.length_cons]
  rw [show M+(r.length+1)=M+1+r.length by omega]
  exact this
theorem q4r:∀ (l:List Nd) (i:Nat),(∀ j ∈ Dp l i,∃ a:Nat,i≤a∧a<i+l.length∧j=a∧(l.map Do).getD (a - i) 0=0)∧(Dp l i).Nodup
 | [],_=>⟨fun j h=>(by cases h),List.nodup_nil⟩
 | x::l,i=>by
  obtain ⟨h1,h2⟩:=q4r l (i+1)
  have h3:∀ j ∈ Dp l (i+1),∃ a:Nat,i≤a∧a<i+(l.length+1)∧j=a∧((x::l).map Do).getD (a - i) 0=0:=by
   intro j hj
   obtain ⟨a,e1,e2,e3,e4⟩:=h1 j hj
   refine ⟨a,by omega,by omega,e3,?_⟩
   rw [show a - i=(a - (i+1))+1 by omega]
   simpa using e4
  simp only [Dp,List.length_cons]
  split
  ·rename_i hz
   refine ⟨fun j hj=>?_,?_⟩
   ·rcases List.mem_cons.1 hj with rfl | hj
    ·exact ⟨i,by omega,by omega,rfl,by simp [hz]⟩
    ·exact h3 j hj
   ·rw [List.nodup_cons]
    refine ⟨fun hm=>?_,h2⟩
    obtain ⟨a,e1,_,e3,_⟩:=h1 _ hm
    omega
  ·exact ⟨h3,h2⟩
theorem qC3 (c:B7) (hi:∀ x ∈ c.nodes.l,x.inn.l.length≤16):LI c.nodes.l.length 0 (Hw c):=by
 obtain ⟨h1,h2⟩:=q4r c.nodes.l 0
 refine ⟨by simp [Hw],by simp [Hw],fun j hj=>?_,h2,fun i=>?_,fun i=>?_⟩
 ·obtain ⟨a,_,e2,e3,e4⟩:=h1 j hj
  exact ⟨a,by omega,e3,by simp only [Nat.sub_zero] at e4; simp only [Hw]; omega⟩
 ·simp only [Hw,List.getD,List.getElem?_replicate]
  split <;> simp
 ·simp only [Hw,List.getD,List.getElem?_map]
  cases hx:c.nodes.l[i]? with
  | none=>simp
  | some x =>
   have:=hi x (List.mem_of_getElem? hx)
   simp only [Option.map_some,Option.getD_some,Do]
   split <;> simp <;> omega
end Go.Lg
namespace Go.Lg
open Go Go.Proofs
variable {Γ:Tables}
theorem q5n {α:Type} {f:α→T} {l:List α} {j:Nat} {x:α} (h:j<l.length):(Af f (l.set j x))[j]?.getD []=[f x]:=by simp [Af,h]
theorem qIM {r:N6} {i:Nat} (h:i<r.length):(Ao tLn r)[i]?.getD []=tLn r[i]:=by simp [Ao,h]
def lsH (s:LS):List (Nat × Bc):=[(23,.sl 3 1 (Ax s.out)),(27,.sl 3 1 (Ax s.left)),(53,.sl 3 1 (Ax s.rdy))]
theorem q4s {Q:AX→St→Prop} (c:B7) (hc:CirOk c) (hn:c.nodes.l.length≤16384) (n:Nat) (hnn:n<c.nodes.l.length) (d:Int) (r:N6) (nl:Option Bool) (hr:r.length≤262144) (hin:∀ p ∈ r,∃ i:Nat,i<c.nodes.l.length∧p.1=i) (S5:T) (S:LS)
  (h0:Q (.exit 4) ⟨[(1,.t (.ip (tC c) 0)),(5,.ls 23 0 c.nodes.l.length none),(6,.ls 27 0 c.nodes.l.length none),(7,.ls 53 0 S.rdy.length none),(10,.t S5),(11,.t (tI d)),(12,.t (tI n)),(76,.t (.sl (Ao tLn r) (some r.length) nl)),(77,.t (tI r.length)),(78,.t (tI r.length)),(79,.t (tB false))],lsH S⟩) :
  ∀ (kk k:Nat) (s:LS) (M:Nat),kk+k=r.length→LI c.nodes.l.length M s→M+kk≤4611686018427387904→(r.drop k).foldl (E1 c n) s=S →
  run Tryz.prog Γ Ib Q ⟨[(1,.t (.ip (tC c) 0)),(5,.ls 23 0 c.nodes.l.length none),(6,.ls 27 0 c.nodes.l.length none),(7,.ls 53 0 s.rdy.length none),(10,.t S5),(11,.t (tI d)),(12,.t (tI n)),(76,.t (.sl (Ao tLn r) (some r.length) nl)),(77,.t (tI r.length)),(78,.t (tI k))],lsH s⟩
 | 0,k,s,M,h,hI,hM,hS=>by
  refine Q0 fun K hK=>?_
  have h2:¬ k<r.length:=by omega
  have h3:k=r.length:=by omega
  simp [h2,lsH]
  subst h3
  rw [List.drop_of_length_le (Nat.le_refl _)] at hS
  simp only [List.foldl_nil] at hS
  subst hS
  exact h0
 | kk+1,k,s,M,h,hI,hM,hS=>by
  refine Q0 fun K hK=>?_
  have h2:k<r.length:=by omega
  rw [List.drop_eq_getElem_cons h2] at hS
  simp only [List.foldl_cons] at hS
  obtain ⟨j,hj,hpj⟩:=hin _ (List.getElem_mem h2)
  have hstep:=hI.step (c:=c) (n:=n) (k:=r[k].2) hj
  have hpair:r[k]=((j:Int),r[k].2):=by rw [← hpj]
  rw [hpair] at hS
  generalize r[k].2=q at hS hstep hpair
  have e:=q6h (Γ:=Γ) c.nodes.l[j].k
  have hkind:C2 c j=c.nodes.l[j].k:=by simp [C2,hj]
  simp (disch:=omega) [h2,lsH,Aa,qIM h2,qAy,hpair,tLn,tC,A7,Dv Nd.d,Aq,Bt,B5,hj]
  refine A3 e rfl ?_
  by_cases hcb:G3 c.nodes.l[j].k=true
  case neg =>
   have hcb':decide (1≤c.nodes.l[j].k∧c.nodes.l[j].k≤13)=false:=by simpa [G3] using hcb
   have hcb2:G3 (C2 c j)=false:=by rw [hkind]; exact hcb'
   have hst:E1 c n s ((j:Int),q)=s:=by unfold E1; simp [hcb2]
   rw [hst] at hS hstep
   rw [hcb']
   simp (disch:=omega) [A5]
   rw [hK]
   have:=q4s c hc hn n hnn d r nl hr hin S5 S h0 kk (k+1) s (M+1) (by omega) hstep (by omega) hS
   simpa [lsH,tC,A7,B5] using this
  have hcb':decide (1≤c.nodes.l[j].k∧c.nodes.l[j].k≤13)=true:=by simpa [G3] using hcb
  have hcb2:G3 (C2 c j)=true:=by rw [hkind]; exact hcb'
  rw [hcb']
  have ho:=hI.lo
  have hll:=hI.ll
  have b1:=hI.bo n
  have b2:=hI.bo j
  have b3:=hI.bl j
  have hrl:=hI.len
  have hst:E1 c n s ((j:Int),q)=⟨s.out.set j (max (s.out.getD j 0) (s.out.getD n 0+1)),s.left.set j (s.left.getD j 0 - 1),if s.left.getD j 0 - 1=0 then s.rdy++[(j:Int)] else s.rdy⟩:=by
   unfold E1; simp [hcb2]
  have hw:D5 1 [[tI (j:Int)]]:=by intro e he; simp at he; subst he; rfl
  have hmax:max (s.out.getD j 0) (s.out.getD n 0+1)=if s.out.getD j 0<s.out.getD n 0+1 then s.out.getD n 0+1 else s.out.getD j 0:=by
   split <;> omega
  have ih:=fun S2 (e:S2=E1 c n s ((j:Int),q))=>q4s c hc hn n hnn d r nl hr hin S5 S h0 kk (k+1) S2 (M+1) (by omega) (e ▸ hstep) (by omega) (e ▸ hS)
  have ljo:j<s.out.length:=by omega
  have lno:n<s.out.length:=by omega
  have ljl:j<s.left.length:=by omega
  simp only [List.getD,List.getElem?_eq_getElem ljo,List.getElem?_eq_getElem lno,List.getElem?_eq_getElem ljl,Option.getD_some] at b1 b2 b3 hst hmax
  have b1a:=b1.1
  have b1b:=b1.2
  have b2a:=b2.1
  have b2b:=b2.2
  have b3a:=b3.1
  have b3b:=b3.2
  simp (disch:=omega) [A5,A0,Bw (0:Int),A8,Ir,ljo,lno,ljl,hj,hnn]
  rw [show (if s.out[j]<s.out[n]+1 then s.out[n]+1 else s.out[j])=max s.out[j] (s.out[n]+1) from hmax.symm]
  by_cases hz:s.left[j] - 1=0
  ·rw [if_pos hz] at hst
   have ih':=ih _ hst.symm
   simp (disch:=omega) [hz,A5,A0,A8,hw,q5n]
   refine ⟨by omega,?_⟩
   rw [hK]
   rw [Bz (f:=tI) (x:=(j:Int))]
   simpa [lsH,tC,A7,B5,hz] using ih'
  ·rw [if_neg hz] at hst
   have ih':=ih _ hst.symm
   simp (disch:=omega) [hz,A5,q5n,A8]
   rw [hK]
   simpa [lsH,tC,A7,B5] using ih'
theorem qAC {Q:AX→St→Prop} (c:B7) (hc:CirOk c) (hn:c.nodes.l.length≤16384) (hi:∀ x ∈ c.nodes.l,x.inn.l.length≤16) (R:Nat × LS)
  (h0:Q (.exit 2) ⟨[(1,.t (.ip (tC c) 0)),(5,.ls 23 0 c.nodes.l.length none),(6,.ls 27 0 c.nodes.l.length none),(7,.ls 53 0 R.2.rdy.length none),(10,.t (qC1 (Ew c))),(11,.t (tI R.1)),(60,.t (tB false))],lsH R.2⟩) :
  ∀ (f d:Nat) (s:LS) (M:Nat),f+d=c.nodes.l.length+1→LI c.nodes.l.length M s→M=d*262144→Lu c f d s=R →
  run Tryz.prog Γ Ic Q ⟨[(1,.t (.ip (tC c) 0)),(5,.ls 23 0 c.nodes.l.length none),(6,.ls 27 0 c.nodes.l.length none),(7,.ls 53 0 s.rdy.length none),(10,.t (qC1 (Ew c))),(11,.t (tI d))],lsH s⟩
 | 0,d,s,M,h,hI,hM,hR=>by
  refine Q1 fun K hK=>?_
  have hlen:=hI.len
  have h2:¬ d<s.rdy.length:=by omega
  simp [h2,lsH]
  simp only [Lu] at hR
  subst hR
  exact h0
 | f+1,d,s,M,h,hI,hM,hR=>by
  refine Q1 fun K hK=>?_
  have hlen:=hI.len
  by_cases h2:d<s.rdy.length
  case neg =>
   simp [h2,lsH]
   simp only [Lu,h2,↓reduceIte] at hR
   subst hR
   exact h0
  simp only [Lu,h2,↓reduceIte] at hR
  obtain ⟨j,hj,he,hz⟩:=hI.rd _ (List.getElem_mem h2)
  have hgd:s.rdy.getD d 0=(j:Int):=by simp [h2,he]
  rw [hgd] at hR
  simp only [Int.toNat_natCast] at hR
  have hfr:=Z4 c
  have hrl:Gj c j ∈ Ew c:=by
   have e:Gj c j=(Ew c)[j]'(by omega):=by simp [Gj,hfr,hj]
   rw [e]; exact List.getElem_mem _
  have hin:=q4q c _ hrl
  have hrb:=qDU c hn hi _ hrl
  have hfold:=hI.fold (c:=c) (n:=j) hin
  have hel:(Ew c)[j]? = some (Gj c j):=by
   have hlt:j<(Ew c).length:=by omega
   simp [Gj,hlt]
  have hrt:Xt (Gj c j)=.sl (Ao tLn (Gj c j)) (some (Gj c j).length) (if Gj c j=[] then some true else none):=rfl
  have hg1:(Af Xt (Ew c))[j]?.getD []=[Xt (Gj c j)]:=by simp [Af,hel]
  have hM2:LI c.nodes.l.length ((d+1)*262144) ((Gj c j).foldl (E1 c j) s):=⟨hfold.lo,hfold.ll,hfold.rd,hfold.nd,fun i=>⟨(hfold.bo i).1,by have:=(hfold.bo i).2; omega⟩,fun i=>⟨by have:=(hfold.bl i).1; omega,(hfold.bl i).2⟩⟩
  have ih:=qAC c hc hn hi R h0 f (d+1) _ _ (by omega) hM2 rfl hR
  have hrdy:(s.rdy)[d]?.getD 0=(j:Int):=by simpa using hgd
  simp (disch:=omega) [h2,lsH,A0,Bw (0:Int),A8,A5,he,qC1,hfr,hj,hg1,hrt,Aa]
  by_cases hr0:(Gj c j).length=0
  ·have hr0':Gj c j=[]:=List.eq_nil_of_length_eq_zero hr0
   simp [hr0',Bh]
   rw [hK]
   rw [hr0'] at ih
   simp only [List.foldl_nil,qC1,hfr,lsH] at ih
   exact_mod_cast ih
  ·have hr0':¬ Gj c j=[]:=fun e=>hr0 (by simp [e])
   simp (disch:=omega) [Bh,hr0',lsH,A0,Bw (0:Int),A8,A5,he,qC1,hfr,hj,hg1,hrt,Aa]
   refine q4s c hc hn j hj ((d:Int)+1) (Gj c j) _ (by omega) hin _ _ ?_ (Gj c j).length 0 s M (by omega) hI (by omega) rfl
   simp [lsH]
   rw [hK]
   simp only [qC1,hfr,lsH] at ih
   exact_mod_cast ih
theorem q5o (x:Nd):∀ (l:List Nd) (i:Nat),Dp (l++[x]) i=if Do x=0 then Dp l i++[((i+l.length:Nat):Int)] else Dp l i
 | [],i=>by simp [Dp]
 | y::l,i=>by
  have:=q5o x l (i+1)
  simp only [List.cons_append,Dp,this,List.length_cons]
  rw [show i+1+l.length=i+(l.length+1) by omega]
  split <;> split <;> rfl
theorem q7N:∀ (l:List Nd) (i:Nat),(Dp l i).length≤l.length
 | [],_=>by simp [Dp]
 | x::l,i=>by
  have:=q7N l (i+1)
  simp only [Dp]
  split <;> simp <;> omega
def Kr (c:B7) (i:Nat):List Int:=(c.nodes.l.take i).map Do++List.replicate (c.nodes.l.length - i) 0
theorem q8l {c:B7} {i:Nat} (h:i≤c.nodes.l.length):(Kr c i).length=c.nodes.l.length:=by simp [Kr]; omega
theorem q4t {c:B7} {i:Nat} (h:i<c.nodes.l.length):(Kr c i).set i (Do c.nodes.l[i])=Kr c (i+1):=by
 unfold Kr
 have e1:((c.nodes.l.take i).map Do).length=i:=by simp; omega
 rw [List.set_append_right _ _ (by rw [e1]; exact Nat.le_refl i),e1,Nat.sub_self]
 rw [show c.nodes.l.length - i=(c.nodes.l.length - (i+1))+1 by omega,List.replicate_succ,List.set_cons_zero]
 have e3:(c.nodes.l.map Do).take (i+1)=(c.nodes.l.map Do).take i++[Do c.nodes.l[i]]:=by rw [List.take_add_one]; simp [h]
 simp [e3]
theorem qC4 {c:B7} {i:Nat} (h:i<c.nodes.l.length) (h0:Do c.nodes.l[i]=0):Kr c i=Kr c (i+1):=by
 unfold Kr
 rw [show c.nodes.l.length - i=(c.nodes.l.length - (i+1))+1 by omega,List.replicate_succ]
 have e3:(c.nodes.l.map Do).take (i+1)=(c.nodes.l.map Do).take i++[Do c.nodes.l[i]]:=by rw [List.take_add_one]; simp [h]
 simp [e3,h0]
theorem qAD {Q:AX→St→Prop} (c:B7) (hn:c.nodes.l.length≤16384) (hi:∀ x ∈ c.nodes.l,x.inn.l.length≤16) (out:List Int)
  (h0:Q (.exit 0) ⟨[(1,.t (.ip (tC c) 0)),(5,.ls 23 0 c.nodes.l.length none),(6,.ls 27 0 c.nodes.l.length none),(7,.ls 53 0 (Dp c.nodes.l 0).length none),(29,.t (A7 c.nodes)),(30,.t (tI c.nodes.l.length)),(31,.t (tI c.nodes.l.length)),(32,.t (tB false))],[(23,.sl 3 1 (Ax out)),(27,.sl 3 1 (Ax (c.nodes.l.map Do))),(53,.sl 3 1 (Ax (Dp c.nodes.l 0)))]⟩) :
  ∀ (kk i:Nat),kk+i=c.nodes.l.length →
  run Tryz.prog Γ Ia Q ⟨[(1,.t (.ip (tC c) 0)),(5,.ls 23 0 c.nodes.l.length none),(6,.ls 27 0 c.nodes.l.length none),(7,.ls 53 0 (Dp (c.nodes.l.take i) 0).length none),(29,.t (A7 c.nodes)),(30,.t (tI c.nodes.l.length)),(31,.t (tI i))],[(23,.sl 3 1 (Ax out)),(27,.sl 3 1 (Ax (Kr c i))),(53,.sl 3 1 (Ax (Dp (c.nodes.l.take i) 0)))]⟩
 | 0,i,h=>by
  refine Pz fun K hK=>?_
  have h2:¬ i<c.nodes.l.length:=by omega
  have h3:i=c.nodes.l.length:=by omega
  simp [h2]
  subst h3
  simpa [Kr] using h0
 | kk+1,i,h=>by
  refine Pz fun K hK=>?_
  have h2:i<c.nodes.l.length:=by omega
  have hx:=hi _ (List.getElem_mem h2)
  have ht:c.nodes.l.take (i+1)=c.nodes.l.take i++[c.nodes.l[i]]:=by rw [List.take_add_one]; simp [h2]
  have htl:(c.nodes.l.take i).length=i:=by simp; omega
  have hrl:=q7N (c.nodes.l.take i) 0
  have hll:=q8l (c:=c) (i:=i) (by omega)
  have hll1:=q8l (c:=c) (i:=i+1) (by omega)
  have hsn:=q5o c.nodes.l[i] (c.nodes.l.take i) 0
  rw [← ht,htl,Nat.zero_add] at hsn
  have e:=q6h (Γ:=Γ) c.nodes.l[i].k
  have ih:=qAD c hn hi out h0 kk (i+1) (by omega)
  have hw:D5 1 [[tI (i:Int)]]:=by intro e he; simp at he; subst he; rfl
  simp (disch:=omega) [h2,Aa,Dv Nd.d,Aq,A7,Bt,B5,-F8]
  refine A3 e rfl ?_
  have tail:∀ (lf:List Int),lf=Kr c (i+1)→run Tryz.prog Γ (.seq (.reg F8 [.keep [1,5,6,7,8,29,30,31,49] [23,27,53]]) (.cond (.tmp 49) (.reg Mc [.keep [1,5,6,7,29,30,31] [23,27,53]]) .skip))
    (M9 1 (As (run Tryz.prog Γ (.reg Md [.keep [1,5,6,7,29,30,31] [23,27,53]]) (As (fun s=>As K Q .normal (ghs [.keep [1,5,6,7,29,30,31] [23,27,53]] s)) (As K Q))) (As (fun s=>As K Q .normal (ghs [.keep [1,5,6,7,29,30,31] [23,27,53]] s)) (As K Q))))
    ⟨[(1,.t (.ip (tC c) 0)),(5,.ls 23 0 c.nodes.l.length none),(6,.ls 27 0 c.nodes.l.length none),(7,.ls 53 0 (Dp (c.nodes.l.take i) 0).length none),(8,.t (tI i)),(29,.t (A7 c.nodes)),(30,.t (tI c.nodes.l.length)),(31,.t (tI i))],[(23,.sl 3 1 (Ax out)),(27,.sl 3 1 (Ax lf)),(53,.sl 3 1 (Ax (Dp (c.nodes.l.take i) 0)))]⟩:=by
   rintro lf rfl
   have hget:(Kr c (i+1))[i]?.getD 0=Do c.nodes.l[i]:=by
    rw [← q4t h2]
    simp [hll,h2]
   have hge:=hget
   rw [List.getElem?_eq_getElem (by rw [hll1]; exact h2),Option.getD_some] at hge
   by_cases hz:Do c.nodes.l[i]=0
   ·rw [if_pos hz] at hsn
    simp (disch:=omega) [h2,A0,Bw (0:Int),A8,hll1,hge,hz,hw,A5]
    refine ⟨by omega,?_⟩
    rw [hK]
    rw [hsn] at ih
    rw [Bz (f:=tI) (x:=(i:Int))]
    simpa using ih
   ·rw [if_neg hz] at hsn
    simp (disch:=omega) [h2,A0,Bw (0:Int),A8,hll1,hge,hz,A5]
    rw [hK]
    rw [hsn] at ih
    exact_mod_cast ih
  by_cases hcb:G3 c.nodes.l[i].k=true
  ·have hcb':decide (1≤c.nodes.l[i].k∧c.nodes.l[i].k≤13)=true:=by simpa [G3] using hcb
   have hlo:Do c.nodes.l[i]=c.nodes.l[i].inn.l.length:=by simp [Do,hcb]
   rw [hcb']
   have:=tail ((Kr c i).set i c.nodes.l[i].inn.l.length) (by rw [← hlo]; exact q4t h2)
   simp (disch:=omega) [h2,A0,A8,hll,Ir,-F8]
   exact this
  ·have hcb':decide (1≤c.nodes.l[i].k∧c.nodes.l[i].k≤13)=false:=by simpa [G3] using hcb
   have hlo:Do c.nodes.l[i]=0:=by simp [Do,hcb]
   rw [hcb',qC4 h2 hlo]
   rw [if_pos hlo] at hsn
   have hge:(Kr c (i+1))[i]'(by rw [hll1]; exact h2)=0:=by
    have hget:(Kr c (i+1))[i]?.getD 0=Do c.nodes.l[i]:=by
     rw [← q4t h2]
     simp [hll,h2]
    rw [List.getElem?_eq_getElem (by rw [hll1]; exact h2),Option.getD_some] at hget
    rw [hget,hlo]
   simp (disch:=omega) [h2,A0,Bw (0:Int),A8,hll1,hge,hw,A5]
   refine ⟨by omega,?_⟩
   rw [hK]
   rw [hsn] at ih
   rw [Bz (f:=tI) (x:=(i:Int))]
   simpa [A7] using ih
def Eb (c:B7):Int:=if Ci c ≠ 0 then Ci c else if (Oe c).1<c.nodes.l.length then 6 else 0
theorem qDV (k:Int):(S5 k).2≤16:=by
 unfold S5
 split
 ·decide
 ·have:∀ n:Nat,(q8b.getD n (0,0)).2≤16:=by
   intro n
   by_cases h:n<16
   ·have:n=0∨n=1∨n=2∨n=3∨n=4∨n=5∨n=6∨n=7∨n=8∨n=9∨n=10∨n=11∨n=12∨n=13∨n=14∨n=15:=by omega
    rcases this with rfl | rfl | rfl | rfl | rfl | rfl | rfl | rfl | rfl | rfl | rfl | rfl | rfl | rfl | rfl | rfl <;> decide
   ·rw [List.getD,List.getElem?_eq_none (by simp [q8b]; omega)]; decide
  exact this _
theorem q0I {α:Type} {f:α→Int}:∀ {l:List α},Dh (l.map f)=0→∀ x ∈ l,f x=0
 | [],_,x,h=>by cases h
 | y::l,h,x,hx=>by
  simp only [List.map_cons,Dh] at h
  split at h
  ·rename_i hy; exact absurd h hy
  ·rename_i hy
   rcases List.mem_cons.1 hx with rfl | hx
   ·simpa using hy
   ·exact q0I h x hx
theorem Gy {c:B7} (h:Ci c=0):c.nodes.l.length≤16384∧(∀ x ∈ c.nodes.l,x.inn.l.length≤16)∧(∀ x ∈ c.nodes.l,D7 c x=0)∧c.mems.l.length≤16:=by
 unfold Ci at h
 split at h
 ·cases h
 rename_i h1
 split at h
 ·cases h
 split at h
 ·rename_i h2; exact absurd h h2
 rename_i h2
 have h3:=q0I (by simpa using h2)
 refine ⟨by omega,fun x hx=>?_,h3,by omega⟩
 have h4:=h3 x hx
 have h5:=qDV x.k
 unfold D7 at h4
 split at h4
 ·cases h4
 split at h4
 ·cases h4
 rename_i h6
 omega
theorem q7O (hΓ:GOk Γ) (c:B7) (hc:CirOk c) (ha:∀ s ∈ c.names.l,∀ b ∈ s,b<128) :
  A6 Tryz.prog Γ 75 [.agg (tC c)] (.tup [if Eb c=0 then .sl (Ax (Oe c).2.out) none none else .sl [] (some 0) (some true),tI (Eb c)]):=by
 refine Ab q3i rfl ?_
 have e1:=qDT hΓ c hc ha
 simp [Xf,tC,A7,A9,Ac,B5]
 refine A3 e1 rfl ?_
 by_cases h1:Ci c=0
 case neg =>
  have:Eb c=Ci c:=by unfold Eb; rw [if_pos h1]
  simp [h1,Ie,this]
 obtain ⟨hn,hi,_⟩:=Gy h1
 have e2:=qC2 (Γ:=Γ) c hn hi
 have hl0:Eb c=if (Oe c).1<c.nodes.l.length then 6 else 0:=by unfold Eb; rw [if_neg (show ¬ (Ci c ≠ 0) by simp [h1])]
 simp (disch:=omega) [h1,Aa,A5]
 refine ⟨by omega,?_⟩
 have e0:List.replicate c.nodes.l.length [T.v (Value.int .i64 0)]=Ax (List.replicate c.nodes.l.length 0):=by simp [Af]
 rw [e0]
 have hl:=fun Q h0=>qAD (Γ:=Γ) (Q:=Q) c hn hi (List.replicate c.nodes.l.length 0) h0 c.nodes.l.length 0 (by omega)
 have el0:Kr c 0=List.replicate c.nodes.l.length 0:=by simp [Kr]
 simp only [el0,Dp,List.take_zero,List.length_nil] at hl
 refine hl _ ?_
 simp [tC,A7,A9,Ac,B5]
 refine Ad e2 rfl ?_
 have hI:=qC3 c hi
 have hm:=fun Q h0=>qAC (Γ:=Γ) (Q:=Q) c hc hn hi (Oe c) h0 (c.nodes.l.length+1) 0 (Hw c) 0 (by omega) hI (by omega) rfl
 simp
 refine hm _ ?_
 have hend:(Oe c).1<c.nodes.l.length↔((Oe c).1:Int)<c.nodes.l.length:=by omega
 have hol:(Oe c).2.out.length=c.nodes.l.length:=by
  have:∀ (f d:Nat) (s:LS),s.out.length=c.nodes.l.length→(Lu c f d s).2.out.length=c.nodes.l.length:=by
   intro f
   induction f with
   | zero=>intro d s h; exact h
   | succ f ih =>
    intro d s h
    simp only [Lu]
    split
    ·refine ih _ _ ?_
     have:∀ (r:N6) (n:Nat) (s:LS),s.out.length=c.nodes.l.length→(r.foldl (E1 c n) s).out.length=c.nodes.l.length:=by
      intro r n
      induction r with
      | nil=>intro s h; exact h
      | cons p r ih2 =>
       intro s h
       rw [List.foldl_cons]
       refine ih2 _ ?_
       unfold E1
       split
       ·simp [h]
       ·exact h
     exact this _ _ _ h
    ·exact h
  exact this _ _ _ hI.lo
 by_cases h2:(Oe c).1<c.nodes.l.length
 ·rw [if_pos h2] at hl0
  have h2':=hend.1 h2
  simp [lsH,tC,A7,Aa,h2',Ie,hl0]
 ·rw [if_neg h2] at hl0
  have h2':¬ ((Oe c).1:Int)<c.nodes.l.length:=fun h=>h2 (hend.2 h)
  have ht:(Ax (Oe c).2.out).take c.nodes.l.length=Ax (Oe c).2.out:=by rw [← hol]; simp
  simp [lsH,tC,A7,Aa,h2,h2',Ie,hl0,ht]
structure COk (c:B7):Prop extends CirOk c where
 asc:∀ s ∈ c.names.l,∀ b ∈ s,b<128
theorem q1Y (hΓ:GOk Γ) (c:B7) (hc:COk c):A6 Tryz.prog Γ 19 [.agg (tC c)] (tI (Eb c)):=by
 refine Ab q4l rfl ?_
 have e:=q7O hΓ c hc.toCirOk hc.asc
 simp [Yv,tC,A7,A9,Ac,B5]
 refine A3 e rfl ?_
 simp
 simp [Yw]
def Ag (c:B7):List Int:=ofL [14] c.nodes.l 0
def mems (c:B7):List Int:=ofL [15] c.nodes.l 0
theorem qAz (c:B7) (hc:COk c) (k:Int):A6 Tryz.prog Γ 74 [.agg (tC c),.sl [[tK k]] (some 1) (some false)] (.sl (Ax (ofL [k] c.nodes.l 0)) (some (ofL [k] c.nodes.l 0).length) none):=by
 have:=qIH (Γ:=Γ) c hc.toCirOk [k] (some 1) (some false) (by simp)
 simpa [Af] using this
theorem Ek (c:B7) (hc:COk c):Ae Tryz.prog Γ 18 [.agg (tC c)] (.sl (Ax (Ag c)) (some (Ag c).length) none):=by
 refine B1 q3h rfl ?_
 simp [Xa,tC,A7,A9,Ac,B5]
 refine A3 (qAz c hc 14) rfl ?_
 simp [Xb,Ag]
def q8m (c:B7):Int:=if Eb c ≠ 0 then Eb c else if 0<c.mems.l.length∨0<(mems c).length then 7 else 0
end Go.Lg
namespace Go.Lg
open Go Go.Proofs
def Sl.d:Sl Int:=⟨[],none,none⟩
def Z6 (l:List Int) (a b:Nat):List Int:=(l.set a (l.getD b 0)).set b (l.getD a 0)
theorem q6l {l:List Int} {a b:Nat}:(Z6 l a b).length=l.length:=by simp [Z6]
theorem D8 {l:List Int} {i:Nat} (h:i<l.length):l.getD i 0=l[i]:=by simp [List.getD_eq_getElem?_getD,h]
theorem qFP {l:List Int} {a b q:Nat} (ha:a<l.length) (hb:b<l.length) (hq:q<l.length):(Z6 l a b).getD q 0=if q=b then l.getD a 0 else if q=a then l.getD b 0 else l.getD q 0:=by
 unfold Z6
 rw [Nh (by simp; exact hb)]
 split
 ·rfl
 ·rw [Nh ha]
theorem q8n {l:List Int} {a b:Nat} (ha:a<l.length) (hb:b<l.length):(Z6 l a b).Perm l:=by
 unfold Z6
 rw [D8 ha,D8 hb]
 exact List.set_set_perm ha hb
theorem qAE (ks:List Int):∀ (l:List Nd) (i:Nat),(∀ j ∈ ofL ks l i,(i:Int)≤j)∧(ofL ks l i).Nodup
 | [],_=>⟨fun j h=>(by cases h),List.nodup_nil⟩
 | x::l,i=>by
  obtain ⟨h1,h2⟩:=qAE ks l (i+1)
  simp only [ofL]
  split
  ·refine ⟨fun j hj=>?_,List.nodup_cons.2 ⟨fun hm=>?_,h2⟩⟩
   ·rcases List.mem_cons.1 hj with rfl | hj
    ·omega
    ·have:=h1 j hj; omega
   ·have:=h1 _ hm; omega
  ·exact ⟨fun j hj=>by have:=h1 j hj; omega,h2⟩
theorem q0i (ks:List Int):∀ (l:List Nd) (i:Nat),∀ n ∈ ofL ks l i,(i:Int)≤n∧n<i+l.length∧ks.contains (l.getD (n.toNat - i) Nd.d).k=true
 | [],_,n,h=>by cases h
 | x::l,i,n,h=>by
  have tail:n ∈ ofL ks l (i+1)→(i:Int)≤n∧n<i+(x::l).length∧ks.contains ((x::l).getD (n.toNat - i) Nd.d).k=true:=fun h=>by
   obtain ⟨h1,h2,h3⟩:=q0i ks l (i+1) n h
   refine ⟨by omega,by simp only [List.length_cons]; omega,?_⟩
   have e:n.toNat - i=(n.toNat - (i+1))+1:=by omega
   rw [e,List.getD_cons_succ]
   exact h3
  simp only [ofL] at h
  split at h
  ·rename_i hk
   rcases List.mem_cons.1 h with rfl | h
   ·refine ⟨by omega,by simp only [List.length_cons]; omega,?_⟩
    have e:((i:Int).toNat - i)=0:=by omega
    rw [e,List.getD_cons_zero]
    exact hk
   ·exact tail h
  ·exact tail h
end Go.Lg
namespace Go.Lg
open Go
section
variable {P:Program} {Γ:Tables} {Q:AX→St→Prop} {s:St}
/- (probecard/probecardlaw03.C).Of (function 16) -/
abbrev q41:IC:=.gh (.seq (.seq (.reg [om 13 4,od 14 (fa 0 1),od 15 (ld 1 14),od 16 (.bin .rem (tm 15) (ku 4)),od 17 (.conv .i64 (tm 16)),od 18 (.bin .leq (tm 13) (tm 17))] [kp [1,2,3,4,18] [2,3,25,144,168]]) (.cond (tm 18) .skip
 (.exit 0))) (.seq (.block 1 (.reg [od 21 (fa 0 3),od 22 (ld 1 21),od 23 (.build [(1,(ku 0)),(1,kN),(1,(ki 0)),(1,(ki 0))]),od 24 (.bsl true 45 4 [(tm 23)]),od 25 (.app false 45 4 (tm 22) (tm 24)),od 26 (fa 0 3),on
 (.store 1 (tm 26) (tm 25))] [kp [1,2,3,4] [2,3,25,144,168]])) (.reg [om 19 4,od 20 (.bin .add (tm 19) (ki 1)),om 4 20] [kp [1,2,3,4] [2,3,25,144,168]]))) [kp [1,2,3,4] [2,3,25,144,168]]
def Tj:IC:=.loop q41
abbrev q42:IC:=.gh (.seq (.seq (.reg [om 34 7,om 35 6,od 36 (.bin .lss (tm 34) (tm 35))] [kp [1,2,3,5,6,7,36] [2,3,25,144,168]]) (.cond (tm 36) .skip (.exit 2))) (.seq (.block 3 (.reg [od 39 (fa 0 3),od 40 (ld 1 39),od 41 (.bsl true
 3 1 [(ki 0)]),od 42 (.build [(1,(ku 14)),(1,(tm 41)),(1,(ki 0)),(1,(ki 0))]),od 43 (.bsl true 45 4 [(tm 42)]),oz 44 (.app false 45 4 (tm 40) (tm 43)) 25,od 45 (fa 0 3),on (.store 1 (tm 45) (tm 44))] [kp [1,2,3,5,6,
 7] [2,3,25,144,168]])) (.reg [om 37 7,od 38 (.bin .add (tm 37) (ki 1)),om 7 38] [kp [1,2,3,5,6,7] [2,3,25,144,168]]))) [kp [1,2,3,5,6,7] [2,3,25,144,168]]
def Tm:IC:=.loop q42
abbrev q43:IC:=.gh (.seq (.seq (.reg [om 55 8,od 56 (fa 10 1),od 57 (ld 1 56),od 58 (le 0 57),od 59 (.bin .lss (tm 55) (tm 58)),om 60 59,oT 61 (.mv (tm 8)) 60,oT 62 (.bin .lss (tm 61) (ki 8)) 60,od 63 (.pick (tm 60) (tm 62) kF)] [kp [1,
 2,3,5,6,8,63] [2,3,25,144,168]]) (.cond (tm 63) .skip (.exit 4))) (.seq (.block 5 (.reg [od 66 (fa 0 3),od 67 (.ldR 3 1 false (tm 66)),od 68 (.ldT 12 true (tm 1)),od 69 (fa 10 1),od 70 (.ldT 1 false (tm 69)),om 71 8,
 od 72 (ia 4 70 71),od 73 (.ldT 4 true (tm 72)),od 74 (fa 0 3),od 75 (.ldR 3 1 false (tm 74)),od 76 (.call 65 [(tm 68),(tm 73),(tm 75)]),od 77 (.bsl true 45 4 [(tm 76)]),oz 78 (.app false 45 4 (tm 67) (tm 77)) 25,od 79 (fa
 0 3),on (.stR 3 1 (tm 79) (tm 78))] [kp [1,2,3,5,6,8] [2,3,25,144,168]])) (.reg [om 64 8,od 65 (.bin .add (tm 64) (ki 1)),om 8 65] [kp [1,2,3,5,6,8] [2,3,25,144,168]]))) [kp [1,2,3,5,6,8] [2,3,25,144,
 168]]
def Tn:IC:=.loop q43
abbrev q44:IC:=.gh (.seq (.seq (.reg [om 83 10,om 84 6,od 85 (.bin .lss (tm 83) (tm 84))] [kp [1,2,3,5,6,9,10,85] [2,3,25,144,168]]) (.cond (tm 85) .skip (.exit 6))) (.seq (.block 7 (.reg [od 88 (fa 0 3),od 89 (.ldR 3 1 false (tm
 88)),om 90 5,om 91 10,od 92 (.bin .add (tm 90) (tm 91)),om 93 10,od 94 (fa 2 1),od 95 (.iadrA 2 1 (tm 94) (tm 93)),od 96 (.ldT 1 false (tm 95)),od 97 (.conv .i64 (tm 96)),om 98 9,od 99 (.bin .rem (tm 97) (tm 98)),od 100
 (.bsl true 3 1 [(tm 99)]),od 101 (ia 4 89 92),od 102 (fa 1 101),on (.store 1 (tm 102) (tm 100))] [kp [1,2,3,5,6,9,10] [2,3,25,144,168]])) (.reg [om 86 10,od 87 (.bin .add (tm 86) (ki 1)),om 10 87] [kp [1,2,3,5,6,
 9,10] [2,3,25,144,168]]))) [kp [1,2,3,5,6,9,10] [2,3,25,144,168]]
def To:IC:=.loop q44
abbrev q45:IC:=.gh (.seq (.seq (.reg [om 134 11,om 135 9,od 136 (.bin .lss (tm 134) (tm 135))] [kp [1,2,3,9,11,136] [2,3,25,144,168]]) (.cond (tm 136) .skip (.exit 8))) (.seq (.block 9 (.reg [od 139 (fa 1 3),od 140 (.ldR 3 1 false (tm
 139)),om 141 11,od 142 (.call 66 [(tm 141)]),od 143 (.bsl true 9 1 [(tm 142)]),od 144 (.app false 9 1 (tm 140) (tm 143)),od 145 (fa 1 3),on (.stR 3 1 (tm 145) (tm 144))] [kp [1,2,3,9,11] [2,3,25,144,168]])) (.reg [om
 137 11,od 138 (.bin .add (tm 137) (ki 1)),om 11 138] [kp [1,2,3,9,11] [2,3,25,144,168]]))) [kp [1,2,3,9,11] [2,3,25,144,168]]
def Tq:IC:=.loop q45
abbrev q2o:IC:=.gh (.seq (.seq (.reg [om 146 12,od 147 (fa 11 1),od 148 (ld 1 147),od 149 (le 0 148),od 150 (.bin .lss (tm 146) (tm 149)),om 151 150,oT 152 (.mv (tm 12)) 151,oT 153 (.bin .lss (tm 152) (ki 3)) 151,od 154 (.pick (tm 151)
 (tm 153) kF)] [kp [1,2,3,9,12,154] [2,3,25,144,168]]) (.cond (tm 154) .skip (.exit 10))) (.seq (.block 11 (.reg [od 157 (fa 3 3),od 158 (.ldR 3 1 false (tm 157)),od 159 (fa 11 1),od 160 (.ldT 1 false (tm 159)),om 161
 12,od 162 (ia 1 160 161),od 163 (.ldT 1 false (tm 162)),od 164 (.conv .i64 (tm 163)),om 165 9,od 166 (.bin .rem (tm 164) (tm 165)),od 167 (.bsl true 3 1 [(tm 166)]),od 168 (.app false 3 1 (tm 158) (tm 167)),od 169 (fa 3 3),
 on (.stR 3 1 (tm 169) (tm 168))] [kp [1,2,3,9,12] [2,3,25,144,168]])) (.reg [om 155 12,od 156 (.bin .add (tm 155) (ki 1)),om 12 156] [kp [1,2,3,9,12] [2,3,25,144,168]]))) [kp [1,2,3,9,12] [2,3,25,144,168]]
def Q6:IC:=.loop q2o
abbrev q46:IC:=(.seq (.reg [od 1 (.box true (tm 0)),od 2 (.alloc false [(.slice none 0 0),(.slice none 0 0),(.slice none 0 0),(.slice none 0 0)])] [kp [1,2] [2,25,144,168]]) (.seq (.reg [od 3 (.alloc false [(.slice none 0 0),(.slice none
 0 0),(.slice none 0 0),(.slice none 0 0)])] [.nlb 3 0 25 45 4,.nlb 3 1 144 9 1,.nlb 3 3 168 3 1,kp [1,2,3] [2,3,25,144,168]]) (.seq (.seq (.reg [od 4 (.mv (ki 0))] [kp [1,2,3,4] [2,3,25,144,168]]) (.block 0
 Tj)) (.seq (.reg [od 27 (fa 0 3),od 28 (ld 1 27),od 29 (le 0 28),om 5 29] [kp [1,2,3,5] [2,3,25,144,168]]) (.seq (.reg [od 30 (fa 1 1),od 31 (ld 1 30),od 32 (.bin .rem (tm 31) (ku 3)),od 33 (.conv .i64 (tm
 32)),om 6 33] [kp [1,2,3,5,6] [2,3,25,144,168]]) (.seq (.seq (.reg [od 7 (.mv (ki 0))] [kp [1,2,3,5,6,7] [2,3,25,144,168]]) (.block 2 Tm)) (.seq (.seq (.reg [od 46 (fa 5 1),od 47 (ld 1 46)] [kp [1,2,
 3,5,6,47] [2,3,25,144,168]]) (.cond (tm 47) (.reg [od 48 (fa 0 3),od 49 (ld 1 48),od 50 (.build [(1,(ku 15)),(1,kN),(1,(ki 0)),(1,(ki 0))]),od 51 (.build [(1,(ku 15)),(1,kN),(1,(ki 0)),(1,(ki 1))]),od 52
 (.bsl true 45 4 [(tm 50),(tm 51)]),oz 53 (.app false 45 4 (tm 49) (tm 52)) 25,od 54 (fa 0 3),on (.store 1 (tm 54) (tm 53))] [kp [1,2,3,5,6] [2,3,25,144,168]]) .skip)) (.seq (.seq (.reg [od 8 (.mv (ki 0))] [kp [1,2,3,
 5,6,8] [2,3,25,144,168]]) (.block 4 Tn)) (.seq (.reg [od 80 (fa 0 3),od 81 (ld 1 80),od 82 (le 0 81),om 9 82] [kp [1,2,3,5,6,9] [2,3,25,144,168]]) (.seq (.seq (.reg [od 10 (.mv (ki 0))] [kp [1,2,3,5,
 6,9,10] [2,3,25,144,168]]) (.block 6 To)) (.seq (.seq (.reg [od 103 (fa 5 1),od 104 (ld 1 103)] [kp [1,2,3,9,104] [2,3,25,144,168]]) (.cond (tm 104) (.reg [od 105 (fa 6 1),od 106 (.iadrA 4 1 (tm 105) (ki
 0)),od 107 (.ldT 1 false (tm 106)),od 108 (.conv .i64 (tm 107)),om 109 9,od 110 (.bin .rem (tm 108) (tm 109)),od 111 (.bsl true 3 1 [(tm 110)]),od 112 (fa 6 1),od 113 (.iadrA 4 1 (tm 112) (ki 1)),od 114 (.ldT 1 false (tm
 113)),od 115 (.conv .i64 (tm 114)),om 116 9,od 117 (.bin .rem (tm 115) (tm 116)),od 118 (fa 6 1),od 119 (.iadrA 4 1 (tm 118) (ki 2)),od 120 (.ldT 1 false (tm 119)),od 121 (.conv .i64 (tm 120)),om 122 9,od 123 (.bin .rem
 (tm 121) (tm 122)),od 124 (.bsl true 3 1 [(tm 117),(tm 123)]),od 125 (fa 6 1),od 126 (.iadrA 4 1 (tm 125) (ki 3)),od 127 (.ldT 1 false (tm 126)),od 128 (.conv .i64 (tm 127)),om 129 9,od 130 (.bin .rem (tm 128) (tm 129)),od
 131 (.build [(1,(tm 111)),(1,(tm 124)),(1,(tm 130))]),od 132 (.bsl true 111 3 [(tm 131)]),od 133 (fa 2 3),on (.stR 3 1 (tm 133) (tm 132))] [kp [1,2,3,9] [2,3,25,144,168]]) .skip)) (.seq (.seq (.reg [od 11 (.mv (ki
 0))] [kp [1,2,3,9,11] [2,3,25,144,168]]) (.block 8 Tq)) (.seq (.seq (.reg [od 12 (.mv (ki 0))] [kp [1,2,3,9,12] [2,3,25,144,168]]) (.block 10 Q6)) (.seq (.reg [od 170 (fa 3 3),od 171 (ld 1
 170),om 172 9,od 173 (.bin .sub (tm 172) (ki 1)),od 174 (.bsl true 3 1 [(tm 173)]),oz 175 (.app false 3 1 (tm 171) (tm 174)) 168,od 176 (fa 3 3),on (.store 1 (tm 176) (tm 175))] [kp [2,3] [2,3,25,144,168]]) (.seq (.reg
 [od 177 (lG 4 3),on (.store 4 (tm 2) (tm 177))] [kp [2] [2,25,144,168]]) .ret)))))))))))))))
theorem Z7 (h:∀ K:St→Prop,K=run P Γ Tj Q→run P Γ q41 (As K Q) s):run P Γ Tj Q s:=Ah h
theorem Z8 (h:∀ K:St→Prop,K=run P Γ Tm Q→run P Γ q42 (As K Q) s):run P Γ Tm Q s:=Ah h
theorem Z9 (h:∀ K:St→Prop,K=run P Γ Tn Q→run P Γ q43 (As K Q) s):run P Γ Tn Q s:=Ah h
theorem Za (h:∀ K:St→Prop,K=run P Γ To Q→run P Γ q44 (As K Q) s):run P Γ To Q s:=Ah h
theorem Zb (h:∀ K:St→Prop,K=run P Γ Tq Q→run P Γ q45 (As K Q) s):run P Γ Tq Q s:=Ah h
theorem Xu (h:∀ K:St→Prop,K=run P Γ Q6 Q→run P Γ q2o (As K Q) s):run P Γ Q6 Q s:=Ah h
def H9:List RV:=[.cell 2 4 true]
/- (probecard/probecardlaw03.C).gate (function 65) -/
abbrev q1u:IC:=.gh (.seq (.seq (.reg [om 37 12,om 38 7,od 39 (.bin .lss (tm 37) (tm 38))] [kp [2,3,4,6,7,8,9,10,11,12,39] [6,51,70,79,86,94,105,126,142,156]]) (.cond (tm 39) .skip (.exit 0))) (.seq (.block 1 (.seq (.reg [om
 42 2,om 43 12,od 44 (ia 4 42 43),od 45 (fa 0 44),od 46 (ld 1 45),od 47 (.bin .eql (tm 46) (ku 12))] [kp [2,3,4,6,7,8,9,10,11,12,47] [6,51,70,79,86,94,105,126,142,156]]) (.cond (tm 47) (.reg [om 48 11,om 49
 12,od 50 (.bsl true 3 1 [(tm 49)]),od 51 (.app false 3 1 (tm 48) (tm 50)),om 11 51] [kp [2,3,4,6,7,8,9,10,11,12] [6,51,70,79,86,94,105,126,142,156]]) .skip))) (.reg [om 40 12,od 41 (.bin .add (tm 40) (ki 1)),
 om 12 41] [kp [2,3,4,6,7,8,9,10,11,12] [6,51,70,79,86,94,105,126,142,156]]))) [kp [2,3,4,6,7,8,9,10,11,12] [6,51,70,79,86,94,105,126,142,156]]
def O5:IC:=.loop q1u
abbrev q1v:IC:=(.seq (.reg [od 3 (.box true (tm 0)),od 4 (.box true (tm 1)),od 6 (.alloc false [(.int .u8 0),(.slice none 0 0),(.int .i64 0),(.int .i64 0)])] [kp [2,3,4,6] [6,70,79,86,94,105,126,142,156]]) (.seq (.reg [om 17 2,od
 18 (le 0 17),om 7 18] [kp [2,3,4,6,7] [6,70,79,86,94,105,126,142,156]]) (.seq (.reg [od 19 (fa 1 4),od 20 (.iadrA 3 1 (tm 19) (ki 0)),od 21 (ld 1 20),od 22 (.conv .i64 (tm 21)),om 23 7,od 24 (.bin .rem (tm 22) (tm
 23)),od 25 (fa 1 4),od 26 (.iadrA 3 1 (tm 25) (ki 1)),od 27 (ld 1 26),od 28 (.conv .i64 (tm 27)),om 29 7,od 30 (.bin .rem (tm 28) (tm 29)),od 31 (fa 1 4),od 32 (.iadrA 3 1 (tm 31) (ki 2)),od 33 (ld 1 32),od 34 (.conv .i64
 (tm 33)),om 35 7,od 36 (.bin .rem (tm 34) (tm 35)),om 8 24,om 9 30,om 10 36] [kp [2,3,4,6,7,8,9,10] [6,70,79,86,94,105,126,142,156]]) (.seq (.reg [od 11 (.mv kN)] [.nl 11 51 3 1,kp [2,3,4,6,7,8,9,10,11]
 [6,51,70,79,86,94,105,126,142,156]]) (.seq (.seq (.reg [od 12 (.mv (ki 0))] [kp [2,3,4,6,7,8,9,10,11,12] [6,51,70,79,86,94,105,126,142,156]]) (.block 0 O5)) (.seq (.reg [od 52 (fa 0 4),od 53
 (ld 1 52),od 54 (.bin .rem (tm 53) (ku 9)),od 55 (.conv .i64 (tm 54)),om 13 55] [kp [3,4,6,8,9,10,11,13] [6,51,70,79,86,94,105,126,142,156]]) (.seq (.seq (.reg [od 56 (fa 4 3),od 57 (ld 1 56)] [kp [4,6,8,9,
 10,11,13,57] [6,51,70,79,86,94,105,126,142,156]]) (.cond (tm 57) (.reg [od 58 (fa 0 4),od 59 (ld 1 58),od 60 (.bin .rem (tm 59) (ku 13)),od 61 (.conv .i64 (tm 60)),om 13 61] [kp [4,6,8,9,10,11,13] [6,51,70,
 79,86,94,105,126,142,156]]) .skip)) (.seq (.block 2 (.seq (.reg [om 63 13,od 64 (.bin .lss (tm 63) (ki 6)),om 62 64] [kp [4,6,8,9,10,11,13,62] [6,51,70,79,86,94,105,126,142,156]]) (.cond (tm 62) (.seq (.reg
 [om 65 13,od 66 (.conv .u8 (tm 65)),od 67 (.bin .add (ku 5) (tm 66)),om 68 8,om 69 9,od 70 (.bsl false 3 1 [(tm 68),(tm 69)]),od 71 (.build [(1,(tm 67)),(1,(tm 70)),(1,(ki 0)),(1,(ki 0))]),od 14 (.alloc false [(.int
 .u8 0),(.slice none 0 0),(.int .i64 0),(.int .i64 0)]),on (.store 4 (tm 14) (tm 71))] [kp [4,6,10,14] [6,14,70,79,86,94,105,126,142,156]]) (.seq (.seq (.reg [od 72 (fa 0 4),od 73 (ld 1 72),od 74 (.bin .geq (tm 73)
 (ku 128))] [kp [6,10,14,74] [6,14,70,79,86,94,105,126,142,156]]) (.cond (tm 74) (.reg [od 75 (fa 1 14),od 76 (ld 1 75),om 77 10,od 78 (.bsl true 3 1 [(tm 77)]),od 79 (.app false 3 1 (tm 76) (tm 78)),od 80 (fa 1
 14),on (.store 1 (tm 80) (tm 79))] [kp [6,14] [6,14,70,79,86,94,105,126,142,156]]) .skip)) (.seq (.reg [od 81 (lG 4 14),on (.store 4 (tm 6) (tm 81))] [kp [6] [6,70,79,86,94,105,126,142,156]]) .ret))) (.seq (.reg
 [om 83 13,od 84 (.bin .eql (tm 83) (ki 6)),om 82 84] [kp [4,6,8,9,10,11,13,82] [6,51,70,79,86,94,105,126,142,156]]) (.cond (tm 82) (.seq (.reg [om 85 8,od 86 (.bsl false 3 1 [(tm 85)]),od 87 (.build [(1,(ku
 4)),(1,(tm 86)),(1,(ki 0)),(1,(ki 0))]),on (.store 4 (tm 6) (tm 87))] [kp [6] [6,70,79,86,94,105,126,142,156]]) .ret) (.seq (.reg [om 89 13,od 90 (.bin .eql (tm 89) (ki 7)),om 88 90] [kp [4,6,8,9,10,11,13,
 88] [6,51,70,79,86,94,105,126,142,156]]) (.cond (tm 88) (.seq (.reg [om 91 8,om 92 9,om 93 10,od 94 (.bsl false 3 1 [(tm 91),(tm 92),(tm 93)]),od 95 (.build [(1,(ku 11)),(1,(tm 94)),(1,(ki 0)),(1,(ki 0))]),on
 (.store 4 (tm 6) (tm 95))] [kp [6] [6,70,79,86,94,105,126,142,156]]) .ret) (.seq (.reg [om 97 13,od 98 (.bin .eql (tm 97) (ki 9)),om 99 98,oF 100 (.mv (tm 13)) 99,oF 101 (.bin .eql (tm 100) (ki 10)) 99,od 102 (.pick
 (tm 99) kT (tm 101)),om 96 102] [kp [4,6,8,9,11,13,96] [6,51,70,79,86,94,105,126,142,156]]) (.cond (tm 96) (.seq (.reg [om 103 8,om 104 9,od 105 (.bsl false 3 1 [(tm 103),(tm 104)]),od 106 (.build [(1,(ku 12)),
 (1,(tm 105)),(1,(ki 0)),(1,(ki 0))]),on (.store 4 (tm 6) (tm 106))] [kp [6] [6,70,79,86,94,105,126,142,156]]) .ret) (.seq (.reg [om 108 13,od 109 (.bin .gtr (tm 108) (ki 10)),om 110 109,oT 111 (.mv (tm 11)) 110,oT
 112 (le 0 111) 110,oT 113 (.bin .gtr (tm 112) (ki 0)) 110,od 114 (.pick (tm 110) (tm 113) kF),om 107 114] [kp [4,6,8,11,107] [6,51,70,79,86,94,105,126,142,156]]) (.cond (tm 107) (.seq (.reg [od 115 (fa 1 4),od 116
 (.iadrA 3 1 (tm 115) (ki 0)),od 117 (ld 1 116),od 118 (.conv .i64 (tm 117)),om 119 11,od 120 (le 0 119),od 121 (.bin .rem (tm 118) (tm 120)),om 15 121] [kp [6,11,15] [6,51,70,79,86,94,105,126,142,156]]) (.seq (.reg
 [om 122 11,om 123 15,od 124 (ia 1 122 123),od 125 (ld 1 124),od 126 (.bsl false 3 1 [(tm 125)]),od 127 (.build [(1,(ku 13)),(1,(tm 126)),(1,(ki 0)),(1,(ki 0))]),od 16 (.alloc false [(.int .u8 0),(.slice none 0 0),
 (.int .i64 0),(.int .i64 0)]),on (.store 4 (tm 16) (tm 127))] [kp [6,11,15,16] [6,16,51,70,79,86,94,105,126,142,156]]) (.seq (.seq (.reg [om 128 11,od 129 (le 0 128),od 130 (.bin .gtr (tm 129) (ki 1))] [kp [6,11,
 15,16,130] [6,16,51,70,79,86,94,105,126,142,156]]) (.cond (tm 130) (.reg [od 131 (fa 1 16),od 132 (.ldR 16 1 false (tm 131)),om 133 11,om 134 15,od 135 (.bin .add (tm 134) (ki 1)),om 136 11,od 137 (le 0 136),od
 138 (.bin .rem (tm 135) (tm 137)),od 139 (ia 1 133 138),od 140 (.ldR 51 1 false (tm 139)),od 141 (.bsl true 3 1 [(tm 140)]),od 142 (.app false 3 1 (tm 132) (tm 141)),od 143 (fa 1 16),on (.stR 16 1 (tm 143) (tm 142))] [kp [6,
 16] [6,16,70,79,86,94,105,126,142,156]]) .skip)) (.seq (.reg [od 144 (lG 4 16),on (.store 4 (tm 6) (tm 144))] [kp [6] [6,70,79,86,94,105,126,142,156]]) .ret)))) (.seq (.reg [od 146 (fa 0 4),od 147 (ld 1 146),od
 148 (.bin .gtr (tm 147) (ku 240)),om 145 148] [kp [4,6,8,145] [6,70,79,86,94,105,126,142,156]]) (.cond (tm 145) (.seq (.reg [od 149 (fa 1 4),od 150 (.iadrA 3 1 (tm 149) (ki 0)),od 151 (ld 1 150),od 152 (.bin .rem (tm
 151) (ku 2)),od 153 (.bin .add (ku 1) (tm 152)),od 154 (.build [(1,(tm 153)),(1,kN),(1,(ki 0)),(1,(ki 0))]),on (.store 4 (tm 6) (tm 154))] [kp [6] [6,70,79,86,94,105,126,142,156]]) .ret) .skip))))))))))))) (.seq
 (.reg [om 155 8,od 156 (.bsl false 3 1 [(tm 155)]),od 157 (.build [(1,(ku 3)),(1,(tm 156)),(1,(ki 0)),(1,(ki 0))]),on (.store 4 (tm 6) (tm 157))] [kp [6] [6,70,79,86,94,105,126,142,156]]) .ret)))))))))
theorem Vp (h:∀ K:St→Prop,K=run P Γ O5 Q→run P Γ q1u (As K Q) s):run P Γ O5 Q s:=Ah h
def B6:List RV:=[.cell 6 4 true]
/- probecard/probecardlaw03.name (function 66) -/
abbrev q47:IC:=(.seq (.reg [od 2 (.mv (.const (sV [])))] [kp [0] []]) (.seq (.reg [om 3 0,od 4 (.bin .quo (tm 3) (ki 10)),od 5 (.bin .add (ki 48) (tm 4)),od 6 (.conv .u8 (tm 5)),om 7 0,od 8 (.bin .rem (tm 7) (ki 10)),od 9 (.bin .add (ki 48)
 (tm 8)),od 10 (.conv .u8 (tm 9)),od 11 (.bsl true 5 1 [(ku 110),(tm 6),(tm 10)]),od 12 (.bytesStr (tm 11)),om 2 12] [kp [2] []]) .ret))
def q48:List RV:=[.tmp 2]
end
end Go.Lg
namespace Go.Lg
open Go Go.Proofs
theorem q8o:Aw Tryz.prog 16 q46 178 1 H9=true:=by kernel_rfl
theorem q6m:Aw Tryz.prog 65 q1v 158 3 B6=true:=by kernel_rfl
theorem q8p:Aw Tryz.prog 66 q47 13 1 q48=true:=by kernel_rfl
end Go.Lg
namespace Go.Lg
open Go Go.Proofs
variable {Γ:Tables}
structure Gd where
 k:Int
 a:Int
 b:Int
 d:Int
def tGd (g:Gd):List T:=[tK g.k,tK g.a,tK g.b,tK g.d]
structure CD where
 i:Int
 f:Int
 d0:Int
 d1:Int
 bus:Bool
 mem:Bool
 p0:Int
 p1:Int
 p2:Int
 p3:Int
 gates:Sl Gd
 outs:Sl Int
def Ni (x:CD):List T:=[tK x.i,tK x.f,tK x.d0,tK x.d1,tB x.bus,tB x.mem,tK x.p0,tK x.p1,tK x.p2,tK x.p3,.sl (Ao tGd x.gates.l) x.gates.cap x.gates.nl,.sl (Af tK x.outs.l) x.outs.cap x.outs.nl]
def Byt (n:Int):Prop:=0≤n∧n≤255
def qB0 (g:Gd):Prop:=Byt g.k∧Byt g.a∧Byt g.b∧Byt g.d
def q0j (i:Nat):List UInt8:=[110,UInt8.ofNat (48+i / 10),UInt8.ofNat (48+i % 10)]
theorem qFQ (i:Nat) (hi:i<100):A6 Tryz.prog Γ 66 [tI i] (tS (q0j i)):=by
 refine Ab q8p rfl ?_
 have h1:(i:Int).tdiv 10=((i / 10:Nat):Int):=by rw [Int.tdiv_eq_ediv_of_nonneg (by omega)]; omega
 have h2:(i:Int).tmod 10=((i % 10:Nat):Int):=by rw [Int.tmod_eq_emod_of_nonneg (by omega)]; omega
 have h3:i / 10<10:=by omega
 have h4:i % 10<10:=by omega
 generalize hq:i / 10=q at *
 generalize hr:i % 10=r at *
 have e1:(48+(q:Int)).toNat=48+q:=by omega
 have e2:(48+(r:Int)).toNat=48+r:=by omega
 simp (disch:=omega) [q47,sV,h1,h2,A5,Bj,Nz]
 simp [q48,q0j,hq,hr,tS,sV,e1,e2]
def q5p (nodes:List Nd):List Int:=ofL [12] nodes 0
def qC5 (bus:Bool) (g:Gd) (a b d:Int) (t:List Int):Nd :=
 let kind:=if bus then g.k.tmod 13 else g.k.tmod 9
 if kind<6 then ⟨5+kind,if 128≤g.k then ⟨[a,b,d],none,none⟩ else ⟨[a,b],none,none⟩,0,0⟩
 else if kind=6 then ⟨4,⟨[a],none,none⟩,0,0⟩
 else if kind=7 then ⟨11,⟨[a,b,d],none,none⟩,0,0⟩
 else if kind=9∨kind=10 then ⟨12,⟨[a,b],none,none⟩,0,0⟩
 else if 10<kind∧0<t.length then
  let k:=g.a.tmod t.length
  ⟨13,if 1<t.length then ⟨[t.getD k.toNat 0,t.getD ((k+1).tmod t.length).toNat 0],none,none⟩ else ⟨[t.getD k.toNat 0],none,none⟩,0,0⟩
 else if 240<g.k then ⟨1+g.a.tmod 2,⟨[],some 0,some true⟩,0,0⟩
 else ⟨3,⟨[a],none,none⟩,0,0⟩
def q5q (bus:Bool) (g:Gd) (nodes:List Nd):Nd:=qC5 bus g (g.a.tmod nodes.length) (g.b.tmod nodes.length) (g.d.tmod nodes.length) (q5p nodes)
theorem qAF {Q:AX→St→Prop} (nodes:List Nd) (cap:Option Nat) (nl:Option Bool) (hl:nodes.length≤100) (a3 a4 a8 a9 a10:T) (r6:List T)
  (h0:Q (.exit 0) ⟨[(2,.t (.sl (Ao Bt nodes) cap nl)),(3,.t a3),(4,.t a4),(6,.lp 6 0 0),(7,.t (tI nodes.length)),(8,.t a8),(9,.t a9),(10,.t a10),(11,.ls 51 0 (q5p nodes).length none),(12,.t (tI nodes.length)),(39,.t (tB false))],[(6,.bx (r6.map AV.t)),(51,.sl 3 1 (Ax (q5p nodes)))]⟩):∀ (k i:Nat),k+i=nodes.length →
  run Tryz.prog Γ O5 Q ⟨[(2,.t (.sl (Ao Bt nodes) cap nl)),(3,.t a3),(4,.t a4),(6,.lp 6 0 0),(7,.t (tI nodes.length)),(8,.t a8),(9,.t a9),(10,.t a10),(11,.ls 51 0 (q5p (nodes.take i)).length none),(12,.t (tI i))],[(6,.bx (r6.map AV.t)),(51,.sl 3 1 (Ax (q5p (nodes.take i))))]⟩
 | 0,i,h=>by
  refine Vp fun K hK=>?_
  have h2:¬ i<nodes.length:=by omega
  have h3:i=nodes.length:=by omega
  simp [h2]
  subst h3
  simpa using h0
 | k+1,i,h=>by
  refine Vp fun K hK=>?_
  have h2:i<nodes.length:=by omega
  have ht:nodes.take (i+1)=nodes.take i++[nodes[i]]:=by rw [List.take_add_one]; simp [h2]
  have hlen:=q1W [12] (nodes.take i) 0
  have htl:(nodes.take i).length=i:=by simp; omega
  have hal:q5p (nodes.take (i+1))=if nodes[i].k=12 then q5p (nodes.take i)++[(i:Int)] else q5p (nodes.take i):=by
   simp only [q5p]
   rw [ht,q83,htl]
   simp only [ofL,Nat.zero_add,List.contains_cons,List.contains_nil,Bool.or_false,qIF,decide_eq_true_eq]
   split <;> simp
  have ih:=qAF nodes cap nl hl a3 a4 a8 a9 a10 r6 h0 k (i+1) (by omega)
  rw [hal] at ih
  simp only [q5p] at ih ⊢
  by_cases h5:nodes[i].k=12
  ·rw [if_pos h5] at ih
   have hw:D5 1 [[tI (i:Int)]]:=by intro e he; simp at he; subst he; rfl
   simp (disch:=omega) [h2,Aa,Dv Nd.d,Aq,Bt,B5,h5,A5,A0,A8,hw]
   rw [hK]
   simp at ih
   rw [Bz (f:=tI) (x:=(i:Int))]
   exact ⟨by omega,ih⟩
  ·rw [if_neg h5] at ih
   simp (disch:=omega) [h2,Aa,Dv Nd.d,Aq,Bt,B5,h5,A5]
   rw [hK]
   simpa using ih
theorem D1 {a:Int} {n:Nat} (h0:0≤a) (h1:0<n):0≤a.tmod n∧a.tmod n<n:=by
 rw [Int.tmod_eq_emod_of_nonneg h0]
 exact ⟨Int.emod_nonneg _ (by omega),Int.emod_lt_of_pos _ (by omega)⟩
theorem Cd {ty s:Nat} {es:List (List T)}:Ti (.sl ty s es)=∀ e ∈ es,∀ t ∈ e,Av t=true:=rfl
set_option maxHeartbeats 4000000 in
theorem qFR (x:CD) (g:Gd) (hg:qB0 g) (nodes:List Nd) (cap:Option Nat) (nl:Option Bool) (h0:1≤nodes.length) (h1:nodes.length≤100) :
  A6 Tryz.prog Γ 65 [.agg (Ni x),.agg (tGd g),.sl (Ao Bt nodes) cap nl] (.agg (Bt (q5q x.bus g nodes))):=by
 refine Ab q6m rfl ?_
 obtain ⟨⟨hk0,hk1⟩,⟨ha0,ha1⟩,⟨hb0,hb1⟩,⟨hd0,hd1⟩⟩:=hg
 have hn0:¬ (nodes.length:Int)=0:=by omega
 have hn1:(nodes.length:Int) ≠ 0:=by omega
 have hne:¬ nodes=[]:=fun e=>by subst e; simp at h0
 have hlp:=fun Q a3 a4 a8 a9 a10 r6 h0=>qAF (Γ:=Γ) (Q:=Q) nodes cap nl h1 a3 a4 a8 a9 a10 r6 h0 nodes.length 0 (by omega)
 have ht:=q1W [12] nodes 0
 simp only [q5p,List.take_zero,ofL,List.length_nil,By] at hlp
 simp (disch:=omega) [q1v,Ni,tGd,Aa,A5,hn0]
 refine ⟨hne,hlp _ _ _ _ _ _ [_,_,_,_] ?_⟩
 clear hlp
 unfold q5q
 simp only [q5p]
 generalize ofL [12] nodes 0=t at *
 have m13:0≤g.k.tmod 13∧g.k.tmod 13<13:=D1 (n:=13) hk0 (by omega)
 have m9:0≤g.k.tmod 9∧g.k.tmod 9<9:=D1 (n:=9) hk0 (by omega)
 have ma:0≤g.a.tmod 2∧g.a.tmod 2<2:=D1 (n:=2) ha0 (by omega)
 generalize g.a.tmod nodes.length=a
 generalize g.b.tmod nodes.length=b
 generalize g.d.tmod nodes.length=d
 unfold qC5
 cases x.bus
 ·generalize hkk:g.k.tmod 9=kk at *
  by_cases k1:kk<6
  ·by_cases k2:128≤g.k
   ·simp (disch:=omega) [hkk,k1,k2,A5,Bj,Bh,B6,Bt,B5,Af,D5,Aj,Cd]
   ·simp (disch:=omega) [hkk,k1,k2,A5,Bj,Bh,B6,Bt,B5,Af,D5,Aj,Cd]
  by_cases k3:kk=6
  ·simp (disch:=omega) [hkk,k1,k3,A5,Bj,Bh,B6,Bt,B5,Af,D5,Aj,Cd]
  by_cases k4:kk=7
  ·simp (disch:=omega) [hkk,k1,k4,A5,Bj,Bh,B6,Bt,B5,Af,D5,Aj,Cd]
  have k5:kk=8:=by omega
  by_cases k6:240<g.k
  ·simp (disch:=omega) [hkk,k5,k6,A5,Bj,Bh,B6,Bt,B5,Af,D5,Aj,Cd]
  ·simp (disch:=omega) [hkk,k5,k6,A5,Bj,Bh,B6,Bt,B5,Af,D5,Aj,Cd]
 ·generalize hkk:g.k.tmod 13=kk at *
  by_cases k1:kk<6
  ·by_cases k2:128≤g.k
   ·simp (disch:=omega) [hkk,k1,k2,A5,Bj,Bh,B6,Bt,B5,Af,D5,Aj,Cd]
   ·simp (disch:=omega) [hkk,k1,k2,A5,Bj,Bh,B6,Bt,B5,Af,D5,Aj,Cd]
  by_cases k3:kk=6
  ·simp (disch:=omega) [hkk,k1,k3,A5,Bj,Bh,B6,Bt,B5,Af,D5,Aj,Cd]
  by_cases k4:kk=7
  ·simp (disch:=omega) [hkk,k1,k4,A5,Bj,Bh,B6,Bt,B5,Af,D5,Aj,Cd]
  by_cases k8:kk=9
  ·simp (disch:=omega) [hkk,k8,A5,Bj,Bh,B6,Bt,B5,Af,D5,Aj,Cd]
  by_cases k9:kk=10
  ·simp (disch:=omega) [hkk,k9,A5,Bj,Bh,B6,Bt,B5,Af,D5,Aj,Cd]
  by_cases k10:10<kk∧0<t.length
  ·obtain ⟨k11,k10⟩:=k10
   have htn:¬ (t.length:Int)=0:=by omega
   have htne:¬ t=[]:=fun e=>by subst e; simp at k10
   have htp:(0:Int)<t.length:=by omega
   have mt:=D1 (n:=t.length) ha0 k10
   generalize hq:g.a.tmod t.length=q at *
   have mt2:=D1 (a:=q+1) (n:=t.length) (by omega) k10
   have hq0:q.toNat<t.length:=by omega
   generalize hq2:(q+1).tmod t.length=q2 at *
   have hq20:q2.toNat<t.length:=by omega
   have e1:=Bw (f:=tI) 0 hq0
   have e2:=Bw (f:=tI) 0 hq20
   by_cases k12:1<t.length
   ·have k12':(1:Int)<t.length:=by omega
    simp (disch:=omega) [hkk,k1,k3,k4,k8,k9,k11,k10,htp,htn,k12,k12',hq,hq2,e1,e2,hq0,hq20,mt.1,mt.2,mt2.1,mt2.2,htne,A0,A8,A5,Bj,Bh,Bt,B5,Aj,Cd,B6]
    simp [D5,Af]
   ·have k12':¬ (1:Int)<t.length:=by omega
    simp (disch:=omega) [hkk,k1,k3,k4,k8,k9,k11,k10,htp,htn,k12,k12',hq,hq2,e1,e2,hq0,hq20,mt.1,mt.2,mt2.1,mt2.2,htne,A0,A8,A5,Bj,Bh,Bt,B5,Aj,Cd,B6]
    simp [D5,Af]
  ·by_cases k11:10<kk
   ·have k10':t=[]:=List.eq_nil_of_length_eq_zero (by omega)
    subst k10'
    by_cases k6:240<g.k
    ·simp (disch:=omega) [hkk,k1,k3,k4,k8,k9,k11,k6,A5,Bj,Bh,B6,Bt,B5,Af,D5,Aj,Cd]
    ·simp (disch:=omega) [hkk,k1,k3,k4,k8,k9,k11,k6,A5,Bj,Bh,B6,Bt,B5,Af,D5,Aj,Cd]
   ·have k5:kk=8:=by omega
    by_cases k6:240<g.k
    ·simp (disch:=omega) [hkk,k5,k6,A5,Bj,Bh,B6,Bt,B5,Af,D5,Aj,Cd]
    ·simp (disch:=omega) [hkk,k5,k6,A5,Bj,Bh,B6,Bt,B5,Af,D5,Aj,Cd]
def q2N:T:=.sl [] (some 0) (some true)
def S8 (nodes:List Nd) (names:List (List UInt8)) (m:T) (outs:List Int):List (Nat × Bc) :=
 [(2,.bx [.t q2N,.t q2N,.t q2N,.t q2N]),(3,.bx [.ls 25 0 nodes.length none,.ls 144 0 names.length none,.t m,.ls 168 0 outs.length none]),(25,.sl 45 4 (Ao Bt nodes)),(144,.sl 9 1 (Af tS names)),(168,.sl 3 1 (Ax outs))]
def q7n:Nd:=⟨0,⟨[],some 0,some true⟩,0,0⟩
def q6n (l:Int):Nd:=⟨14,⟨[l],some 1,some false⟩,0,0⟩
def q4u (b:Int):Nd:=⟨15,⟨[],some 0,some true⟩,0,b⟩
theorem qAG {Q:AX→St→Prop} (x:CD) (hx:Byt x.i) (R:List Nd)
  (h0:Q (.exit 0) ⟨[(1,.t (.ip (Ni x) 0)),(2,.lp 2 0 0),(3,.lp 3 0 0),(4,.t (tI (x.i.tmod 4+1))),(18,.t (tB false))],S8 R [] q2N []⟩):∀ (k:Nat) (i:Int) (ns:List Nd),k+i=x.i.tmod 4+1→ns++List.replicate k q7n=R→ns.length+k≤100 →
  run Tryz.prog Γ Tj Q ⟨[(1,.t (.ip (Ni x) 0)),(2,.lp 2 0 0),(3,.lp 3 0 0),(4,.t (tI i))],S8 ns [] q2N []⟩
 | 0,i,ns,h,hR,hl=>by
  refine Z7 fun K hK=>?_
  have m4:0≤x.i.tmod 4∧x.i.tmod 4<4:=D1 (n:=4) hx.1 (by omega)
  have h2:¬ i≤x.i.tmod 4:=by omega
  have h3:i=x.i.tmod 4+1:=by omega
  simp only [List.replicate_zero,List.append_nil] at hR
  subst hR
  simp (disch:=omega) [h2,Ni,S8,A5,Bj]
  subst h3
  simpa [Ni,S8] using h0
 | k+1,i,ns,h,hR,hl=>by
  refine Z7 fun K hK=>?_
  have m4:0≤x.i.tmod 4∧x.i.tmod 4<4:=D1 (n:=4) hx.1 (by omega)
  have h2:i≤x.i.tmod 4:=by omega
  have ih:=qAG x hx R h0 k (i+1) (ns++[q7n]) (by omega) (by rw [← hR]; simp [List.replicate_succ]) (by simp; omega)
  have q:Ao Bt ns++[[tK 0,.sl [] (some 0) (some true),tI 0,tI 0]]=Ao Bt (ns++[q7n]):=q0c (f:=Bt) (x:=q7n)
  have hw4:D5 4 [[tK 0,.sl [] (some 0) (some true),tI 0,tI 0]]:=by intro e he; simp at he; subst he; rfl
  have ht:(Ao Bt ns).take ns.length=Ao Bt ns:=List.take_of_length_le (by simp [Ao])
  simp (disch:=omega) [h2,Ni,S8,A5,Bj,Aa,hw4,Aq,ht,q]
  rw [hK]
  simp [Ni,S8] at ih
  exact ⟨by omega,ih⟩
theorem qEO {Q:AX→St→Prop} (x:CD) (hx:Byt x.f) (first:Int) (R:List Nd)
  (h0:Q (.exit 2) ⟨[(1,.t (.ip (Ni x) 0)),(2,.lp 2 0 0),(3,.lp 3 0 0),(5,.t (tI first)),(6,.t (tI (x.f.tmod 3))),(7,.t (tI (x.f.tmod 3))),(36,.t (tB false))],S8 R [] q2N []⟩):∀ (k:Nat) (i:Int) (ns:List Nd),k+i=x.f.tmod 3→ns++List.replicate k (q6n 0)=R→ns.length+k≤100 →
  run Tryz.prog Γ Tm Q ⟨[(1,.t (.ip (Ni x) 0)),(2,.lp 2 0 0),(3,.lp 3 0 0),(5,.t (tI first)),(6,.t (tI (x.f.tmod 3))),(7,.t (tI i))],S8 ns [] q2N []⟩
 | 0,i,ns,h,hR,hl=>by
  refine Z8 fun K hK=>?_
  have m3:0≤x.f.tmod 3∧x.f.tmod 3<3:=D1 (n:=3) hx.1 (by omega)
  have h2:¬ i<x.f.tmod 3:=by omega
  have h3:i=x.f.tmod 3:=by omega
  simp only [List.replicate_zero,List.append_nil] at hR
  subst hR
  simp (disch:=omega) [h2,Ni,S8,A5,Bj]
  subst h3
  simpa [Ni,S8] using h0
 | k+1,i,ns,h,hR,hl=>by
  refine Z8 fun K hK=>?_
  have m3:0≤x.f.tmod 3∧x.f.tmod 3<3:=D1 (n:=3) hx.1 (by omega)
  have h2:i<x.f.tmod 3:=by omega
  have ih:=qEO x hx first R h0 k (i+1) (ns++[q6n 0]) (by omega) (by rw [← hR]; simp [List.replicate_succ]) (by simp; omega)
  have q:Ao Bt ns++[[tK 14,.sl [[tI 0]] (some 1) (some false),tI 0,tI 0]]=Ao Bt (ns++[q6n 0]):=q0c (f:=Bt) (x:=q6n 0)
  have hw4:D5 4 [[tK 14,.sl [[tI 0]] (some 1) (some false),tI 0,tI 0]]:=by intro e he; simp at he; subst he; rfl
  have ht:(Ao Bt ns).take ns.length=Ao Bt ns:=List.take_of_length_le (by simp [Ao])
  simp (disch:=omega) [h2,Ni,S8,A5,Bj,Aa,hw4,Aq,ht,q]
  rw [hK]
  simp [Ni,S8] at ih
  exact ⟨by omega,ih⟩
def S9 (bus:Bool):List Gd→List Nd→List Nd
 | [],ns=>ns
 | g::l,ns=>S9 bus l (ns++[q5q bus g ns])
theorem qIN {l:List Gd}:D5 4 (Ao tGd l):=q5f fun _=>rfl
def Gd.z:Gd:=⟨0,0,0,0⟩
theorem qC6 {Q:AX→St→Prop} (x:CD) (hx:∀ g ∈ x.gates.l,qB0 g) (first dffs:Int) (R:List Nd)
  (h0:Q (.exit 4) ⟨[(1,.t (.ip (Ni x) 0)),(2,.lp 2 0 0),(3,.lp 3 0 0),(5,.t (tI first)),(6,.t (tI dffs)),(8,.t (tI (min x.gates.l.length 8:Nat))),(63,.t (tB false))],S8 R [] q2N []⟩):∀ (k i:Nat) (ns:List Nd),k+i=min x.gates.l.length 8→S9 x.bus ((x.gates.l.take 8).drop i) ns=R→1≤ns.length→ns.length+k≤100 →
  run Tryz.prog Γ Tn Q ⟨[(1,.t (.ip (Ni x) 0)),(2,.lp 2 0 0),(3,.lp 3 0 0),(5,.t (tI first)),(6,.t (tI dffs)),(8,.t (tI i))],S8 ns [] q2N []⟩
 | 0,i,ns,h,hR,hl1,hl=>by
  refine Z9 fun K hK=>?_
  rw [List.drop_of_length_le (by simp; omega)] at hR
  simp only [S9] at hR
  subst hR
  have hi:i=min x.gates.l.length 8:=by omega
  by_cases h2:i<x.gates.l.length
  ·have h3:¬ (i:Int)<8:=by omega
   have h3':¬ i<8:=by omega
   simp (disch:=omega) [h2,h3,h3',Ni,S8,Aa]
   subst hi
   simpa [Ni,S8] using h0
  ·simp (disch:=omega) [h2,Ni,S8,Aa]
   subst hi
   simpa [Ni,S8] using h0
 | k+1,i,ns,h,hR,hl1,hl=>by
  refine Z9 fun K hK=>?_
  have h2:i<x.gates.l.length:=by omega
  have h3:i<8:=by omega
  have h3':(i:Int)<8:=by omega
  rw [List.drop_eq_getElem_cons (by simp; omega)] at hR
  simp only [S9,List.getElem_take] at hR
  have ih:=qC6 x hx first dffs R h0 k (i+1) (ns++[q5q x.bus x.gates.l[i] ns]) (by omega) hR (by simp) (by simp; omega)
  have hg:=qFR (Γ:=Γ) x x.gates.l[i] (hx _ (List.getElem_mem h2)) ns none none hl1 (by omega)
  generalize q5q x.bus x.gates.l[i] ns=gn at *
  have q:Ao Bt ns++[Bt gn]=Ao Bt (ns++[gn]):=q0c (f:=Bt) (x:=gn)
  have hw4:D5 4 [Bt gn]:=by intro e he; simp at he; subst he; rfl
  have ht:(Ao Bt ns).take ns.length=Ao Bt ns:=List.take_of_length_le (by simp [Ao])
  have hget:=Dv (f:=tGd) Gd.z h2
  simp (disch:=omega) [h2,h3,h3',Ni,S8,A5,Aa,hget,qIN,tGd]
  refine A3 hg (by simp [Aj,Ni,ht,tGd]) ?_
  simp [Bt] at q hw4
  simp (disch:=omega) [Bt,A5,Aa,hw4,Aq,ht,q]
  rw [hK]
  simp [Ni,S8] at ih
  exact ⟨rfl,by omega,ih⟩
def ddN (x:CD) (i:Nat):Int:=if i=0 then x.d0 else x.d1
def Vq (ns:List Nd) (j:Nat) (v:Int):List Nd:=ns.set j ⟨(ns.getD j Nd.d).k,⟨[v],some 1,some false⟩,(ns.getD j Nd.d).mem,(ns.getD j Nd.d).bit⟩
def q2p (x:CD) (first:Nat):Nat→Nat→List Nd→List Nd
 | 0,_,ns=>ns
 | k+1,i,ns=>q2p x first k (i+1) (Vq ns (first+i) ((ddN x i).tmod ns.length))
theorem P5 {ns:List Nd} {j:Nat} {v:Int}:(Vq ns j v).length=ns.length:=by simp [Vq]
theorem q6o {x:CD} {f:Nat}:∀ {k i:Nat} {ns:List Nd},(q2p x f k i ns).length=ns.length
 | 0,_,_=>rfl
 | k+1,i,ns=>by simp only [q2p]; rw [q6o,P5]
theorem qKO {ns:List Nd} {j:Nat} {v:Int} (hj:j<ns.length):(Ao Bt ns).set j (((Ao Bt ns)[j]?.getD []).take 1++T.sl [[tI v]] (some 1) (some false)::((Ao Bt ns)[j]?.getD []).drop 2)=Ao Bt (Vq ns j v):=by
 rw [Dv (f:=Bt) Nd.d hj]
 unfold Vq Ao
 rw [List.map_set]
 rfl
theorem qEP {Q:AX→St→Prop} (x:CD) (h0':Byt x.d0) (h1':Byt x.d1) (first dn n:Nat) (hdn:dn≤2) (hn:1≤n∧n≤100) (hf:first+dn≤n) (R:List Nd)
  (h0:Q (.exit 6) ⟨[(1,.t (.ip (Ni x) 0)),(2,.lp 2 0 0),(3,.lp 3 0 0),(5,.t (tI first)),(6,.t (tI dn)),(9,.t (tI n)),(10,.t (tI dn)),(85,.t (tB false))],S8 R [] q2N []⟩):∀ (k i:Nat) (ns:List Nd),k+i=dn→q2p x first k i ns=R→ns.length=n →
  run Tryz.prog Γ To Q ⟨[(1,.t (.ip (Ni x) 0)),(2,.lp 2 0 0),(3,.lp 3 0 0),(5,.t (tI first)),(6,.t (tI dn)),(9,.t (tI n)),(10,.t (tI i))],S8 ns [] q2N []⟩
 | 0,i,ns,h,hR,hl=>by
  refine Za fun K hK=>?_
  simp only [q2p] at hR
  subst hR
  have h2:¬ i<dn:=by omega
  have h3:i=dn:=by omega
  simp (disch:=omega) [h2,Ni,S8]
  subst h3
  simpa [Ni,S8] using h0
 | k+1,i,ns,h,hR,hl=>by
  refine Za fun K hK=>?_
  have h2:i<dn:=by omega
  simp only [q2p] at hR
  have ih:=qEP x h0' h1' first dn n hdn hn hf R h0 k (i+1) _ (by omega) hR (by rw [P5]; exact hl)
  have hi:i=0∨i=1:=by omega
  have hj:first+i<ns.length:=by omega
  have hn0:¬ (n:Int)=0:=by omega
  have hget:=Dv (f:=Bt) Nd.d hj
  obtain ⟨h01,h02⟩:=h0'
  obtain ⟨h11,h12⟩:=h1'
  have hs:=fun v=>qKO (v:=v) hj
  have hn':¬ n=0:=by omega
  have hfi:first+i<n:=by omega
  rcases hi with rfl | rfl
  ·have hdd:ddN x 0=x.d0:=rfl
   have h2':(0:Int)<dn:=by omega
   rw [hdd,hl] at ih
   simp only [Nat.add_zero] at hs hfi ih
   simp (disch:=omega) [h2,h2',Ni,S8,A5,Aa,Aq,hn0,hl,hs,hn',hfi]
   rw [hK]
   simp [Ni,S8,P5,hl] at ih
   exact ih
  ·have hdd:ddN x 1=x.d1:=rfl
   have h2':(1:Int)<dn:=by omega
   rw [hdd,hl] at ih
   have hfn:((first:Int)+1).toNat=first+1:=by omega
   have hfi':(first:Int)+1<n:=by omega
   simp (disch:=omega) [h2,h2',Ni,S8,A5,Aa,Aq,hn0,hl,hs,hn',hfi,hfn,hfi']
   rw [hK]
   simp [Ni,S8,P5,hl] at ih
   exact ⟨by omega,ih⟩
theorem qC7 {Q:AX→St→Prop} (x:CD) (n:Nat) (hn:n≤100) (ns:List Nd) (m:T) (R:List (List UInt8))
  (h0:Q (.exit 8) ⟨[(1,.t (.ip (Ni x) 0)),(2,.lp 2 0 0),(3,.lp 3 0 0),(9,.t (tI n)),(11,.t (tI n)),(136,.t (tB false))],S8 ns R m []⟩):∀ (k i:Nat) (nms:List (List UInt8)),k+i=n→nms++(List.range' i k).map q0j=R→nms.length=i →
  run Tryz.prog Γ Tq Q ⟨[(1,.t (.ip (Ni x) 0)),(2,.lp 2 0 0),(3,.lp 3 0 0),(9,.t (tI n)),(11,.t (tI i))],S8 ns nms m []⟩
 | 0,i,nms,h,hR,hl=>by
  refine Zb fun K hK=>?_
  simp only [List.range'_zero,List.map_nil,List.append_nil] at hR
  subst hR
  have h2:¬ i<n:=by omega
  have h3:i=n:=by omega
  simp (disch:=omega) [h2,Ni,S8]
  subst h3
  simpa [Ni,S8] using h0
 | k+1,i,nms,h,hR,hl=>by
  refine Zb fun K hK=>?_
  have h2:i<n:=by omega
  rw [List.range'_succ,List.map_cons] at hR
  have ih:=qC7 x n hn ns m R h0 k (i+1) (nms++[q0j i]) (by omega) (by rw [← hR]; simp) (by simp; omega)
  have e:=qFQ (Γ:=Γ) i (by omega)
  have q:Af tS nms++[[tS (q0j i)]]=Af tS (nms++[q0j i]):=Bz
  have ht:(Af tS nms).take i=Af tS nms:=List.take_of_length_le (by simp [Af]; omega)
  generalize q0j i=nm at *
  have hw:D5 1 [[tS nm]]:=by intro e he; simp at he; subst he; rfl
  simp (disch:=omega) [h2,Ni,S8,A5,hl]
  refine A3 e rfl ?_
  simp only [tS,sV] at q hw
  simp (disch:=omega) [tS,sV,A5,A0,hw,A8,ht,q,hl]
  rw [hK]
  simp [Ni,S8,hl] at ih
  exact ⟨by omega,ih⟩
theorem qEQ {Q:AX→St→Prop} (x:CD) (hx:∀ b ∈ x.outs.l,Byt b) (n:Nat) (hn:1≤n∧n≤100) (ns:List Nd) (nms:List (List UInt8)) (m:T) (R:List Int)
  (h0:Q (.exit 10) ⟨[(1,.t (.ip (Ni x) 0)),(2,.lp 2 0 0),(3,.lp 3 0 0),(9,.t (tI n)),(12,.t (tI (min x.outs.l.length 3:Nat))),(154,.t (tB false))],S8 ns nms m R⟩):∀ (k i:Nat) (os:List Int),k+i=min x.outs.l.length 3→os++((x.outs.l.take 3).drop i).map (fun b=>b.tmod n)=R→os.length=i →
  run Tryz.prog Γ Q6 Q ⟨[(1,.t (.ip (Ni x) 0)),(2,.lp 2 0 0),(3,.lp 3 0 0),(9,.t (tI n)),(12,.t (tI i))],S8 ns nms m os⟩
 | 0,i,os,h,hR,hl=>by
  refine Xu fun K hK=>?_
  rw [List.drop_of_length_le (by simp; omega)] at hR
  simp only [List.map_nil,List.append_nil] at hR
  subst hR
  have hi:i=min x.outs.l.length 3:=by omega
  by_cases h2:i<x.outs.l.length
  ·have h3:¬ (i:Int)<3:=by omega
   have h3':¬ i<3:=by omega
   simp (disch:=omega) [h2,h3,h3',Ni,S8,A0]
   subst hi
   simpa [Ni,S8] using h0
  ·simp (disch:=omega) [h2,Ni,S8,A0]
   subst hi
   simpa [Ni,S8] using h0
 | k+1,i,os,h,hR,hl=>by
  refine Xu fun K hK=>?_
  have h2:i<x.outs.l.length:=by omega
  have h3:i<3:=by omega
  have h3':(i:Int)<3:=by omega
  rw [List.drop_eq_getElem_cons (by simp; omega)] at hR
  simp only [List.map_cons,List.getElem_take] at hR
  have hb:=hx _ (List.getElem_mem h2)
  obtain ⟨hb0,hb1⟩:=hb
  have hget:=Bw (f:=tK) 0 h2
  have hg2:x.outs.l[i]?.getD 0=x.outs.l[i]:=by simp [h2]
  rw [hg2] at hget
  generalize x.outs.l[i]=b at *
  have hn0:¬ (n:Int)=0:=by omega
  have hn0':¬ n=0:=by omega
  have ih:=qEQ x hx n hn ns nms m R h0 k (i+1) (os++[b.tmod n]) (by omega) (by rw [← hR]; simp) (by simp; omega)
  have q:Af tI os++[[tI (b.tmod n)]]=Af tI (os++[b.tmod n]):=Bz
  have ht:(Af tI os).take i=Af tI os:=List.take_of_length_le (by simp [Af]; omega)
  have hw:D5 1 [[tI (b.tmod n)]]:=by intro e he; simp at he; subst he; rfl
  simp (disch:=omega) [h2,h3,h3',Ni,S8,A5,A0,A8,hget,hn0,hn0',hw,ht,q,hl]
  rw [hK]
  simp [Ni,S8,hl] at ih
  exact ⟨by omega,ih⟩
def Il (x:CD):List Nd:=List.replicate (x.i.tmod 4+1).toNat q7n
def G4 (x:CD):List Nd:=Il x++List.replicate (x.f.tmod 3).toNat (q6n 0)
def F2 (x:CD):List Nd:=if x.mem then G4 x++[q4u 0,q4u 1] else G4 x
def D9 (x:CD):List Nd:=S9 x.bus (x.gates.l.take 8) (F2 x)
def F3 (x:CD):List Nd:=q2p x (Il x).length (x.f.tmod 3).toNat 0 (D9 x)
def q9c (x:CD) (n:Int):List Mm:=if x.mem then [⟨⟨[x.p0.tmod n],some 1,some false⟩,⟨[x.p1.tmod n,x.p2.tmod n],some 2,some false⟩,x.p3.tmod n⟩] else []
def Q7 (x:CD):B7 :=
 ⟨⟨F3 x,none,none⟩,⟨(List.range' 0 (D9 x).length).map q0j,none,none⟩,⟨q9c x (D9 x).length,some (if x.mem then 1 else 0),some (!x.mem)⟩,⟨(x.outs.l.take 3).map (fun b=>b.tmod (D9 x).length)++[((D9 x).length:Int) - 1],none,none⟩⟩
structure q4v (x:CD):Prop where
 i:Byt x.i
 f:Byt x.f
 d0:Byt x.d0
 d1:Byt x.d1
 p0:Byt x.p0
 p1:Byt x.p1
 p2:Byt x.p2
 p3:Byt x.p3
 gates:∀ g ∈ x.gates.l,qB0 g
 outs:∀ b ∈ x.outs.l,Byt b
theorem q1Z {bus:Bool}:∀ {l:List Gd} {ns:List Nd},(S9 bus l ns).length=ns.length+l.length
 | [],ns=>rfl
 | g::l,ns=>by simp only [S9]; rw [q1Z]; simp; omega
set_option maxHeartbeats 4000000 in
theorem qIO (x:CD) (hx:q4v x):Ae Tryz.prog Γ 16 [.agg (Ni x)] (.agg (tC (Q7 x))):=by
 refine B1 q8o rfl ?_
 have m4:0≤x.i.tmod 4∧x.i.tmod 4<4:=D1 (n:=4) hx.i.1 (by omega)
 have m3:0≤x.f.tmod 3∧x.f.tmod 3<3:=D1 (n:=3) hx.f.1 (by omega)
 have l1:(Il x).length=(x.i.tmod 4+1).toNat:=by simp [Il]
 have l2:(G4 x).length=(x.i.tmod 4+1).toNat+(x.f.tmod 3).toNat:=by simp [G4,Il]
 have l3:(G4 x).length≤(F2 x).length∧(F2 x).length≤8:=by unfold F2; split <;> simp <;> omega
 have l4:(D9 x).length=(F2 x).length+min 8 x.gates.l.length:=by unfold D9; rw [q1Z]; simp
 have l5:(F3 x).length=(D9 x).length:=q6o
 have e1:=fun Q h0=>qAG (Γ:=Γ) (Q:=Q) x hx.i (Il x) h0 (x.i.tmod 4+1).toNat 0 [] (by omega) rfl (by simp; omega)
 have e2:=fun Q h0=>qEO (Γ:=Γ) (Q:=Q) x hx.f (Il x).length (G4 x) h0 (x.f.tmod 3).toNat 0 (Il x) (by omega) rfl (by omega)
 have e3:=fun Q h0=>qC6 (Γ:=Γ) (Q:=Q) x hx.gates (Il x).length (x.f.tmod 3) (D9 x) h0 (min x.gates.l.length 8) 0 (F2 x) (by omega) rfl (by omega) (by omega)
 have e4:=fun Q h0=>qEP (Γ:=Γ) (Q:=Q) x hx.d0 hx.d1 (Il x).length (x.f.tmod 3).toNat (D9 x).length (by omega) (by omega) (by omega) (F3 x) h0 (x.f.tmod 3).toNat 0 (D9 x) (by omega) rfl rfl
 have e5:=fun Q m h0=>qC7 (Γ:=Γ) (Q:=Q) x (D9 x).length (by omega) (F3 x) m _ h0 (D9 x).length 0 [] (by omega) rfl rfl
 have e6:=fun Q nms m h0=>qEQ (Γ:=Γ) (Q:=Q) x hx.outs (D9 x).length (by omega) (F3 x) nms m _ h0 (min x.outs.l.length 3) 0 [] (by omega) rfl rfl
 have hc:((x.f.tmod 3).toNat:Int)=x.f.tmod 3:=by omega
 rw [hc] at e4
 have hk1:=fun {s:Nat} {e:List (List T)} {n:Nat} (h:e.length≤n)=>List.take_of_length_le h
 have a33:∀ {os:List Int},Af tI os++[[tI (((D9 x).length:Int) - 1)]]=Af tI (os++[((D9 x).length:Int) - 1]):=Bz
 have hw1:D5 1 [[tI (((D9 x).length:Int) - 1)]]:=by intro e he; simp at he; subst he; rfl
 have hol:((x.outs.l.take 3).map (fun b=>b.tmod ((D9 x).length:Int))).length=min 3 x.outs.l.length:=by simp
 have hnl:((List.range' 0 (D9 x).length).map q0j).length=(D9 x).length:=by simp
 simp only [List.nil_append,List.drop_zero] at e5 e6
 generalize hN:D9 x=N4 at *
 generalize hO:(x.outs.l.take 3).map (fun b=>b.tmod (N4.length:Int))=O at *
 generalize hNm:(List.range' 0 N4.length).map q0j=Nm at *
 simp (config:={ maxSteps:=2000000 }) [q46,Ni]
 refine e1 _ ?_
 simp (config:={ maxSteps:=2000000 }) (disch:=omega) [Ni,S8,A5,Bj,Aa]
 refine e2 _ ?_
 cases hm:x.mem
 ·have h3:F2 x=G4 x:=by simp [F2,hm]
  rw [h3] at e3 l3 l4
  simp only [Ni,S8,hm] at e3 e4 e5 e6
  simp (config:={ maxSteps:=2000000 }) (disch:=omega) [Ni,S8,A5,Bj,Aa,A0,q2f,Aq,A8,hm]
  refine e3 _ ?_
  simp (config:={ maxSteps:=2000000 }) (disch:=omega) [Ni,S8,A5,Bj,Aa,A0,q2f,Aq,A8,hm]
  refine e4 _ ?_
  simp (config:={ maxSteps:=2000000 }) (disch:=omega) [Ni,S8,A5,Bj,Aa,A0,q2f,Aq,A8,hm]
  refine e5 _ _ ?_
  simp (config:={ maxSteps:=2000000 }) (disch:=omega) [Ni,S8,A5,Bj,Aa,A0,q2f,Aq,A8,hm]
  refine e6 _ _ _ ?_
  have ht:(Af tI O).take O.length=Af tI O:=List.take_of_length_le (by simp [Af])
  simp (config:={ maxSteps:=2000000 }) (disch:=omega) [Ni,S8,A5,Bj,Aa,A0,q2f,Aq,A8,hm,ht,hw1,a33,H9,Aj,q2N]
  have ht2:(Af tI (O++[(N4.length:Int) - 1])).take (O.length+1)=Af tI (O++[(N4.length:Int) - 1]):=List.take_of_length_le (by simp [Af])
  refine ⟨by omega,?_⟩
  rw [ht2]
  simp [tC,Q7,q9c,hm,A7,A9,Ac,B5,hN,hO,hNm,Ao]
 ·have h3:F2 x=G4 x++[q4u 0,q4u 1]:=by simp [F2,hm]
  have l3':(F2 x).length=(G4 x).length+2:=by rw [h3]; simp
  have q:Ao Bt (G4 x)++[[tK 15,.sl [] (some 0) (some true),tI 0,tI 0],[tK 15,.sl [] (some 0) (some true),tI 0,tI 1]]=Ao Bt (F2 x):=by rw [h3]; simp [Ao,q4u,Bt,B5,Af]
  have hw4:D5 4 [[tK 15,.sl [] (some 0) (some true),tI 0,tI 0],[tK 15,.sl [] (some 0) (some true),tI 0,tI 1]]:=by intro e he; simp at he; rcases he with rfl | rfl <;> rfl
  have ht0:(Ao Bt (G4 x)).take (G4 x).length=Ao Bt (G4 x):=List.take_of_length_le (by simp [Ao])
  have ht:(Af tI O).take O.length=Af tI O:=List.take_of_length_le (by simp [Af])
  have hn0:¬ (N4.length:Int)=0:=by omega
  have hn0':¬ N4=[]:=fun e=>by rw [e] at l4; simp at l4; omega
  obtain ⟨b00,b01⟩:=hx.p0
  obtain ⟨b10,b11⟩:=hx.p1
  obtain ⟨b20,b21⟩:=hx.p2
  obtain ⟨b30,b31⟩:=hx.p3
  simp only [Ni,S8,hm] at e3 e4 e5 e6
  simp (config:={ maxSteps:=2000000 }) (disch:=omega) [Ni,S8,A5,Bj,Aa,A0,Aq,A8,hm,ht,ht0,hw1,hw4,q,hn0,hn0',a33,H9,Aj,q2N]
  refine ⟨by omega,?_⟩
  rw [← l3']
  refine e3 _ ?_
  simp (config:={ maxSteps:=2000000 }) (disch:=omega) [Ni,S8,A5,Bj,Aa,A0,Aq,A8,hm,ht,ht0,hw1,hw4,q,hn0,hn0',a33,H9,Aj,q2N]
  refine e4 _ ?_
  simp (config:={ maxSteps:=2000000 }) (disch:=omega) [Ni,S8,A5,Bj,Aa,A0,Aq,A8,hm,ht,ht0,hw1,hw4,q,hn0,hn0',a33,H9,Aj,q2N]
  refine e5 _ _ ?_
  simp (config:={ maxSteps:=2000000 }) (disch:=omega) [Ni,S8,A5,Bj,Aa,A0,Aq,A8,hm,ht,ht0,hw1,hw4,q,hn0,hn0',a33,H9,Aj,q2N]
  refine e6 _ _ _ ?_
  simp (config:={ maxSteps:=2000000 }) (disch:=omega) [Ni,S8,A5,Bj,Aa,A0,Aq,A8,hm,ht,ht0,hw1,hw4,q,hn0,hn0',a33,H9,Aj,q2N]
  have ht2:(Af tI (O++[(N4.length:Int) - 1])).take (O.length+1)=Af tI (O++[(N4.length:Int) - 1]):=List.take_of_length_le (by simp [Af])
  refine ⟨by omega,?_⟩
  rw [ht2]
  simp [tC,Q7,q9c,hm,A7,A9,Ac,B5,hN,hO,hNm,Ao,tMm,Af]
def q4w (x:Nd):Prop:=(0≤x.k∧x.k≤255)∧x.inn.l.length≤1000000000
theorem qGh {bus:Bool} {g:Gd} {a b d:Int} {t:List Int} (hg:qB0 g):q4w (qC5 bus g a b d t):=by
 have m13:0≤g.k.tmod 13∧g.k.tmod 13<13:=D1 (n:=13) hg.1.1 (by omega)
 have m9:0≤g.k.tmod 9∧g.k.tmod 9<9:=D1 (n:=9) hg.1.1 (by omega)
 have ma:0≤g.a.tmod 2∧g.a.tmod 2<2:=D1 (n:=2) hg.2.1.1 (by omega)
 have hk:0≤(if bus then g.k.tmod 13 else g.k.tmod 9)∧(if bus then g.k.tmod 13 else g.k.tmod 9)<13:=by cases bus <;> simp <;> omega
 unfold qC5
 simp only
 generalize (if bus=true then g.k.tmod 13 else g.k.tmod 9)=kk at *
 unfold q4w
 split
 ·refine ⟨⟨by simp; omega,by simp; omega⟩,?_⟩
  simp only; split <;> simp
 split
 ·simp
 split
 ·simp
 split
 ·simp
 split
 ·simp only; split <;> simp
 split
 ·simp; omega
 ·simp
theorem qAH {bus:Bool}:∀ {l:List Gd} {ns:List Nd},(∀ g ∈ l,qB0 g)→(∀ x ∈ ns,q4w x)→∀ x ∈ S9 bus l ns,q4w x
 | [],ns,_,h=>h
 | g::l,ns,hg,h=>by
  simp only [S9]
  refine qAH (fun y hy=>hg y (List.mem_cons_of_mem _ hy)) fun y hy=>?_
  rcases List.mem_append.1 hy with hy | hy
  ·exact h y hy
  ·simp at hy; subst hy; exact qGh (hg g List.mem_cons_self)
theorem qGi {ns:List Nd} {j:Nat} {v:Int} (h:∀ x ∈ ns,q4w x):∀ x ∈ Vq ns j v,q4w x:=by
 intro x hx
 unfold Vq at hx
 rcases List.mem_or_eq_of_mem_set hx with hx | rfl
 ·exact h x hx
 ·refine ⟨?_,by simp⟩
  simp only [List.getD_eq_getElem?_getD]
  by_cases hj:j<ns.length
  ·simp only [List.getElem?_eq_getElem hj,Option.getD_some]
   exact (h _ (List.getElem_mem hj)).1
  ·simp [List.getElem?_eq_none (Nat.le_of_not_lt hj),Nd.d]
theorem qC8 {c:CD} {f:Nat}:∀ {k i:Nat} {ns:List Nd},(∀ x ∈ ns,q4w x)→∀ x ∈ q2p c f k i ns,q4w x
 | 0,_,_,h=>h
 | k+1,i,ns,h=>by simp only [q2p]; exact qC8 (qGi h)
theorem qFS {x:CD} (hx:q4v x):∀ n ∈ F3 x,q4w n:=by
 have h1:∀ n ∈ Il x,q4w n:=fun n hn=>by rw [(List.mem_replicate.1 hn).2]; simp [q4w,q7n]
 have h2:∀ n ∈ G4 x,q4w n:=fun n hn=>by
  rcases List.mem_append.1 hn with hn | hn
  ·exact h1 n hn
  ·rw [(List.mem_replicate.1 hn).2]; simp [q4w,q6n]
 have h3:∀ n ∈ F2 x,q4w n:=by
  unfold F2
  split
  ·intro n hn
   rcases List.mem_append.1 hn with hn | hn
   ·exact h2 n hn
   ·simp at hn; rcases hn with rfl | rfl <;> simp [q4w,q4u]
  ·exact h2
 exact qC8 (qAH (fun g hg=>hx.gates g (List.mem_of_mem_take hg)) h3)
theorem q4x {x:CD} (hx:q4v x):1≤(D9 x).length∧(D9 x).length≤16:=by
 have m4:0≤x.i.tmod 4∧x.i.tmod 4<4:=D1 (n:=4) hx.i.1 (by omega)
 have m3:0≤x.f.tmod 3∧x.f.tmod 3<3:=D1 (n:=3) hx.f.1 (by omega)
 have l2:(G4 x).length=(x.i.tmod 4+1).toNat+(x.f.tmod 3).toNat:=by simp [G4,Il]
 have l3:(G4 x).length≤(F2 x).length∧(F2 x).length≤8:=by unfold F2; split <;> simp <;> omega
 have l4:(D9 x).length=(F2 x).length+min 8 x.gates.l.length:=by unfold D9; rw [q1Z]; simp
 omega
theorem q4y {x:CD} (hx:q4v x):(F3 x).length=(D9 x).length:=q6o
theorem qGj {x:CD} (hx:q4v x):COk (Q7 x):=by
 have l:=q4x hx
 have l5:=q4y hx
 have hn:=qFS hx
 refine ⟨⟨?_,?_,?_,?_,fun n h=>(hn n h).1,fun n h=>(hn n h).2,?_⟩,?_⟩
 ·simp only [Q7]; omega
 ·simp [Q7]; omega
 ·simp only [Q7,q9c]; split <;> simp
 ·simp [Q7]; omega
 ·intro m hm
  simp only [Q7,q9c] at hm
  split at hm
  ·simp at hm; subst hm; simp
  ·cases hm
 ·intro s hs b hb
  simp only [Q7] at hs
  obtain ⟨i,hi,rfl⟩:=List.mem_map.1 hs
  have:=(List.mem_range'_1.1 hi).2
  have h1:i / 10<10:=by omega
  have h2:i % 10<10:=by omega
  have key:∀ q:Nat,q<10→UInt8.ofNat (48+q)<128:=by decide
  simp only [q0j,List.mem_cons,List.not_mem_nil,or_false] at hb
  rcases hb with rfl | rfl | rfl
  ·decide
  ·exact key _ h1
  ·exact key _ h2
end Go.Lg
namespace Go.Lg
open Go Go.Proofs Go.Proofs.YtnhgdofpomioeaaGreatDoor
def G0 (g:Nat):Option (List T):=if g=0 then some qFH else none
theorem qNI:GOk G0:=rfl
theorem qME:Tryz.prog.globalNamed "probecard/logic.fanins" = some 0:=by kernel_rfl
theorem qKP:(Tryz.prog.globals[0]?).map (·.type)=some 251:=by kernel_rfl
theorem qKQ:Tryz.prog.cellsOf 3=1:=by kernel_rfl
theorem qGk:Tryz.prog.cellsOf 4=1:=by kernel_rfl
theorem q4z:Tryz.prog.cellsOf 5=1:=by kernel_rfl
theorem qER:Tryz.prog.cellsOf 22=2:=by kernel_rfl
theorem qES:Tryz.prog.cellsOf 23=4:=by kernel_rfl
theorem qIP:Tryz.prog.cellsOf 24=1:=by kernel_rfl
theorem qIQ:Tryz.prog.cellsOf 25=1:=by kernel_rfl
theorem qIR:Tryz.prog.cellsOf 27=12:=by kernel_rfl
theorem qC9:Tryz.prog.cellsOf 112=3:=by kernel_rfl
theorem qCA:Tryz.prog.cellsOf 114=4:=by kernel_rfl
theorem qGl:Tryz.prog.cellsOf 250=2:=by kernel_rfl
theorem qGm:Tryz.prog.cellsOf 251=32:=by kernel_rfl
theorem qFT {W:World} (h:laidMet Tryz.prog [("probecard/logic.fanins",Rows.laid_probecard_logic_fanins)] W):∀ j,j<32→W.cell? ⟨0,j,none⟩=(q8b.flatMap fun x=>[Value.int .i64 x.1,Value.int .i64 x.2])[j]? := by
 obtain ⟨ps,⟨g',t',cs,fuel,p,q,hg',ht',hvar,hd,_,_⟩,_⟩:=h
 obtain rfl:=Option.some.inj (qME.symm.trans hg')
 obtain rfl:=Option.some.inj (qKP.symm.trans ht')
 have hc:=qDM (l:=q8b) Tryz.underlying251 Tryz.underlying250 Tryz.underlying3 qKQ qGl qGm hd
 intro j hj
 have:=World.var?_cell qME hvar j
 rw [this,← hc]
 simp
theorem qKR {W:World} (h:laidMet Tryz.prog [("probecard/logic.fanins",Rows.laid_probecard_logic_fanins)] W):Gl G0 W (Old W):=by
 have hc:=qFT h
 intro g cs hg
 unfold G0 at hg
 split at hg
 case isFalse=>cases hg
 rename_i h0; subst h0
 simp only [Option.some.injEq] at hg
 subst hg
 have hlen:(q8b.flatMap fun x=>[Value.int .i64 x.1,Value.int .i64 x.2]).length=32:=rfl
 have hfc:qFH=(q8b.flatMap fun x=>[Value.int .i64 x.1,Value.int .i64 x.2]).map T.v:=rfl
 have hfl:qFH.length=32:=rfl
 refine .ip qFH 0 0 0 (fun j=>(q8b.flatMap fun x=>[Value.int .i64 x.1,Value.int .i64 x.2])[j]?.getD .nilFunc) ?_ ?_ ?_ ?_
 ·intro j hj
  rw [Nat.zero_add,hc j (by omega)]
  rw [List.getElem?_eq_getElem (by omega)]; rfl
 ·intro j t ht
  rw [hfc,List.getElem?_map,Option.map_eq_some_iff] at ht
  obtain ⟨v,hv,rfl⟩:=ht
  simp only [hv,Option.getD_some]
  exact .v v
 ·intro j t ht
  rw [hfc,List.getElem?_map,Option.map_eq_some_iff] at ht
  obtain ⟨v,hv,rfl⟩:=ht
  have hm:=List.mem_of_getElem? hv
  obtain ⟨x,_,hx⟩:=List.mem_flatMap.1 hm
  simp at hx
  rcases hx with rfl | rfl <;> rfl
 ·have:=hc 0 (by omega)
  rw [List.getElem?_eq_getElem (by omega)] at this
  exact qEK this
theorem qKS {n:Int} (h:(Lit.int .u8 n).wf=true):Byt n:=by
 simp [Lit.wf,IntKind.min,IntKind.max,IntKind.signed,IntKind.bits] at h
 exact ⟨h.1,by omega⟩
theorem qDW:Rd Tryz.prog 5 fun ts=>∃ n,ts=[tK n]∧Byt n:=(qKJ Tryz.underlying5).mono fun ts ⟨n,h,hw⟩=>⟨n,h,qKS hw⟩
theorem qB1 {α:Type} {f:α→List T} {Q:α→Prop}:∀ {es:List (List T)},(∀ x ∈ es,∃ a,x=f a∧Q a)→∃ l:List α,es=l.map f∧∀ a ∈ l,Q a
 | [],_=>⟨[],rfl,by simp⟩
 | e::es,h=>by
  obtain ⟨a,ha,hq⟩:=h e List.mem_cons_self
  obtain ⟨l,hl,hql⟩:=qB1 fun x hx=>h x (List.mem_cons_of_mem _ hx)
  exact ⟨a::l,by rw [ha,hl]; rfl,fun b hb=>by rcases List.mem_cons.1 hb with rfl | hb; exact hq; exact hql b hb⟩
theorem qN8:Rd Tryz.prog 114 fun ts=>∃ g,ts=tGd g∧qB0 g:=by
 refine (qA6 (l:=[(1,fun ts=>∃ n,ts=[tK n]∧Byt n),(3,q7I (List.replicate 3 (1,fun ts=>∃ n,ts=[tK n]∧Byt n)))]) Tryz.underlying114 qCA (.cons rfl q4z qDW (.cons rfl qC9 (q8a Tryz.underlying112 q4z qC9 qDW) (.nil _)))).mono fun ts h=>?_
 obtain ⟨_,_,rfl,⟨k,rfl,hk⟩,_,_,rfl,⟨_,_,rfl,⟨a,rfl,ha⟩,_,_,rfl,⟨b,rfl,hb⟩,_,_,rfl,⟨d,rfl,hd⟩,rfl⟩,rfl⟩:=h
 exact ⟨⟨k,a,b,d⟩,rfl,hk,ha,hb,hd⟩
theorem qN9:Rd Tryz.prog 27 fun ts=>∃ x,ts=Ni x∧q4v x:=by
 refine (qA6 (l:=[(1,fun ts=>∃ n,ts=[tK n]∧Byt n),(1,fun ts=>∃ n,ts=[tK n]∧Byt n),(2,q7I (List.replicate 2 (1,fun ts=>∃ n,ts=[tK n]∧Byt n))),(1,fun ts=>∃ b,ts=[tB b]),(1,fun ts=>∃ b,ts=[tB b]),(4,q7I (List.replicate 4 (1,fun ts=>∃ n,ts=[tK n]∧Byt n))),(1,_),(1,_)]) Tryz.underlying27 qIR
  (.cons rfl q4z qDW (.cons rfl q4z qDW (.cons rfl qER (q8a Tryz.underlying22 q4z qER qDW) (.cons rfl qGk (qEL Tryz.underlying4) (.cons rfl qGk (qEL Tryz.underlying4) (.cons rfl qES (q8a Tryz.underlying23 q4z qES qDW)
   (.cons rfl qIP (qBw Tryz.underlying24 qCA (by decide) qN8) (.cons rfl qIQ (qBw Tryz.underlying25 q4z (by decide) qDW) (.nil _)))))))))).mono fun ts h=>?_
 obtain ⟨_,_,rfl,⟨i,rfl,hi⟩,_,_,rfl,⟨f,rfl,hf⟩,_,_,rfl,⟨_,_,rfl,⟨d0,rfl,hd0⟩,_,_,rfl,⟨d1,rfl,hd1⟩,rfl⟩,_,_,rfl,⟨bus,rfl⟩,_,_,rfl,⟨mem,rfl⟩,_,_,rfl,
  ⟨_,_,rfl,⟨p0,rfl,h0⟩,_,_,rfl,⟨p1,rfl,h1⟩,_,_,rfl,⟨p2,rfl,h2⟩,_,_,rfl,⟨p3,rfl,h3⟩,rfl⟩,_,_,rfl,⟨es,cap,nl,rfl,_,hes⟩,_,_,rfl,⟨os,cap2,nl2,rfl,_,hos⟩,rfl⟩:=h
 obtain ⟨gs,rfl,hgs⟩:=qB1 (f:=tGd) (Q:=qB0) fun x hx=>(hes x hx).1
 obtain ⟨ol,rfl,hol⟩:=qB1 (f:=fun n=>[tK n]) (Q:=Byt) fun x hx=>(hos x hx).1
 exact ⟨⟨i,f,d0,d1,bus,mem,p0,p1,p2,p3,⟨gs,cap,nl⟩,⟨ol,cap2,nl2⟩⟩,rfl,⟨hi,hf,hd0,hd1,h0,h1,h2,h3,hgs,hol⟩⟩
end Go.Lg
namespace Go.Proofs.YtnhgdofpomioeaaGreatDoor
open Go Go.Lg Go.ChangeShapes Go.WideShapes Go.ChangeAt Go.RowKit
theorem own:ownKnob Tryz.prog.godebug=none:=by kernel_rfl
theorem qMx:laidOutB Tryz.prog=true:=by kernel_rfl
theorem qMy {H:Type} {enc:TypeId × Value→H} {W:World} {base:Nat} {v:Value} {d:DataW H} {p:List MemPlace} (hval:Value.okWide Tryz.prog W .any base 27 v) (h:DataW.Trod enc Tryz.prog W 0 (fun _=>true) true 27 v d p):∃ x,q4v x∧TR W (Old W) (.agg (Ni x)) v:=by
 simp only [Value.okWide,Tryz.underlying27] at hval
 obtain ⟨cs,rfl,_,_⟩:=hval
 obtain ⟨fuel,hf⟩:=h
 obtain ⟨ts,⟨x,rfl,hx⟩,htr,ho⟩:=qN9 H enc W true fuel _ _ hf
 exact ⟨x,hx,qKK htr ho⟩
noncomputable def qAI (os:Os):World :=
 { World.holding Tryz.prog os ⟨#[],#[],[]⟩ with heap:=(World.holding Tryz.prog os ⟨#[],#[],[]⟩).heap.modify 0 fun
   | .cells _ t frozen=>.cells (q8b.flatMap fun x=>[Value.int .i64 x.1,Value.int .i64 x.2]).toArray t frozen
   | o=>o }
def c0:Value:=.agg #[.int .u8 0,.int .u8 0,.int .u8 0,.int .u8 0,.bool false,.bool false,.int .u8 0,.int .u8 0,.int .u8 0,.int .u8 0,.slice none 0 0,.slice none 0 0]
def d0 {H:Type}:DataW H:=.agg [.lit (.int .u8 0),.lit (.int .u8 0),.agg [.lit (.int .u8 0),.lit (.int .u8 0)],.lit (.bool false),.lit (.bool false),.agg [.lit (.int .u8 0),.lit (.int .u8 0),.lit (.int .u8 0),.lit (.int .u8 0)],.nil,.nil]
theorem q1a {P:Program} {x:String × DataW Unit} {l:List (String × DataW Unit)} {w:World} (h:laidMet P (x::l) w):laidMet P l w:=by
 obtain ⟨ps,hv,hn,hm⟩:=h
 obtain ⟨n,d⟩:=x
 obtain ⟨g,t,cs,fuel,p,q,h1,h2,h3,h4,h5,rfl⟩:=hv
 exact ⟨q,h5,(List.nodup_append.1 hn).2.1,fun b off hq=>hm b off (List.mem_append_right _ hq)⟩
theorem qNA {W:World} (h:laidMetH Tryz.prog [("math/bits.deBruijn32tab",Rows.laid_math_bits_deBruijn32tab),("math/bits.deBruijn64tab",Rows.laid_math_bits_deBruijn64tab),("internal/strconv.uint64pow10",Rows.laid_internal_strconv_uint64pow10),("probecard/logic.fanins",Rows.laid_probecard_logic_fanins)] W):Gl G0 W (Old W):=by
 rw [MakeChecks.laidMetH_plain _ _ _ (by kernel_rfl)] at h
 exact qKR (q1a (q1a (q1a h)))
noncomputable def qKT (os:Os):World :=
 { qAI os with heap:=(((qAI os).heap.modify 1 fun
   | .cells _ t frozen=>.cells ([.int .u64 1,.int .u64 10,.int .u64 100,.int .u64 1000,.int .u64 10000,.int .u64 100000,.int .u64 1000000,.int .u64 10000000,.int .u64 100000000,.int .u64 1000000000,.int .u64 10000000000,.int .u64 100000000000,.int .u64 1000000000000,.int .u64 10000000000000,.int .u64 100000000000000,.int .u64 1000000000000000,.int .u64 10000000000000000,.int .u64 100000000000000000,.int .u64 1000000000000000000,.int .u64 10000000000000000000]:List Value).toArray t frozen
   | o=>o).modify 2 fun
   | .cells _ t frozen=>.cells ([.int .u8 0,.int .u8 1,.int .u8 28,.int .u8 2,.int .u8 29,.int .u8 14,.int .u8 24,.int .u8 3,.int .u8 30,.int .u8 22,.int .u8 20,.int .u8 15,.int .u8 25,.int .u8 17,.int .u8 4,.int .u8 8,.int .u8 31,.int .u8 27,.int .u8 13,.int .u8 23,.int .u8 21,.int .u8 19,.int .u8 16,.int .u8 7,.int .u8 26,.int .u8 12,.int .u8 18,.int .u8 6,.int .u8 11,.int .u8 5,.int .u8 10,.int .u8 9]:List Value).toArray t frozen
   | o=>o).modify 3 fun
   | .cells _ t frozen=>.cells ([.int .u8 0,.int .u8 1,.int .u8 56,.int .u8 2,.int .u8 57,.int .u8 49,.int .u8 28,.int .u8 3,.int .u8 61,.int .u8 58,.int .u8 42,.int .u8 50,.int .u8 38,.int .u8 29,.int .u8 17,.int .u8 4,.int .u8 62,.int .u8 47,.int .u8 59,.int .u8 36,.int .u8 45,.int .u8 43,.int .u8 51,.int .u8 22,.int .u8 53,.int .u8 39,.int .u8 33,.int .u8 30,.int .u8 24,.int .u8 18,.int .u8 12,.int .u8 5,.int .u8 63,.int .u8 55,.int .u8 48,.int .u8 27,.int .u8 60,.int .u8 41,.int .u8 37,.int .u8 16,.int .u8 46,.int .u8 35,.int .u8 44,.int .u8 21,.int .u8 52,.int .u8 32,.int .u8 23,.int .u8 11,.int .u8 54,.int .u8 26,.int .u8 40,.int .u8 15,.int .u8 34,.int .u8 20,.int .u8 31,.int .u8 10,.int .u8 25,.int .u8 14,.int .u8 19,.int .u8 9,.int .u8 13,.int .u8 8,.int .u8 7,.int .u8 6]:List Value).toArray t frozen
   | o=>o }
end Go.Proofs.YtnhgdofpomioeaaGreatDoor
namespace Go.Lg
open Go Go.Proofs
def P6 (v:Int):Int:=if v<2 then v else 2
def F4 (v:Int):Int:=if 3<v then 2 else v
def N2 (v:Int):Bool:=decide (v≤1)
def qGn (a b:Int):Bool:=decide (F4 a=F4 b∨F4 a=2)
def q0J (v:Int):Int:=if v≤1 then 1 - v else 2
def Nj (low high:Int):Int→List Int→Int
 | out,[]=>out
 | out,v::l=>if v=low then low else if v ≠ high then Nj low high 2 l else Nj low high out l
def qGo (a b:Int):Int:=if a=b then 0 else 1
def q2q:Int→List Int→Int
 | out,[]=>out
 | out,v::l=>if v≤1 then q2q (qGo out v) l else 2
def q9d (s a b:Int):Int:=if s=0 then P6 a else if s=1 then P6 b else if a=b then P6 a else 2
def qB2 (e d:Int):Int:=if e=0 then 3 else if e=1 then P6 d else 2
def q6p (l:List Int):Bool:=l.contains 0 && l.contains 1
def qFU (v:Int):Bool:=decide (F4 v=2)
def qGp (v:Int):Bool:=decide (v ≠ 3)
def q8q (l:List Int):Int:=match l.findIdx? qGp with
 | none=>3
 | some i=>if q6p l=true∨l.any qFU=true then 2 else l.getD i 0
def Fp (k:Int) (l:List Int):Int :=
 if k=1 then 0 else if k=2 then 1 else if k=3 then P6 (l.getD 0 0) else if k=4 then q0J (l.getD 0 0) else
 if k=5 then Nj 0 1 1 l else if k=6 then q0J (Nj 0 1 1 l) else if k=7 then Nj 1 0 0 l else if k=8 then q0J (Nj 1 0 0 l) else
 if k=9 then q2q 0 l else if k=10 then q0J (q2q 0 l) else if k=11 then q9d (l.getD 0 0) (l.getD 1 0) (l.getD 2 0) else
 if k=12 then qB2 (l.getD 0 0) (l.getD 1 0) else if k=13 then q8q l else 2
def q8r (k:Int) (n:Nat):Bool:=decide ((n:Int)<(S5 k).1∨(S5 k).2<(n:Int))
def q5r (k:Int) (l:List Int):Int:=if q8r k l.length=true then 2 else Fp k l
theorem qFV (R:Int→Int→Prop) {k:Int} {l m:List Int} (h1:k=1→R (0) (0)) (h2:k=2→R (1) (1)) (h3:k=3→R (P6 (l.getD 0 0)) (P6 (m.getD 0 0))) (h4:k=4→R (q0J (l.getD 0 0)) (q0J (m.getD 0 0))) (h5:k=5→R (Nj 0 1 1 l) (Nj 0 1 1 m)) (h6:k=6→R (q0J (Nj 0 1 1 l)) (q0J (Nj 0 1 1 m))) (h7:k=7→R (Nj 1 0 0 l) (Nj 1 0 0 m)) (h8:k=8→R (q0J (Nj 1 0 0 l)) (q0J (Nj 1 0 0 m))) (h9:k=9→R (q2q 0 l) (q2q 0 m)) (h10:k=10→R (q0J (q2q 0 l)) (q0J (q2q 0 m))) (h11:k=11→R (q9d (l.getD 0 0) (l.getD 1 0) (l.getD 2 0)) (q9d (m.getD 0 0) (m.getD 1 0) (m.getD 2 0))) (h12:k=12→R (qB2 (l.getD 0 0) (l.getD 1 0)) (qB2 (m.getD 0 0) (m.getD 1 0))) (h13:k=13→R (q8q l) (q8q m)) (h0:k<1∨13<k→R 2 2):R (Fp k l) (Fp k m):=by
 by_cases e1:k=1
 ·subst e1; exact h1 rfl
 by_cases e2:k=2
 ·subst e2; exact h2 rfl
 by_cases e3:k=3
 ·subst e3; exact h3 rfl
 by_cases e4:k=4
 ·subst e4; exact h4 rfl
 by_cases e5:k=5
 ·subst e5; exact h5 rfl
 by_cases e6:k=6
 ·subst e6; exact h6 rfl
 by_cases e7:k=7
 ·subst e7; exact h7 rfl
 by_cases e8:k=8
 ·subst e8; exact h8 rfl
 by_cases e9:k=9
 ·subst e9; exact h9 rfl
 by_cases e10:k=10
 ·subst e10; exact h10 rfl
 by_cases e11:k=11
 ·subst e11; exact h11 rfl
 by_cases e12:k=12
 ·subst e12; exact h12 rfl
 by_cases e13:k=13
 ·subst e13; exact h13 rfl
 unfold Fp
 rw [if_neg e1,if_neg e2,if_neg e3,if_neg e4,if_neg e5,if_neg e6,if_neg e7,if_neg e8,if_neg e9,if_neg e10,if_neg e11,if_neg e12,if_neg e13]
 rw [if_neg e1,if_neg e2,if_neg e3,if_neg e4,if_neg e5,if_neg e6,if_neg e7,if_neg e8,if_neg e9,if_neg e10,if_neg e11,if_neg e12,if_neg e13]
 exact h0 (by omega)
def V4 (v:Int):Prop:=0≤v∧v≤3
theorem q5s {v:Int} (h:V4 v):V4 (P6 v):=by unfold P6 V4 at *; split <;> omega
theorem qB3 {v:Int} (h:V4 v):V4 (q0J v):=by unfold q0J V4 at *; split <;> omega
theorem q0k {low high:Int}:∀ {l:List Int} {out:Int},out=2∨out=high→Nj low high out l=if low ∈ l then low else if out=high∧∀ v ∈ l,v=high then high else 2
 | [],out,h=>by
  simp only [Nj,List.not_mem_nil,if_false]
  by_cases ho:out=high
  ·simp [ho]
  ·simp [ho]; omega
 | v::l,out,h=>by
  simp only [Nj]
  by_cases h1:v=low
  ·subst h1; simp
  have h1':¬ low=v:=fun e=>h1 e.symm
  by_cases h2:v=high
  ·subst h2
   rw [if_neg h1,if_neg (by simp),q0k h]
   simp [h1']
  ·rw [if_neg h1,if_pos h2,q0k (.inl rfl)]
   by_cases hl:low ∈ l
   ·simp [hl]
   ·have:¬ (out=high∧∀ u ∈ v::l,u=high):=fun ⟨_,h⟩=>h2 (h v List.mem_cons_self)
    have hlv:¬ low ∈ v::l:=by simp [h1',hl]
    rw [if_neg hl,if_neg hlv,if_neg this]
    split
    ·rename_i h3; exact h3.1.symm
    ·rfl
theorem qDX:∀ {l:List Int} {out:Int},V4 out→(∀ v ∈ l,V4 v)→V4 (q2q out l)
 | [],out,h,_=>h
 | v::l,out,h,hl=>by
  simp only [q2q]
  split
  ·exact qDX (by unfold qGo; split <;> simp [V4]) fun u hu=>hl u (List.mem_cons_of_mem _ hu)
  ·simp [V4]
theorem q1b {l:List Int} (h:∀ v ∈ l,V4 v) (i:Nat):V4 (l.getD i 0):=by
 rw [List.getD_eq_getElem?_getD]
 by_cases hi:i<l.length
 ·rw [List.getElem?_eq_getElem hi]; exact h _ (List.getElem_mem hi)
 ·rw [List.getElem?_eq_none (Nat.le_of_not_lt hi)]; simp [V4]
theorem qIS {k:Int} {l:List Int} (h:∀ v ∈ l,V4 v):V4 (q5r k l):=by
 have g:=q1b h
 have d1:V4 (Nj 0 1 1 l):=by rw [q0k (.inr rfl)]; split; simp [V4]; split <;> simp [V4]
 have d2:V4 (Nj 1 0 0 l):=by rw [q0k (.inr rfl)]; split; simp [V4]; split <;> simp [V4]
 have x:=qDX (out:=0) (by simp [V4]) h
 unfold q5r
 by_cases hw:q8r k l.length=true
 ·rw [if_pos hw]; simp [V4]
 rw [if_neg hw]
 refine qFV (fun a _=>V4 a) (l:=l) (m:=l) (fun _=>by simp [V4]) (fun _=>by simp [V4]) (fun _=>q5s (g 0)) (fun _=>qB3 (g 0)) (fun _=>d1) (fun _=>qB3 d1) (fun _=>d2) (fun _=>qB3 d2) (fun _=>x) (fun _=>qB3 x) (fun _=>?_) (fun _=>?_) (fun _=>?_) (fun _=>by simp [V4])
 ·unfold q9d; split
  ·exact q5s (g 1)
  split
  ·exact q5s (g 2)
  split
  ·exact q5s (g 1)
  ·simp [V4]
 ·unfold qB2; split
  ·simp [V4]
  split
  ·exact q5s (g 1)
  ·simp [V4]
 ·unfold q8q; split
  ·simp [V4]
  split
  ·simp [V4]
  ·exact g _
def Blw (a b:Int):Prop:=a=b∨a=2
def qDY (l m:List Int):Prop:=l.length=m.length∧∀ i,Blw (l.getD i 0) (m.getD i 0)
theorem Blw.refl (a:Int):Blw a a:=.inl rfl
theorem qDY.cons {a b:Int} {l m:List Int} (h:qDY (a::l) (b::m)):Blw a b∧qDY l m :=
 ⟨by simpa using h.2 0,by simpa using h.1,fun i=>by simpa using h.2 (i+1)⟩
def Si (i:Nat) (r:N6):Nat:=r.countP fun p=>decide (p.1=(i:Int))
theorem qGq {i:Nat} {r q:N6}:Si i (r++q)=Si i r+Si i q:=by simp [Si]
theorem qDZ {rows:List N6} {n m i:Nat} {p:Int × Int} (hn:n<rows.length):Si i ((Hv rows n p).getD m [])=Si i (rows.getD m [])+if m=n∧p.1=(i:Int) then 1 else 0:=by
 unfold Hv
 simp only [List.getD_eq_getElem?_getD,List.getElem?_set]
 by_cases h:n=m
 ·subst h
  simp only [hn,if_true,Option.getD_some,qGq,true_and]
  congr 1
  by_cases h2:p.1=(i:Int) <;> simp [Si,h2]
 ·have h':¬ m=n:=fun e=>h e.symm
  simp [h,h']
theorem q7P (c:B7) (j i m:Nat):∀ (l:List Int) (k:Nat) (rows:List N6),rows.length=c.nodes.l.length→(∀ p ∈ l,0≤p∧p<c.nodes.l.length)→(Je c j l k rows).length=c.nodes.l.length∧Si i ((Je c j l k rows).getD m [])=Si i (rows.getD m [])+if j=i then l.count (m:Int) else 0
 | [],k,rows,hl,_=>⟨hl,by simp [Je]⟩
 | n::l,k,rows,hl,hp=>by
  have hn:=hp n List.mem_cons_self
  have ho:N1 c n=false:=by simp [N1]; omega
  simp only [Je,ho,Bool.false_eq_true,if_false]
  obtain ⟨h1,h2⟩:=q7P c j i m l (k+1) (Hv rows n.toNat (j,k)) (by rw [q4o]; exact hl) (fun p h=>hp p (List.mem_cons_of_mem _ h))
  refine ⟨h1,?_⟩
  rw [h2,qDZ (by omega)]
  by_cases hji:j=i
  ·subst hji
   simp only [and_true,if_true,List.count_cons]
   by_cases hm:(m:Int)=n
   ·have h5:m=n.toNat:=by omega
    have h6:(n == (m:Int))=true:=by rw [hm]; simp
    rw [if_pos h5,h6]
    simp only [if_true]; omega
   ·have h5:¬ m=n.toNat:=by omega
    have h6:(n == (m:Int))=false:=by simp; omega
    rw [if_neg h5,h6]
    simp only [Bool.false_eq_true,if_false]; omega
  ·have:¬ ((j:Int)=i):=by omega
   simp [hji,this]
theorem q5t (c:B7) (i m:Nat):∀ (l:List Nd) (s:Nat) (rows:List N6),rows.length=c.nodes.l.length→(∀ x ∈ l,∀ p ∈ x.inn.l,0≤p∧p<c.nodes.l.length) →
  Si i ((Gx c l s rows).getD m [])=Si i (rows.getD m [])+if s≤i then ((l.map fun x=>x.inn.l.count (m:Int)).getD (i - s) 0) else 0
 | [],s,rows,hl,_=>by simp [Gx]
 | x::l,s,rows,hl,hp=>by
  obtain ⟨h1,h2⟩:=q7P c s i m x.inn.l 0 rows hl (hp x List.mem_cons_self)
  simp only [Gx]
  rw [q5t c i m l (s+1) _ h1 (fun y hy=>hp y (List.mem_cons_of_mem _ hy)),h2]
  by_cases hsi:s=i
  ·subst hsi
   have:¬ s+1≤s:=by omega
   simp [this]
  ·by_cases hlt:s≤i
   ·have e:i - s=(i - (s+1))+1:=by omega
    have h3:s+1≤i:=by omega
    simp [hsi,hlt,h3,e]
   ·have h3:¬ s+1≤i:=by omega
    simp [hsi,hlt,h3]
def Ks (c:B7) (i:Nat):List Int:=(c.nodes.l.getD i Nd.d).inn.l
theorem q6q (c:B7) (hp:∀ x ∈ c.nodes.l,∀ p ∈ x.inn.l,0≤p∧p<c.nodes.l.length) (i m:Nat) (hi:i<c.nodes.l.length):Si i (Gj c m)=(Ks c i).count (m:Int):=by
 unfold Gj Ew
 rw [q5t c i m c.nodes.l 0 _ (by simp) hp]
 have h0:Si i ((List.replicate c.nodes.l.length ([]:N6)).getD m [])=0:=by
  simp only [List.getD_eq_getElem?_getD,List.getElem?_replicate]
  split <;> rfl
 rw [h0]
 simp [Ks,hi]
theorem qET (c:B7) {i:Nat} (hi:i<c.nodes.l.length):(c.nodes.l.map Do).getD i 0=if G3 (C2 c i) then ((Ks c i).length:Int) else 0:=by
 simp [C2,Ks,Do,hi]
theorem q6r {N M:Nat} {c:B7} {n:Nat}:∀ {r:N6} {s:LS},s.left.length=N→(∀ p ∈ r,∃ i:Nat,i<N∧p.1=i)→(∀ i:Nat,i<N→s.left.getD i 0≤0→(i:Int) ∈ s.rdy) →
  (∃ e,(r.foldl (E1 c n) s).rdy=s.rdy++e)∧(r.foldl (E1 c n) s).left.length=N∧(∀ i:Nat,i<N→(r.foldl (E1 c n) s).left.getD i 0=s.left.getD i 0 - if G3 (C2 c i) then (Si i r:Int) else 0)∧(∀ i:Nat,i<N→(r.foldl (E1 c n) s).left.getD i 0≤0→(i:Int) ∈ (r.foldl (E1 c n) s).rdy)
 | [],s,hl,_,hb=>⟨⟨[],by simp⟩,hl,fun i hi=>by simp [Si],hb⟩
 | (p1,p2)::r,s,hl,hr,hb=>by
  obtain ⟨j,hj,he⟩:=hr (p1,p2) List.mem_cons_self
  simp only at he; subst he
  have key:(∃ e,(E1 c n s (j,p2)).rdy=s.rdy++e)∧(E1 c n s (j,p2)).left.length=N∧(∀ i:Nat,i<N→(E1 c n s (j,p2)).left.getD i 0=s.left.getD i 0 - if G3 (C2 c i) then (if j=i then 1 else 0:Int) else 0)∧(∀ i:Nat,i<N→(E1 c n s (j,p2)).left.getD i 0≤0→(i:Int) ∈ (E1 c n s (j,p2)).rdy):=by
   unfold E1
   simp only [Int.toNat_natCast]
   by_cases hc:G3 (C2 c j)=true
   ·simp only [hc,if_true]
    refine ⟨?_,by simp [hl],fun i hi=>?_,fun i hi h0=>?_⟩
    ·split
     ·exact ⟨_,rfl⟩
     ·exact ⟨[],by simp⟩
    ·rw [Nh (by omega)]
     by_cases hij:i=j
     ·subst hij; simp [hc]
     ·have:¬ j=i:=fun e=>hij e.symm
      simp [hij,this]
    ·rw [Nh (by omega)] at h0
     by_cases hij:i=j
     ·subst hij
      simp only [if_true] at h0
      by_cases h1:s.left.getD i 0 - 1=0
      ·rw [if_pos h1]; simp
      ·rw [if_neg h1]
       exact hb i hi (by omega)
     ·simp only [hij,if_false] at h0
      have:=hb i hi h0
      split
      ·exact List.mem_append_left _ this
      ·exact this
   ·simp only [hc]
    refine ⟨⟨[],by simp⟩,hl,fun i hi=>?_,hb⟩
    by_cases hij:j=i
    ·subst hij; simp [hc]
    ·simp [hij]
  obtain ⟨⟨e1,h1⟩,h2,h3,h4⟩:=key
  obtain ⟨⟨e2,g1⟩,g2,g3,g4⟩:=q6r (M:=M) (n:=n) (r:=r) h2 (fun q hq=>hr q (List.mem_cons_of_mem _ hq)) h4
  simp only [List.foldl_cons]
  refine ⟨⟨e1++e2,by rw [g1,h1,List.append_assoc]⟩,g2,fun i hi=>?_,g4⟩
  rw [g3 i hi,h3 i hi]
  by_cases hc:G3 (C2 c i)=true
  ·simp only [hc,if_true]
   have:Si i ((↑j,p2)::r)=Si i r+if j=i then 1 else 0:=by
    by_cases hij:j=i
    ·subst hij; simp [Si]
    ·have:¬ ((j:Int)=i):=by omega
     simp [Si,hij,this]
   rw [this]
   split <;> omega
  ·simp [hc]
structure JI (c:B7) (d:Nat) (s:LS):Prop where
 li:∃ M,LI c.nodes.l.length M s
 le:d≤s.rdy.length
 a:∀ i:Nat,i<c.nodes.l.length→s.left.getD i 0=(c.nodes.l.map Do).getD i 0 - if G3 (C2 c i) then (((s.rdy.take d).map fun x=>(Ks c i).count x).sum:Int) else 0
 b:∀ i:Nat,i<c.nodes.l.length→s.left.getD i 0≤0→(i:Int) ∈ s.rdy
theorem JI.next {c:B7} (hp:∀ x ∈ c.nodes.l,∀ p ∈ x.inn.l,0≤p∧p<c.nodes.l.length) {d:Nat} {s:LS} (h:JI c d s) (hd:d<s.rdy.length):JI c (d+1) ((Gj c (s.rdy.getD d 0).toNat).foldl (E1 c (s.rdy.getD d 0).toNat) s):=by
 obtain ⟨M,hli⟩:=h.li
 have hg:s.rdy.getD d 0=s.rdy[d]:=by simp [hd]
 rw [hg]
 obtain ⟨n,hn,he,_⟩:=hli.rd _ (List.getElem_mem hd)
 rw [he]
 simp only [Int.toNat_natCast]
 have hr:∀ p ∈ Gj c n,∃ i:Nat,i<c.nodes.l.length∧p.1=i:=by
  intro p hpp
  have hl:=Z4 c
  have e:Gj c n=(Ew c)[n]'(by omega):=by simp [Gj,List.getD,List.getElem?_eq_getElem (show n<(Ew c).length by omega)]
  rw [e] at hpp
  exact q4q c _ (List.getElem_mem _) p hpp
 obtain ⟨⟨e,h1⟩,h2,h3,h4⟩:=q6r (M:=M) (c:=c) (n:=n) (r:=Gj c n) hli.ll hr h.b
 refine ⟨⟨_,hli.fold hr⟩,by rw [h1]; simp; omega,fun i hi=>?_,h4⟩
 rw [h3 i hi,h.a i hi,h1]
 by_cases hc:G3 (C2 c i)=true
 ·simp only [hc,if_true]
  have ht:(s.rdy++e).take (d+1)=s.rdy.take d++[(n:Int)]:=by
   rw [List.take_append_of_le_length (by omega),List.take_add_one,List.getElem?_eq_getElem hd,he]
   rfl
  rw [ht,q6q c hp i n hi]
  simp
  omega
 ·simp [hc]
theorem q8s {c:B7} (hp:∀ x ∈ c.nodes.l,∀ p ∈ x.inn.l,0≤p∧p<c.nodes.l.length):∀ (f d:Nat) (s:LS),JI c d s→c.nodes.l.length<f+d→JI c (Lu c f d s).1 (Lu c f d s).2∧(Lu c f d s).2.rdy.length≤(Lu c f d s).1
 | 0,d,s,h,hf=>by
  obtain ⟨M,hli⟩:=h.li
  have:=hli.len
  exact ⟨h,by simp only [Lu]; omega⟩
 | f+1,d,s,h,hf=>by
  simp only [Lu]
  split
  ·rename_i hd
   exact q8s hp f (d+1) _ (h.next hp hd) (by omega)
  ·exact ⟨h,by simp only; omega⟩
theorem qAJ:∀ (L R:List Int),(∀ p ∈ L,p ∈ R)→L.length≤(R.map fun x=>L.count x).sum
 | [],R,_=>by simp
 | p::L,R,h=>by
  have ih:=qAJ L R fun q hq=>h q (List.mem_cons_of_mem _ hq)
  have hpR:=h p List.mem_cons_self
  have key:∀ R:List Int,(R.map fun x=>(p::L).count x).sum=(R.map fun x=>L.count x).sum+R.count p:=by
   intro R
   induction R with
   | nil=>rfl
   | cons a R ihR =>
    simp only [List.map_cons,List.sum_cons]
    rw [ihR,List.count_cons,List.count_cons]
    by_cases hpa:p=a
    ·subst hpa; simp only [BEq.rfl,if_true]; omega
    ·have h1:(p == a)=false:=by simpa using hpa
     have h2:(a == p)=false:=by simpa using fun e=>hpa e.symm
     rw [h1,h2]; simp only [Bool.false_eq_true,if_false]; omega
  rw [key]
  have:=List.count_pos_iff.2 hpR
  simp only [List.length_cons]; omega
theorem q2r:∀ (l:List Nd) (s i:Nat),s≤i→i<s+l.length→(l.map Do).getD (i - s) 0≤0→(i:Int) ∈ Dp l s
 | [],s,i,h1,h2,_=>by simp at h2; omega
 | x::l,s,i,h1,h2,h3=>by
  simp only [List.length_cons] at h2
  by_cases hsi:i=s
  ·subst hsi
   simp only [Nat.sub_self,List.map_cons,List.getD_cons_zero] at h3
   have h4:0≤Do x:=by unfold Do; split <;> omega
   have h5:Do x=0:=by omega
   simp [Dp,h5]
  ·have e:i - s=(i - (s+1))+1:=by omega
   rw [e,List.map_cons,List.getD_cons_succ] at h3
   have:=q2r l (s+1) i (by omega) (by omega) h3
   simp only [Dp]
   split
   ·exact List.mem_cons_of_mem _ this
   ·exact this
theorem q7Q (c:B7) (h16:∀ x ∈ c.nodes.l,x.inn.l.length≤16) (hp:∀ x ∈ c.nodes.l,∀ p ∈ x.inn.l,0≤p∧p<c.nodes.l.length) (ht:∀ i:Nat,i<c.nodes.l.length→G3 (C2 c i)=true→∀ p ∈ Ks c i,p<i):¬ (Oe c).1<c.nodes.l.length:=by
 have h0:JI c 0 (Hw c):=by
  refine ⟨⟨0,?_⟩,by simp,fun i hi=>?_,fun i hi h=>?_⟩
  ·obtain ⟨r1,r2⟩:=q4r c.nodes.l 0
   refine ⟨by simp [Hw],by simp [Hw],?_,r2,fun i=>?_,fun i=>?_⟩
   ·intro j hj
    obtain ⟨a,_,h2,h3,h4⟩:=r1 j hj
    exact ⟨a,by omega,h3,by simp only [Hw]; simp only [Nat.sub_zero] at h4; omega⟩
   ·simp only [Hw,List.getD_eq_getElem?_getD,List.getElem?_replicate]
    split <;> simp
   ·simp only [Hw]
    by_cases hi:i<c.nodes.l.length
    ·have:=h16 _ (List.getElem_mem hi)
     simp [hi,Do]
     split <;> omega
    ·simp [hi]
  ·simp [Hw]
  ·simp only [Hw] at h
   exact q2r c.nodes.l 0 i (by omega) (by omega) (by simpa using h)
 obtain ⟨hJ,hle⟩:=q8s hp (c.nodes.l.length+1) 0 (Hw c) h0 (by omega)
 show ¬ (Lu c (c.nodes.l.length+1) 0 (Hw c)).1<c.nodes.l.length
 generalize (Lu c (c.nodes.l.length+1) 0 (Hw c)).1=d at *
 generalize (Lu c (c.nodes.l.length+1) 0 (Hw c)).2=s at *
 have all:∀ i:Nat,i<c.nodes.l.length→(i:Int) ∈ s.rdy:=by
  intro i
  induction i using Nat.strongRecOn with
  | ind i ih =>
   intro hi
   refine hJ.b i hi ?_
   rw [hJ.a i hi,qET c hi]
   by_cases hc:G3 (C2 c i)=true
   ·simp only [hc,if_true]
    rw [List.take_of_length_le hle]
    have hm:Ks c i ∈ c.nodes.l.map fun x=>x.inn.l:=by
     simp only [Ks,List.getD_eq_getElem?_getD,List.getElem?_eq_getElem hi,Option.getD_some]
     exact List.mem_map_of_mem (List.getElem_mem hi)
    obtain ⟨y,hy,hye⟩:=List.mem_map.1 hm
    have:=qAJ (Ks c i) s.rdy fun p hpp=>by
     have h1:=ht i hi hc p hpp
     have h2:=(hp y hy p (by rw [hye]; exact hpp)).1
     obtain ⟨j,rfl⟩:∃ j:Nat,p=j:=⟨p.toNat,by omega⟩
     exact ih j (by omega) (by omega)
    omega
   ·simp [hc]
 have hnd:((List.range c.nodes.l.length).map fun i:Nat=>(i:Int)).Nodup:=by
  rw [List.nodup_iff_pairwise_ne,List.pairwise_map]
  exact (List.nodup_iff_pairwise_ne.1 List.nodup_range).imp fun h e=>h (by omega)
 have hsub:((List.range c.nodes.l.length).map fun i:Nat=>(i:Int)) ⊆ s.rdy:=by
  intro x hx
  obtain ⟨i,hi,rfl⟩:=List.mem_map.1 hx
  exact all i (List.mem_range.1 hi)
 have:=List.Nodup.length_le_of_subset hnd hsub
 simp at this
 omega
theorem q2s (p:Int) (L:List Int):∀ R:List Int,(R.map fun x=>(p::L).count x).sum=(R.map fun x=>L.count x).sum+R.count p
 | []=>rfl
 | a::R=>by
  simp only [List.map_cons,List.sum_cons]
  rw [q2s p L R,List.count_cons,List.count_cons]
  by_cases hpa:p=a
  ·subst hpa; simp only [BEq.rfl,if_true]; omega
  ·have h1:(p == a)=false:=by simpa using hpa
   have h2:(a == p)=false:=by simpa using fun e=>hpa e.symm
   rw [h1,h2]; simp only [Bool.false_eq_true,if_false]; omega
theorem q5u:∀ (L R:List Int),R.Nodup→(R.map fun x=>L.count x).sum≤L.length
 | [],R,_=>by
  have:∀ R:List Int,(R.map fun x=>([]:List Int).count x).sum=0:=by
   intro R
   induction R with
   | nil=>rfl
   | cons a R ih=>rw [List.map_cons,List.sum_cons,ih,List.count_nil]
  rw [this]; omega
 | p::L,R,h=>by
  have ih:=q5u L R h
  have h1:=List.nodup_iff_count.1 h p
  rw [q2s]
  simp only [List.length_cons]; omega
theorem qGr {N n:Nat} {c:B7}:∀ {r:N6} {s:LS},s.out.length=N→s.left.length=N→(∀ p ∈ r,∃ i:Nat,i<N∧p.1=i)→(∀ i:Nat,i<N→G3 (C2 c i)=true→(Si i r:Int)≤s.left.getD i 0)→s.left.getD n 0≤0 →
  (∀ i:Nat,i<N→s.left.getD i 0≤0→(r.foldl (E1 c n) s).out.getD i 0=s.out.getD i 0)∧(∀ i:Nat,i<N→s.out.getD i 0≤(r.foldl (E1 c n) s).out.getD i 0)∧(∀ i:Nat,i<N→G3 (C2 c i)=true→0<Si i r→s.out.getD n 0+1≤(r.foldl (E1 c n) s).out.getD i 0)
 | [],s,ho,hl,_,_,_=>⟨fun _ _ _=>rfl,fun _ _=>Int.le_refl _,fun i _ _ h=>by simp [Si] at h⟩
 | (p1,p2)::r,s,ho,hl,hr,hc,hn=>by
  obtain ⟨j,hj,he⟩:=hr (p1,p2) List.mem_cons_self
  simp only at he; subst he
  have cnt:∀ i:Nat,Si i ((↑j,p2)::r)=Si i r+if j=i then 1 else 0:=fun i=>by
   by_cases hij:j=i
   ·subst hij; simp [Si]
   ·have:¬ ((j:Int)=i):=by omega
    simp [Si,hij,this]
  simp only [List.foldl_cons]
  by_cases hcj:G3 (C2 c j)=true
  case neg =>
   have hs:E1 c n s (↑j,p2)=s:=by unfold E1; simp [hcj]
   rw [hs]
   obtain ⟨a1,a2,a3⟩:=qGr (n:=n) (c:=c) (r:=r) ho hl (fun p hp=>hr p (List.mem_cons_of_mem _ hp)) (fun i hi hci=>by have:=hc i hi hci; rw [cnt] at this; omega) hn
   refine ⟨a1,a2,fun i hi hci h=>a3 i hi hci ?_⟩
   rw [cnt] at h
   have:¬ j=i:=fun e=>hcj (e ▸ hci)
   simpa [this] using h
  have hj1:=hc j hj hcj
  rw [cnt,if_pos rfl] at hj1
  have hnj:¬ n=j:=fun e=>by subst e; omega
  have so:∀ i:Nat,(E1 c n s (↑j,p2)).out.getD i 0=if i=j then max (s.out.getD j 0) (s.out.getD n 0+1) else s.out.getD i 0:=fun i=>by
   unfold E1
   simp only [Int.toNat_natCast,hcj,if_true]
   rw [Nh (by omega)]
  have sl:∀ i:Nat,(E1 c n s (↑j,p2)).left.getD i 0=if i=j then s.left.getD j 0 - 1 else s.left.getD i 0:=fun i=>by
   unfold E1
   simp only [Int.toNat_natCast,hcj,if_true]
   rw [Nh (by omega)]
  have lo:(E1 c n s (↑j,p2)).out.length=N:=by unfold E1; simp [hcj,ho]
  have ll:(E1 c n s (↑j,p2)).left.length=N:=by unfold E1; simp [hcj,hl]
  obtain ⟨a1,a2,a3⟩:=qGr (n:=n) (c:=c) (r:=r) lo ll (fun p hp=>hr p (List.mem_cons_of_mem _ hp)) (fun i hi hci=>by
   have:=hc i hi hci
   rw [cnt] at this
   rw [sl]
   by_cases hij:i=j
   ·subst hij; simp only [if_true] at this ⊢; omega
   ·have h':¬ j=i:=fun e=>hij e.symm
    simp only [hij,h',if_false] at this ⊢; omega) (by rw [sl,if_neg hnj]; exact hn)
  refine ⟨fun i hi h0=>?_,fun i hi=>?_,fun i hi hci h=>?_⟩
  ·have hij:¬ i=j:=fun e=>by subst e; omega
   rw [a1 i hi (by rw [sl,if_neg hij]; exact h0),so,if_neg hij]
  ·have:=a2 i hi
   rw [so] at this
   split at this
   ·rename_i e; subst e; omega
   ·exact this
  ·by_cases hij:i=j
   ·subst hij
    have:=a2 i hi
    rw [so,if_pos rfl] at this
    omega
   ·have h':¬ j=i:=fun e=>hij e.symm
    rw [cnt,if_neg h'] at h
    have:=a3 i hi hci (by omega)
    rw [so,if_neg hnj] at this
    exact this
def KI (c:B7) (d:Nat) (s:LS):Prop:=∀ i:Nat,i<c.nodes.l.length→G3 (C2 c i)=true→∀ q:Nat,(q:Int) ∈ Ks c i→(q:Int) ∈ s.rdy.take d→s.out.getD q 0+1≤s.out.getD i 0
theorem KI.next {c:B7} (hp:∀ x ∈ c.nodes.l,∀ p ∈ x.inn.l,0≤p∧p<c.nodes.l.length) {d:Nat} {s:LS} (h:JI c d s) (hk:KI c d s) (hd:d<s.rdy.length):KI c (d+1) ((Gj c (s.rdy.getD d 0).toNat).foldl (E1 c (s.rdy.getD d 0).toNat) s):=by
 obtain ⟨M,hli⟩:=h.li
 have hg:s.rdy.getD d 0=s.rdy[d]:=by simp [hd]
 rw [hg]
 obtain ⟨n,hn,he,hn0⟩:=hli.rd _ (List.getElem_mem hd)
 rw [he]
 simp only [Int.toNat_natCast]
 have hr:∀ p ∈ Gj c n,∃ i:Nat,i<c.nodes.l.length∧p.1=i:=by
  intro p hpp
  have hl:=Z4 c
  have e:Gj c n=(Ew c)[n]'(by omega):=by simp [Gj,List.getD,List.getElem?_eq_getElem (show n<(Ew c).length by omega)]
  rw [e] at hpp
  exact q4q c _ (List.getElem_mem _) p hpp
 have htk:s.rdy.take (d+1)=s.rdy.take d++[(n:Int)]:=by
  rw [List.take_add_one,List.getElem?_eq_getElem hd,he]; rfl
 have hnd:(s.rdy.take (d+1)).Nodup:=hli.nd.sublist (List.take_sublist _ _)
 have hcnt:∀ i:Nat,i<c.nodes.l.length→G3 (C2 c i)=true→(Si i (Gj c n):Int)≤s.left.getD i 0:=by
  intro i hi hci
  have:=q5u (Ks c i) _ hnd
  rw [htk] at this
  simp only [List.map_append,List.sum_append,List.map_cons,List.map_nil,List.sum_cons,List.sum_nil] at this
  rw [h.a i hi,qET c hi,q6q c hp i n hi]
  simp only [hci,if_true]
  omega
 obtain ⟨⟨e,h1⟩,_,_,_⟩:=q6r (M:=M) (c:=c) (n:=n) (r:=Gj c n) hli.ll hr h.b
 obtain ⟨a1,a2,a3⟩:=qGr (n:=n) (c:=c) hli.lo hli.ll hr hcnt hn0
 intro i hi hci q hq hqt
 rw [h1,List.take_append_of_le_length (by omega),htk] at hqt
 rcases List.mem_append.1 hqt with hqt | hqt
 ·obtain ⟨q',hq1,hq2,hq3⟩:=hli.rd _ (List.mem_of_mem_take hqt)
  have:q=q':=by omega
  subst this
  rw [a1 q hq1 hq3]
  have h4:=hk i hi hci q hq hqt
  have h5:=a2 i hi
  omega
 ·have:q=n:=by simp at hqt; omega
  subst this
  rw [a1 q hn hn0]
  refine a3 i hi hci ?_
  rw [q6q c hp i q hi]
  exact List.count_pos_iff.2 hq
theorem qEU {c:B7} (hp:∀ x ∈ c.nodes.l,∀ p ∈ x.inn.l,0≤p∧p<c.nodes.l.length):∀ (f d:Nat) (s:LS),JI c d s→KI c d s→KI c (Lu c f d s).1 (Lu c f d s).2
 | 0,d,s,_,hk=>hk
 | f+1,d,s,h,hk=>by
  simp only [Lu]
  split
  ·rename_i hd
   exact qEU hp f (d+1) _ (h.next hp hd) (hk.next hp h hd)
  ·exact hk
theorem qIT (c:B7) (h16:∀ x ∈ c.nodes.l,x.inn.l.length≤16):JI c 0 (Hw c):=by
 refine ⟨⟨0,qC3 c h16⟩,by simp,fun i hi=>?_,fun i hi h=>?_⟩
 ·simp [Hw]
 ·simp only [Hw] at h
  exact q2r c.nodes.l 0 i (by omega) (by omega) (by simpa using h)
theorem q8t {c:B7} (h:Ci c=0):∀ x ∈ c.nodes.l,∀ p ∈ x.inn.l,0≤p∧p<c.nodes.l.length:=by
 intro x hx
 have h4:=(Gy h).2.2.1 x hx
 unfold D7 at h4
 split at h4
 ·cases h4
 split at h4
 ·cases h4
 split at h4
 ·cases h4
 rename_i h6
 exact q1V (by simpa using h6)
def Qz (c:B7) (i:Nat):Int:=(Oe c).2.out.getD i 0
theorem Kt {c:B7} (h:Eb c=0):Ci c=0∧¬ (Oe c).1<c.nodes.l.length:=by
 unfold Eb at h
 split at h
 ·rename_i h1; exact absurd h h1
 split at h
 ·cases h
 ·rename_i h1 h2; exact ⟨by simpa using h1,h2⟩
theorem qKU {c:B7} (h:Eb c=0):(Oe c).2.out.length=c.nodes.l.length∧(∀ i,0≤Qz c i)∧∀ i:Nat,i<c.nodes.l.length→G3 (C2 c i)=true→∀ p ∈ Ks c i,(0≤p∧p<c.nodes.l.length)∧Qz c p.toNat<Qz c i:=by
 obtain ⟨hs,hd⟩:=Kt h
 have hp:=q8t hs
 have h16:=(Gy hs).2.1
 have h0:=qIT c h16
 obtain ⟨hJ,hle⟩:=q8s hp (c.nodes.l.length+1) 0 (Hw c) h0 (by omega)
 have hK:=qEU hp (c.nodes.l.length+1) 0 (Hw c) h0 (fun i _ _ q _ hq=>by simp at hq)
 obtain ⟨M,hli⟩:=hJ.li
 refine ⟨hli.lo,fun i=>(hli.bo i).1,fun i hi hc p hpi=>?_⟩
 have hin:0≤p∧p<c.nodes.l.length:=by
  simp only [Ks,List.getD_eq_getElem?_getD,List.getElem?_eq_getElem hi,Option.getD_some] at hpi
  exact hp _ (List.getElem_mem hi) p hpi
 refine ⟨hin,?_⟩
 have hpe:p=(p.toNat:Int):=by omega
 have hall:p ∈ (Oe c).2.rdy.take (Oe c).1:=by
  have hle':(Oe c).2.rdy.length≤(Oe c).1:=hle
  rw [List.take_of_length_le hle']
  by_cases hm:p ∈ (Oe c).2.rdy
  ·exact hm
  exfalso
  have:=qAB (N:=c.nodes.l.length) (List.nodup_cons.2 ⟨hm,hli.nd⟩) fun j hj=>by
   rcases List.mem_cons.1 hj with rfl | hj
   ·exact ⟨j.toNat,by omega,by omega⟩
   ·obtain ⟨i,h1,h2,_⟩:=hli.rd j hj; exact ⟨i,h1,h2⟩
  have h3:=hJ.le
  simp only [List.length_cons] at this
  have:(Oe c).1≤(Oe c).2.rdy.length:=h3
  have:(Lu c (c.nodes.l.length+1) 0 (Hw c)).2=(Oe c).2:=rfl
  simp only [this] at *
  omega
 have:=hK i hi hc p.toNat (by rw [← hpe]; exact hpi) (by rw [← hpe]; exact hall)
 show (Oe c).2.out.getD p.toNat 0<(Oe c).2.out.getD i 0
 have e:(Lu c (c.nodes.l.length+1) 0 (Hw c)).2=(Oe c).2:=rfl
 rw [e] at this
 omega
def q8u (lt:Int→Int→Bool):Nat→List Int→List Int
 | 0,l=>l
 | j+1,l=>if lt (l.getD (j+1) 0) (l.getD j 0) then q8u lt j (Z6 l (j+1) j) else l
def q2t (lt:Int→Int→Bool):Nat→Nat→List Int→List Int
 | 0,_,l=>l
 | f+1,i,l=>q2t lt f (i+1) (q8u lt i l)
theorem q3Y {lt:Int→Int→Bool}:∀ {j:Nat} {l:List Int},j<l.length→(q8u lt j l).Perm l
 | 0,l,_=>List.Perm.refl l
 | j+1,l,h=>by
  simp only [q8u]
  split
  ·exact (q3Y (by rw [q6l]; omega)).trans (q8n h (by omega))
  ·exact List.Perm.refl l
def q5v (key:Int→Int) (l:List Int) (n:Nat):Prop:=∀ a b,a<b→b<n→key (l.getD a 0)≤key (l.getD b 0)
theorem q7R (key:Int→Int) (i:Nat):∀ (j:Nat) (l:List Int),j≤i→i<l.length→(∀ a b,a<b→b≤i→a ≠ j→b ≠ j→key (l.getD a 0)≤key (l.getD b 0))→(∀ b,j<b→b≤i→key (l.getD j 0)≤key (l.getD b 0)) →
  q5v key (q8u (fun a b=>decide (key a<key b)) j l) (i+1)
 | 0,l,hj,hi,h1,h2=>by
  intro a b hab hb
  simp only [q8u]
  by_cases ha:a=0
  ·subst ha; exact h2 b hab (by omega)
  ·exact h1 a b hab (by omega) ha (by omega)
 | j+1,l,hj,hi,h1,h2=>by
  simp only [q8u]
  split
  ·rename_i hlt
   have hlt':key (l.getD (j+1) 0)<key (l.getD j 0):=by simpa using hlt
   have g:∀ q,q<l.length→(Z6 l (j+1) j).getD q 0=if q=j then l.getD (j+1) 0 else if q=j+1 then l.getD j 0 else l.getD q 0:=fun q hq=>qFP (by omega) (by omega) hq
   refine q7R key i j _ (by omega) (by rw [q6l]; exact hi) (fun a b hab hb ha hb'=>?_) (fun b hb hbi=>?_)
   ·rw [g a (by omega),g b (by omega),if_neg ha,if_neg hb']
    by_cases ha1:a=j+1
    ·rw [if_pos ha1,if_neg (by omega)]
     exact h1 j b (by omega) hb (by omega) (by omega)
    ·rw [if_neg ha1]
     by_cases hb1:b=j+1
     ·rw [if_pos hb1]
      exact h1 a j (by omega) (by omega) ha1 (by omega)
     ·rw [if_neg hb1]
      exact h1 a b hab hb ha1 hb1
   ·rw [g j (by omega),g b (by omega),if_pos rfl,if_neg (by omega)]
    by_cases hb1:b=j+1
    ·rw [if_pos hb1]; omega
    ·rw [if_neg hb1]
     exact h2 b (by omega) hbi
  ·rename_i hlt
   have hlt':key (l.getD j 0)≤key (l.getD (j+1) 0):=by simpa using hlt
   intro a b hab hb
   by_cases ha1:a=j+1
   ·subst ha1; exact h2 b hab (by omega)
   ·by_cases hb1:b=j+1
    ·subst hb1
     by_cases haj:a=j
     ·subst haj; exact hlt'
     ·have:=h1 a j (by omega) (by omega) ha1 (by omega)
      omega
    ·exact h1 a b hab (by omega) ha1 hb1
theorem qEV (key:Int→Int):∀ (f i:Nat) (l:List Int),i+f=l.length→q5v key l i→(q2t (fun a b=>decide (key a<key b)) f i l).Perm l∧q5v key (q2t (fun a b=>decide (key a<key b)) f i l) l.length
 | 0,i,l,h,hs=>⟨List.Perm.refl l,by have:i=l.length:=(by omega); subst this; exact hs⟩
 | f+1,i,l,h,hs=>by
  simp only [q2t]
  have hp:=q3Y (lt:=fun a b=>decide (key a<key b)) (show i<l.length by omega)
  have hss:=q7R key i i l (Nat.le_refl _) (by omega) (fun a b hab hb ha hb'=>hs a b hab (by omega)) (fun b h1 h2=>by omega)
  obtain ⟨a1,a2⟩:=qEV key f (i+1) _ (by rw [hp.length_eq]; omega) hss
  rw [hp.length_eq] at a2
  exact ⟨a1.trans hp,a2⟩
def rng (n:Nat):List Int:=(List.range n).map fun i:Nat=>(i:Int)
theorem Wj {n:Nat}:(rng n).length=n:=by simp [rng]
theorem qB4 {n:Nat} {x:Int}:x ∈ rng n↔0≤x∧x<n:=by
 simp only [rng,List.mem_map,List.mem_range]
 constructor
 ·rintro ⟨i,hi,rfl⟩; omega
 ·intro h; exact ⟨x.toNat,by omega,by omega⟩
def qEW (c:B7) (a b:Int):Bool:=decide (Qz c a.toNat<Qz c b.toNat)
def Vb (c:B7):List Int:=q2t (qEW c) (c.nodes.l.length - 1) 1 (rng c.nodes.l.length)
theorem q6s (c:B7):(Vb c).Perm (rng c.nodes.l.length)∧q5v (fun a=>Qz c a.toNat) (Vb c) c.nodes.l.length:=by
 by_cases h:c.nodes.l.length=0
 ·unfold Vb
  rw [h]
  exact ⟨List.Perm.refl _,fun a b hab hb=>by omega⟩
 ·have:=qEV (fun a=>Qz c a.toNat) (c.nodes.l.length - 1) 1 (rng c.nodes.l.length) (by rw [Wj]; omega) (fun a b hab hb=>by omega)
  rw [Wj] at this
  exact this
def q50 (c:B7) (nets:List Int) (i:Nat):List Int:=(Ks c i).map fun k=>nets.getD k.toNat 0
def q49 (c:B7) (nets:List Int) (n:Int):List Int:=if G3 (C2 c n.toNat) then nets.set n.toNat (q5r (C2 c n.toNat) (q50 c nets n.toNat)) else nets
def qFW (c:B7) (order init:List Int):List Int:=order.foldl (q49 c) init
theorem qAK {c:B7} {nets:List Int} {n:Int}:(q49 c nets n).length=nets.length:=by unfold q49; split <;> simp
theorem qCB {c:B7}:∀ {o nets:List Int},(qFW c o nets).length=nets.length
 | [],nets=>rfl
 | n::o,nets=>by
  show (qFW c o (q49 c nets n)).length=_
  rw [qCB,qAK]
def Hy:List Int→List Int→List Int→List Int
 | n::ns,v::vs,nets=>Hy ns vs (nets.set n.toNat v)
 | _,_,nets=>nets
theorem Sj:∀ {ns vs nets:List Int},(Hy ns vs nets).length=nets.length
 | [],vs,nets=>by cases vs <;> rfl
 | _::_,[],nets=>rfl
 | n::ns,v::vs,nets=>by simp only [Hy]; rw [Sj]; simp
def Da (c:B7):List Int:=ofL [0] c.nodes.l 0
def qEX (c:B7) (pin pst:List Int):List Int:=Hy (Ag c) pst (Hy (Da c) pin (List.replicate c.nodes.l.length 0))
theorem qFX {c:B7} {pin pst:List Int}:(qEX c pin pst).length=c.nodes.l.length:=by unfold qEX; rw [Sj,Sj]; simp
theorem qFY {k:Int} {c:B7} {i:Nat} (hi:i<c.nodes.l.length) (hk:C2 c i=k):ofL [k] c.nodes.l 0=ofL [k] (c.nodes.l.take i) 0++(i:Int)::ofL [k] (c.nodes.l.drop (i+1)) (i+1):=by
 have e:c.nodes.l=c.nodes.l.take i++c.nodes.l[i]::c.nodes.l.drop (i+1):=by rw [List.getElem_cons_drop,List.take_append_drop]
 have hk':c.nodes.l[i].k=k:=by simpa [C2,hi] using hk
 have hm:(c.nodes.l.take i).length=i:=by rw [List.length_take]; omega
 conv=>lhs; rw [e,q83,hm]
 simp [ofL,hk']
theorem q0K {k:Int} {c:B7}:∀ n ∈ ofL [k] c.nodes.l 0,0≤n∧n<c.nodes.l.length∧C2 c n.toNat=k:=by
 intro n hn
 obtain ⟨a,b,h⟩:=q0i [k] c.nodes.l 0 n hn
 refine ⟨by omega,by omega,?_⟩
 simpa [C2] using h
theorem qIU {k:Int} {c:B7} {i:Nat} (hi:i<c.nodes.l.length):(i:Int) ∈ ofL [k] c.nodes.l 0↔C2 c i=k:=by
 constructor
 ·intro h
  have:=(q0K _ h).2.2
  simpa using this
 ·intro h
  rw [qFY hi h]
  simp
end Go.Lg
