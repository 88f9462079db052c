/- Plain data as trees, and how calls are taken. Conditions: none. -/
import Derived.Test.YtnhgdofpomioeaaGreatDoorPkC
import Derived.Test.YtnhgdofpomioeaaGreatDoorProg
import Derived.KernelRfl
import Derived.Lib.Bytealg
import Derived.Test.YtnhgdofpomioeaaGreatDoorRows
import Derived.Test.YtnhgdofpomioeaaGreatDoorCards
import Derived.Test.YtnhgdofpomioeaaGreatDoorTie
import Derived.ProofKit
import Derived.Deep.DeepHandedRow
import Derived.SevenTiedAt
set_option linter.unusedSimpArgs false
set_option linter.unusedVariables false
namespace Go.Lg
open Go
attribute [simp] C7 D3 T.one AV.one Value.oneCell' Dl Fz Fv Au Hy ret qH2
@[simp] theorem qK1 (a b:Int):(a == b)=decide (a=b):=rfl
@[simp] theorem qOp (a b:Int):(a != b)=!decide (a=b):=rfl
@[simp] theorem qOq (s:List UInt8):(ByteArray.mk s.toArray).size=s.length:=by simp [ByteArray.size]
def Ac {α:Type} (f:α→T) (l:List α):List (List T):=l.map fun n=>[f n]
theorem A0 {α:Type} {f:α→T} {l:List α}:(Ac f l).length=l.length:=by simp [Ac]
theorem By {α:Type} {f:α→T} {l:List α} {i:Nat} (d:α) (h:i<l.length):(Ac f l)[i]?.getD []=[f (l[i]?.getD d)]:=by simp [Ac,h]
theorem A6 {α:Type} {f:α→T} {l:List α}:Cm 1 (Ac f l):=by
 intro e he; obtain ⟨x,_,rfl⟩:=List.mem_map.1 he; rfl
theorem q6g {α:Type} {f:α→T} {l m:List α}:Ac f l++Ac f m=Ac f (l++m):=by simp [Ac]
theorem Jb {α:Type} {f:α→T} {l:List α} {n:Nat} {x:α}:(Ac f l).set n [f x]=Ac f (l.set n x):=by simp [Ac,List.map_set]
theorem Cd {α:Type} {f:α→T}:Ac f []=[]:=rfl
@[simp] theorem qK2 {s:Nat}:Cm s []:=fun e h=>by cases h
def Ar {α:Type} (f:α→List T) (l:List α):List (List T):=l.map f
theorem Aa {α:Type} {f:α→List T} {l:List α}:(Ar f l).length=l.length:=by simp [Ar]
theorem E5 {α:Type} {f:α→List T} {l:List α} {i:Nat} (d:α) (h:i<l.length):(Ar f l)[i]?.getD []=f (l[i]?.getD d):=by simp [Ar,h]
theorem q3F {α:Type} {f:α→List T} {l:List α} {s:Nat} (h:∀ x,(f x).length=s):Cm s (Ar f l):=by
 intro e he; obtain ⟨x,_,rfl⟩:=List.mem_map.1 he; exact h x
theorem q3G {α:Type} {f:α→List T} {l m:List α}:Ar f l++Ar f m=Ar f (l++m):=by simp [Ar]
@[simp] theorem Ag {α:Type} {f:α→T} {l:List α}:(Ac f l).take l.length=Ac f l:=by rw [List.take_of_length_le (by simp [Ac])]
theorem Be {α:Type} {f:α→T} {l:List α} {x:α}:Ac f l++[[f x]]=Ac f (l++[x]):=by simp [Ac]
@[simp] theorem qB2 {α:Type} {f:α→List T} {l:List α}:(Ar f l).take l.length=Ar f l:=by rw [List.take_of_length_le (by simp [Ar])]
theorem q18 {α:Type} {f:α→List T} {l:List α} {x:α}:Ar f l++[f x]=Ar f (l++[x]):=by simp [Ar]
structure Sl (α:Type) where
 l:List α
 cap:Option Nat
 nl:Option Bool
abbrev tI (n:Int):T:=.v (.int .i64 n)
abbrev tK (n:Int):T:=.v (.int .u8 n)
abbrev tB (b:Bool):T:=.v (.bool b)
abbrev Av (l:List Int):List (List T):=Ac tI l
def B6 (s:Sl Int):T:=.sl (Av s.l) s.cap s.nl
@[simp] theorem qMA {cs:List AV}:U8 (.bx cs)=∀ c ∈ cs,Fv c:=rfl
@[simp] theorem qMB {s:ByteArray} {p:Nat}:U8 (.it s p)=True:=rfl
@[simp] theorem qL1 {ty s:Nat}:U8 (.sl ty s [])=True:=by simp [U8]
theorem q20 {α:Type} {f:α→T} {l:List α} {ty s:Nat} (h:∀ x,Au (f x)=true):U8 (.sl ty s (Ac f l)):=by
 intro e he t ht
 obtain ⟨x,_,rfl⟩:=List.mem_map.1 he
 simp only [List.mem_singleton] at ht; subst ht; exact h x
@[simp] theorem qNK {l:List Int} {ty s:Nat}:U8 (.sl ty s (Ac tI l))=True:=eq_true (q20 fun _=>rfl)
@[simp] theorem qNL {l:List Int} {ty s:Nat}:U8 (.sl ty s (Ac tK l))=True:=eq_true (q20 fun _=>rfl)
@[simp] theorem qNM {l:List Bool} {ty s:Nat}:U8 (.sl ty s (Ac tB l))=True:=eq_true (q20 fun _=>rfl)
section
variable {P:Program} {Γ:Tables} {hp:List (Nat × B9)} {f:FuncId} {avs:List AV} {K:T→Prop} {ts:List T} {res:T}
theorem A9 (h:Ab P Γ f ts res) (ht:Ah (avs.map toT)=some ts) (hk:K res):q4v P Γ hp f avs K ⟨⟩:=⟨res,.inl ⟨ts,ht,h⟩,hk⟩
theorem A1 (h:A3 P Γ f ts res) (ht:Ah (avs.map (Ai hp 4))=some ts) (hk:K res):q4v P Γ hp f avs K ⟨⟩:=⟨res,.inr ⟨ts,ht,h⟩,hk⟩
theorem Aq {ic:IC} {N n:Nat} {rvs:List RV} {args:List T} (hc:Ao P f ic N n rvs=true) (hn:args.length=n) (h:run P Γ ic (ret false rvs fun r=>r=res) ⟨params 0 args,[]⟩):Ab P Γ f args res:=by
 obtain ⟨r,h1,rfl⟩:=run_pure hc hn h; exact h1
theorem A7 {ic:IC} {N n:Nat} {rvs:List RV} {args:List T} (hc:Ao P f ic N n rvs=true) (hn:args.length=n) (h:run P Γ ic (ret true rvs fun r=>r=res) ⟨params 0 args,[]⟩):A3 P Γ f args res:=by
 obtain ⟨r,h1,rfl⟩:=qBa hc hn h; exact h1
theorem Gy {ic:IC} {N n:Nat} {rvs:List RV} {args:List AV} {r0:AV} {hp':List (Nat × B9)} (hc:Ao P f ic N n rvs=true) (hn:args.length=n) (h:run P Γ ic (qH2 rvs fun r h=>r=r0∧h=hp') ⟨qCS 0 args,hp⟩):F6 P Γ f hp args r0 hp':=by
 obtain ⟨r,h',h1,rfl,rfl⟩:=qIH hc hn h; exact h1
end
end Go.Lg
namespace Go.Lg
open Go
section
variable {P:Program} {Γ:Tables} {Q:AX→St→Prop} {s:St}
/- probecard/netlists.Check (function 19) -/
abbrev Zr:IC:=(.seq (.reg [od 1 (.box true (tm 0)),od 2 (.mv (ki 0))] [kp [1] []]) (.seq (.reg [od 6 (lG 4 1),od 7 (.call 75 [(tm 6)]),om 5 7,od 8 (ex 5 0),od 9 (ex 5 1),om 3 8,om 4 9] [kp [4] []]) (.seq (.reg [om 10 4,om 2 10] [kp [2]
 []]) .ret)))
def Zs:List RV:=[.tmp 2]
/- probecard/netlists.Of (function 74) -/
abbrev q3H:IC:=.gh (.seq (.reg [od 12 (.bin .lss (tm 11) (tm 10))] [kp [1,5,9,10,11,12] [23]]) (.seq (.cond (tm 12) .skip (.exit 0)) (.seq (.block 1 (.seq (.reg [om 13 11,od 14 (ia 4 9 11),od 15 (lG 4 14),od 7 (.alloc false [(.int .u8 0),
 (.slice none 0 0),(.int .i64 0),(.int .i64 0)]),om 6 13,on (.store 4 (tm 7) (tm 15))] [kp [1,5,6,7,9,10,11] [7,23]]) (.seq (.reg [om 16 1,od 17 (fa 0 7),od 18 (ld 1 17),od 19 (.call 136 [(tm 16),(tm 18)])] [kp [1,5,
 6,9,10,11,19] [23]]) (.cond (tm 19) (.reg [om 20 5,om 21 6,od 22 (.bsl true 3 1 [(tm 21)]),od 23 (.app false 3 1 (tm 20) (tm 22)),om 5 23] [kp [1,5,9,10,11] [23]]) .skip)))) (.reg [od 24 (.bin .add (tm 11) (ki 1)),om
 11 24] [kp [1,5,9,10,11] [23]])))) [kp [1,5,9,10,11] [23]]
def Qa:IC:=.loop q3H
abbrev q3I:IC:=(.seq (.reg [od 2 (.box true (tm 0)),od 4 (.mv kN)] [kp [1,2] []]) (.seq (.reg [od 5 (.mv kN)] [.nl 5 23 3 1,kp [1,2,5] [23]]) (.seq (.seq (.reg [od 8 (fa 0 2),od 9 (ld 1 8),od 10 (le 0 9),od 11 (.mv (ki 0))] [kp [1,5,9,
 10,11] [23]]) (.block 0 Qa)) (.seq (.reg [om 25 5,od 26 (.hcall 70 [(tm 25)] [23] 26000),om 4 26] [kp [4] [23]]) .ret))))
theorem Xy (h:∀ K:St→Prop,K=run P Γ Qa Q→run P Γ q3H (Am K Q) s):run P Γ Qa Q s:=Ae h
def q3J:List RV:=[.tmp 4]
/- probecard/netlists.States (function 18) -/
abbrev Xz:IC:=(.seq (.reg [od 1 (.box true (tm 0)),od 2 (.mv kN)] [kp [1] []]) (.seq (.reg [od 3 (lG 4 1),od 4 (.bsl true 43 1 [(ku 14)]),od 5 (.call 74 [(tm 3),(tm 4)]),om 2 5] [kp [2] []]) .ret))
def Y0:List RV:=[.tmp 2]
/- probecard/netlists.Comb (function 47) -/
abbrev q19:IC:=(.seq (.reg [od 2 (.mv kF)] [kp [0] []]) (.seq (.reg [om 3 0,od 4 (.bin .geq (tm 3) (ku 1)),om 5 4,oT 6 (.mv (tm 0)) 5,oT 7 (.bin .leq (tm 6) (ku 13)) 5,od 8 (.pick (tm 5) (tm 7) kF),om 2 8] [kp [2] []]) .ret))
def q1A:List RV:=[.tmp 2]
/- slices.Clip[[]int,int] (function 70) -/
abbrev Ol:IC:=(.seq (.reg [od 2 (.mv kN)] [kp [0] [1000000]]) (.seq (.reg [om 3 0,om 4 0,od 5 (le 0 4),om 6 0,od 7 (le 0 6),od 8 (.slice 1 (tm 3) none (some (tm 5)) (some (tm 7))),om 2 8] [kp [2] [1000000]]) .ret))
def Om:List RV:=[.tmp 2]
/- probecard/netlists.Levels (function 75) -/
def Ff:List RO:=[om 45 6,om 46 8,od 47 (ia 1 45 46),od 48 (ld 1 47),od 49 (.bin .eql (tm 48) (ki 0))]
def Nk:List RO:=[om 50 7,om 51 8,od 52 (.bsl true 3 1 [(tm 51)]),od 53 (.app false 3 1 (tm 50) (tm 52)),om 7 53]
def Nl:List RO:=[od 54 (.bin .add (tm 31) (ki 1)),om 31 54]
abbrev Y1:IC:=.gh (.seq (.reg [od 32 (.bin .lss (tm 31) (tm 30))] [kp [1,5,6,7,29,30,31,32] [23,27,53]]) (.seq (.cond (tm 32) .skip (.exit 0)) (.seq (.block 1 (.seq (.reg [om 33 31,od 34 (ia 4 29 31),od 35 (lG 4 34),od 9 (.alloc
 false [(.int .u8 0),(.slice none 0 0),(.int .i64 0),(.int .i64 0)]),om 8 33,on (.store 4 (tm 9) (tm 35))] [kp [1,5,6,7,8,9,29,30,31] [9,23,27,53]]) (.seq (.seq (.reg [od 36 (fa 0 9),od 37 (ld 1 36),od 38 (.call 47
 [(tm 37)])] [kp [1,5,6,7,8,9,29,30,31,38] [9,23,27,53]]) (.cond (tm 38) (.reg [om 39 6,om 40 8,od 41 (fa 1 9),od 42 (ld 1 41),od 43 (le 0 42),od 44 (ia 1 39 40),on (.store 1 (tm 44) (tm 43))] [kp [1,5,6,7,8,
 29,30,31] [23,27,53]]) .skip)) (.seq (.reg Ff [kp [1,5,6,7,8,29,30,31,49] [23,27,53]]) (.cond (tm 49) (.reg Nk [kp [1,5,6,7,29,30,31] [23,27,53]]) .skip))))) (.reg
 Nl [kp [1,5,6,7,29,30,31] [23,27,53]])))) [kp [1,5,6,7,29,30,31] [23,27,53]]
def Iu:IC:=.loop Y1
abbrev Y2:IC:=.gh (.seq (.reg [od 79 (.bin .lss (tm 78) (tm 77))] [kp [1,5,6,7,10,11,12,76,77,78,79] [23,27,53]]) (.seq (.cond (tm 79) .skip (.exit 4)) (.seq (.block 5 (.seq (.reg [od 80 (ia 2 76 78),od 81 (lG 2 80),od 14 (.alloc
 false [(.int .i64 0),(.int .i64 0)]),on (.store 2 (tm 14) (tm 81))] [kp [1,5,6,7,10,11,12,14,76,77,78] [14,23,27,53]]) (.seq (.seq (.reg [od 82 (fa 0 1),od 83 (ld 1 82),od 84 (fa 0 14),od 85 (ld 1 84),od 86 (ia 4
 83 85),od 87 (fa 0 86),od 88 (ld 1 87),od 89 (.call 47 [(tm 88)]),od 90 (.un .not (tm 89))] [kp [1,5,6,7,10,11,12,14,76,77,78,90] [14,23,27,53]]) (.cond (tm 90) (.exit 5) .skip)) (.seq (.reg [om 91 5,od 92 (fa 0
 14),od 93 (.ldR 14 1 false (tm 92)),om 94 5,od 95 (fa 0 14),od 96 (.ldR 14 1 false (tm 95)),od 97 (ia 1 94 96),od 98 (.ldR 23 1 false (tm 97)),om 99 5,om 100 12,od 101 (ia 1 99 100),od 102 (.ldR 23 1 false (tm 101)),od
 103 (.bin .add (tm 102) (ki 1)),od 104 (.mmx true [(tm 98),(tm 103)]),od 105 (ia 1 91 93),on (.stR 23 1 (tm 105) (tm 104))] [kp [1,5,6,7,10,11,12,14,76,77,78] [14,23,27,53]]) (.seq (.reg [om 106 6,od 107 (fa 0
 14),od 108 (ld 1 107),od 109 (ia 1 106 108),od 110 (ld 1 109),od 111 (.bin .sub (tm 110) (ki 1)),od 112 (ia 1 106 108),on (.store 1 (tm 112) (tm 111))] [kp [1,5,6,7,10,11,12,14,76,77,78] [14,23,27,53]]) (.seq
 (.reg [om 113 6,od 114 (fa 0 14),od 115 (ld 1 114),od 116 (ia 1 113 115),od 117 (ld 1 116),od 118 (.bin .eql (tm 117) (ki 0))] [kp [1,5,6,7,10,11,12,14,76,77,78,118] [14,23,27,53]]) (.cond (tm 118) (.reg [om 119
 7,od 120 (fa 0 14),od 121 (ld 1 120),od 122 (.bsl true 3 1 [(tm 121)]),oz 123 (.app false 3 1 (tm 119) (tm 122)) 53,om 7 123] [kp [1,5,6,7,10,11,12,76,77,78] [23,27,53]]) .skip))))))) (.reg [od 124 (.bin .add (tm
 78) (ki 1)),om 78 124] [kp [1,5,6,7,10,11,12,76,77,78] [23,27,53]])))) [kp [1,5,6,7,10,11,12,76,77,78] [23,27,53]]
def Iw:IC:=.loop Y2
abbrev Y3:IC:=.gh (.seq (.seq (.reg [om 57 11,om 58 7,od 59 (le 0 58),od 60 (.bin .lss (tm 57) (tm 59))] [kp [1,5,6,7,10,11,60] [23,27,53]]) (.cond (tm 60) .skip (.exit 2))) (.block 3 (.seq (.reg [om 61 7,om 62 11,od 63 (ia 1 61
 62),od 64 (ld 1 63),om 12 64] [kp [1,5,6,7,10,11,12] [23,27,53]]) (.seq (.reg [om 65 11,od 66 (.bin .add (tm 65) (ki 1)),om 11 66] [kp [1,5,6,7,10,11,12] [23,27,53]]) (.seq (.seq (.reg [om 67 10,om 68 12,od 69
 (ia 1 67 68),od 70 (ld 1 69),od 71 (le 0 70),od 72 (.bin .eql (tm 71) (ki 0))] [kp [1,5,6,7,10,11,12,72] [23,27,53]]) (.cond (tm 72) (.exit 3) .skip)) (.seq (.reg [om 73 10,om 74 12,od 75 (ia 1 73 74),od 76 (ld 1
 75),od 77 (le 0 76),od 78 (.mv (ki 0))] [kp [1,5,6,7,10,11,12,76,77,78] [23,27,53]]) (.block 4 Iw))))))) [kp [1,5,6,7,10,11] [23,27,53]]
def Ix:IC:=.loop Y3
abbrev Y4:IC:=(.seq (.reg [od 1 (.box true (tm 0)),od 2 (.mv kN),od 3 (.mv (ki 0))] [kp [1] []]) (.scope (.seq (.seq (.reg [od 15 (lG 4 1),od 16 (.call 137 [(tm 15)]),om 4 16] [kp [1,4] []]) (.seq (.reg [om 17 4,od 18 (.bin .neq (tm 17)
 (ki 0))] [kp [1,4,18] []]) (.cond (tm 18) (.seq (.reg [om 19 4,od 2 (.mv kN),om 3 19] [kp [2,3] [23]]) .ret) .skip))) (.seq (.reg [od 20 (fa 0 1),od 21 (ld 1 20),od 22 (le 0 21),od 23 (.mk 3 1 [(.int .i64 0)] (tm 22) (tm
 22)),om 5 23] [kp [1,5] [23]]) (.seq (.reg [od 24 (fa 0 1),od 25 (ld 1 24),od 26 (le 0 25),od 27 (.mk 3 1 [(.int .i64 0)] (tm 26) (tm 26)),om 6 27] [kp [1,5,6] [23,27]]) (.seq (.reg [od 7 (.mv kN)] [.nl 7 53 3 1,kp [1,5,
 6,7] [23,27,53]]) (.seq (.seq (.reg [od 28 (fa 0 1),od 29 (ld 1 28),od 30 (le 0 29),od 31 (.mv (ki 0))] [kp [1,5,6,7,29,30,31] [23,27,53]]) (.block 0 Iu)) (.seq (.reg [od 55 (lG 4 1),od 56 (.call 138
 [(tm 55)]),om 10 56] [kp [1,5,6,7,10] [23,27,53]]) (.seq (.reg [od 11 (.mv (ki 0))] [kp [1,5,6,7,10,11] [23,27,53]]) (.seq .skip (.seq (.block 2 Ix) (.seq (.seq (.reg [om 125 11,od 126 (fa 0 1),od
 127 (ld 1 126),od 128 (le 0 127),od 129 (.bin .lss (tm 125) (tm 128))] [kp [5,129] [23]]) (.cond (tm 129) (.seq (.reg [od 2 (.mv kN),od 3 (.mv (ki 6))] [kp [2,3] [23]]) .ret) .skip)) (.seq (.reg [om 130 5,om 2 130,od 3 (.mv
 (ki 0))] [kp [2,3] [23]]) .ret)))))))))))))
theorem Qb (h:∀ K:St→Prop,K=run P Γ Iu Q→run P Γ Y1 (Am K Q) s):run P Γ Iu Q s:=Ae h
theorem Qc (h:∀ K:St→Prop,K=run P Γ Iw Q→run P Γ Y2 (Am K Q) s):run P Γ Iw Q s:=Ae h
theorem Qd (h:∀ K:St→Prop,K=run P Γ Ix Q→run P Γ Y3 (Am K Q) s):run P Γ Ix Q s:=Ae h
attribute [simp] Ff Nk Nl
def Iy:List RV:=[.tmp 2,.tmp 3]
/- slices.Contains[[]probecard/api.Kind,probecard/api.Kind] (function 136) -/
abbrev Jo:IC:=(.seq (.reg [od 4 (.mv kF)] [kp [0,1] []]) (.seq (.reg [om 5 0,om 6 1,od 7 (.call 198 [(tm 5),(tm 6)]),od 8 (.bin .geq (tm 7) (ki 0)),om 4 8] [kp [4] []]) .ret))
def Jp:List RV:=[.tmp 4]
/- probecard/netlists.shape (function 137) -/
abbrev Zt:IC:=.gh (.seq (.reg [od 39 (.bin .lss (tm 38) (tm 37))] [kp [1,36,37,38,39] []]) (.seq (.cond (tm 39) .skip (.exit 1)) (.seq (.block 2 (.seq (.reg [od 40 (ia 4 36 38),od 41 (lG 4 40),od 4 (.alloc false [(.int .u8 0),(.slice none
 0 0),(.int .i64 0),(.int .i64 0)]),on (.store 4 (tm 4) (tm 41))] [kp [1,4,36,37,38] [4]]) (.seq (.reg [od 42 (lG 4 1),od 43 (lG 4 4),od 44 (.call 199 [(tm 42),(tm 43)]),om 5 44] [kp [1,5,36,37,38] []]) (.seq (.reg
 [om 45 5,od 46 (.bin .neq (tm 45) (ki 0))] [kp [1,5,36,37,38,46] []]) (.cond (tm 46) (.seq (.reg [om 47 5,om 2 47] [kp [2] []]) .ret) .skip))))) (.reg [od 48 (.bin .add (tm 38) (ki 1)),om 38 48] [kp [1,36,37,38] []]))))
 [kp [1,36,37,38] []]
def Jq:IC:=.loop Zt
abbrev Zu:IC:=.gh (.seq (.reg [od 58 (.bin .lss (tm 57) (tm 56))] [kp [1,55,56,57,58] []]) (.seq (.cond (tm 58) .skip (.exit 3)) (.seq (.block 4 (.seq (.reg [od 59 (ia 3 55 57),od 60 (lG 3 59),od 8 (.alloc false [(.slice none 0 0),(.slice
 none 0 0),(.int .i64 0)]),on (.store 3 (tm 8) (tm 60))] [kp [1,8,55,56,57] [8]]) (.seq (.reg [od 61 (lG 4 1),od 62 (lG 3 8),od 63 (.call 201 [(tm 61),(tm 62)]),om 9 63] [kp [1,9,55,56,57] []]) (.seq (.reg [om 64 9,od
 65 (.bin .neq (tm 64) (ki 0))] [kp [1,9,55,56,57,65] []]) (.cond (tm 65) (.seq (.reg [om 66 9,om 2 66] [kp [2] []]) .ret) .skip))))) (.reg [od 67 (.bin .add (tm 57) (ki 1)),om 57 67] [kp [1,55,56,57] []])))) [kp [1,55,
 56,57] []]
def Jr:IC:=.loop Zu
abbrev F3:IC:=(.seq (.reg [od 1 (.box true (tm 0)),od 2 (.mv (ki 0))] [kp [1] []]) (.seq (.block 0 (.seq (.reg [od 11 (fa 0 1),od 12 (ld 1 11),od 13 (le 0 12),od 14 (.bin .gtr (tm 13) (ki 16384)),om 15 14,oF 16 (fa 2 1) 15,oF 17 (ld 1 16)
 15,oF 18 (le 0 17) 15,oF 19 (.bin .gtr (tm 18) (ki 16)) 15,od 20 (.pick (tm 15) kT (tm 19)),om 21 20,oF 22 (fa 3 1) 21,oF 23 (ld 1 22) 21,oF 24 (le 0 23) 21,oF 25 (.bin .gtr (tm 24) (ki 16384)) 21,od 26 (.pick (tm 21) kT
 (tm 25)),om 10 26] [kp [1,10] []]) (.cond (tm 10) (.seq (.reg [od 2 (.mv (ki 3))] [kp [2] []]) .ret) (.seq (.reg [od 28 (fa 1 1),od 29 (ld 1 28),od 30 (le 0 29),od 31 (fa 0 1),od 32 (ld 1 31),od 33 (le 0 32),od 34 (.bin
 .neq (tm 30) (tm 33)),om 27 34] [kp [1,27] []]) (.cond (tm 27) (.seq (.reg [od 2 (.mv (ki 8))] [kp [2] []]) .ret) .skip))))) (.seq (.seq (.reg [od 35 (fa 0 1),od 36 (ld 1 35),od 37 (le 0 36),od 38 (.mv (ki 0))] [kp [1,36,37,
 38] []]) (.block 1 Jq)) (.seq (.seq (.reg [od 49 (lG 4 1),od 50 (.call 200 [(tm 49)]),om 6 50] [kp [1,6] []]) (.seq (.reg [om 51 6,od 52 (.bin .neq (tm 51) (ki 0))] [kp [1,6,52] []]) (.cond (tm 52) (.seq (.reg
 [om 53 6,om 2 53] [kp [2] []]) .ret) .skip))) (.seq (.seq (.reg [od 54 (fa 2 1),od 55 (ld 1 54),od 56 (le 0 55),od 57 (.mv (ki 0))] [kp [1,55,56,57] []]) (.block 3 Jr)) (.seq (.seq (.reg [od 68 (fa 3 1),od 69
 (ld 1 68),od 70 (lG 4 1),od 71 (.call 203 [(tm 70)]),od 72 (.call 202 [(tm 69),(tm 71)])] [kp [72] []]) (.cond (tm 72) (.seq (.reg [od 2 (.mv (ki 1))] [kp [2] []]) .ret) .skip)) (.seq (.reg [od 2 (.mv (ki 0))] [kp [2] []])
 .ret)))))))
theorem Rr (h:∀ K:St→Prop,K=run P Γ Jq Q→run P Γ Zt (Am K Q) s):run P Γ Jq Q s:=Ae h
theorem Rt (h:∀ K:St→Prop,K=run P Γ Jr Q→run P Γ Zu (Am K Q) s):run P Γ Jr Q s:=Ae h
def Ce:List RV:=[.tmp 2]
/- probecard/netlists.Fanout (function 138) -/
def Eb:List RO:=[om 37 3,om 38 8,om 39 3,om 40 8,od 41 (ia 1 39 40),od 42 (ld 1 41),om 43 5,om 44 7,od 45 (.build [(1,(tm 43)),(1,(tm 44))]),od 46 (.bsl true 190 2 [(tm 45)]),od 47 (.app false 190 2 (tm 42) (tm 46)),od 48 (ia 1 37
 38),on (.store 1 (tm 48) (tm 47))]
def Nn:List RO:=[od 49 (.bin .add (tm 28) (ki 1)),om 28 49]
abbrev Y5:IC:=.gh (.seq (.reg [od 29 (.bin .lss (tm 28) (tm 27))] [.keepB [3,4,5,18,19,20,26,27,28,29] [14] 100000 16384]) (.seq (.cond (tm 29) .skip (.exit 2)) (.seq (.block 3 (.seq (.reg [om 30 28,od 31 (ia 1 26 28),od 32 (ld 1 31),
 om 7 30,om 8 32] [.keepB [3,4,5,7,8,18,19,20,26,27,28] [14] 100000 16384]) (.seq (.reg [om 33 4,om 34 8,od 35 (.callv (tm 33) [(tm 34)]),od 36 (.un .not (tm 35))] [.keepB [3,4,5,7,8,18,19,20,26,27,28,36]
 [14] 100000 16384]) (.cond (tm 36) (.reg Eb [.renS 47 100000 8,.keepB [3,4,5,18,19,20,26,27,28] [14] 100000 16384]) .skip)))) (.reg Nn [.keepB [3,4,5,18,19,20,26,27,28] [14] 100000
 16384])))) [.keepB [3,4,5,18,19,20,26,27,28] [14] 100000 16384]
def Iz:IC:=.loop Y5
abbrev Y6:IC:=.gh (.seq (.reg [od 21 (.bin .lss (tm 20) (tm 19))] [.keepB [3,4,18,19,20,21] [14] 100000 16384]) (.seq (.cond (tm 21) .skip (.exit 0)) (.seq (.block 1 (.seq (.reg [om 22 20,od 23 (ia 4 18 20),od 24 (lG 4 23),od 6 (.alloc
 false [(.int .u8 0),(.slice none 0 0),(.int .i64 0),(.int .i64 0)]),om 5 22,on (.store 4 (tm 6) (tm 24))] [.keepB [3,4,5,6,18,19,20] [6,14] 100000 16384]) (.seq (.reg [od 25 (fa 1 6),od 26 (ld 1 25),od 27 (le 0 26),
 od 28 (.mv (ki 0))] [.keepB [3,4,5,18,19,20,26,27,28] [14] 100000 16384]) (.block 2 Iz)))) (.reg [od 50 (.bin .add (tm 20) (ki 1)),om 20 50] [.keepB [3,4,18,19,20] [14] 100000 16384])))) [.keepB [3,4,
 18,19,20] [14] 100000 16384]
def J0:IC:=.loop Y6
abbrev Y7:IC:=.gh (.seq (.reg [od 54 (.bin .lss (tm 53) (tm 52))] [kp [3,51,52,53,54] [14,47]]) (.seq (.cond (tm 54) .skip (.exit 4)) (.seq (.block 5 (.seq (.reg [om 55 53,od 56 (ia 1 51 53),od 57 (ld 1 56),om 9 55,om 10 57] [kp [3,9,
 10,51,52,53] [14,47]]) (.reg [om 58 3,om 59 9,om 60 10,od 61 (.call 204 [(tm 60)]),od 62 (ia 1 58 59),on (.store 1 (tm 62) (tm 61))] [kp [3,51,52,53] [14,47]]))) (.reg [od 63 (.bin .add (tm 53) (ki 1)),om 53 63] [kp
 [3,51,52,53] [14,47]])))) [kp [3,51,52,53] [14,47]]
def J1:IC:=.loop Y7
abbrev Y8:IC:=(.seq (.reg [od 1 (.box true (tm 0)),od 2 (.mv kN)] [kp [1] []]) (.seq (.reg [od 11 (fa 0 1),od 12 (ld 1 11),od 13 (le 0 12),od 14 (.mkB 188 [(.slice none 0 0)] (tm 13) (tm 13)),om 3 14] [.keepB [1,3] [14] 100000 16384])
 (.seq (.reg [od 15 (lG 4 1),od 16 (.call 203 [(tm 15)]),om 4 16] [.keepB [1,3,4] [14] 100000 16384]) (.seq (.seq (.reg [od 17 (fa 0 1),od 18 (ld 1 17),od 19 (le 0 18),od 20 (.mv (ki 0))] [.keepB [3,4,18,19,20] [14]
 100000 16384]) (.block 0 J0)) (.seq (.seq (.reg [om 51 3,od 52 (le 0 51),od 53 (.mv (ki 0))] [.frzs 100000 16384,kp [3,51,52,53] [14,47]]) (.block 4 J1)) (.seq (.reg [om 64 3,om 2 64] [kp [2]
 [14,47]]) .ret))))))
theorem Qe (h:∀ K:St→Prop,K=run P Γ Iz Q→run P Γ Y5 (Am K Q) s):run P Γ Iz Q s:=Ae h
theorem Qf (h:∀ K:St→Prop,K=run P Γ J0 Q→run P Γ Y6 (Am K Q) s):run P Γ J0 Q s:=Ae h
theorem Qg (h:∀ K:St→Prop,K=run P Γ J1 Q→run P Γ Y7 (Am K Q) s):run P Γ J1 Q s:=Ae h
attribute [simp] Eb Nn
def Y9:List RV:=[.tmp 2]
/- slices.Index[[]probecard/api.Kind,probecard/api.Kind] (function 198) -/
abbrev Nx:IC:=.gh (.seq (.reg [od 9 (.bin .lss (tm 8) (tm 7))] [kp [0,1,7,8,9] []]) (.seq (.cond (tm 9) .skip (.exit 0)) (.seq (.block 1 (.seq (.reg [om 10 8,om 5 10] [kp [0,1,5,7,8] []]) (.seq (.reg [om 11 1,om 12 0,om 13 5,od 14
 (ia 1 12 13),od 15 (ld 1 14),od 16 (.bin .eql (tm 11) (tm 15))] [kp [0,1,5,7,8,16] []]) (.cond (tm 16) (.seq (.reg [om 17 5,om 4 17] [kp [4] []]) .ret) .skip)))) (.reg [od 18 (.bin .add (tm 8) (ki 1)),om 8 18] [kp [0,1,
 7,8] []])))) [kp [0,1,7,8] []]
def Ek:IC:=.loop Nx
def Ha:List RO:=[od 4 (.mv (.const (.int .i64 (-1))))]
abbrev Ny:IC:=(.seq (.reg [od 4 (.mv (ki 0))] [kp [0,1] []]) (.seq (.seq (.reg [om 6 0,od 7 (le 0 6),od 8 (.mv (ki 0))] [kp [0,1,7,8] []]) (.block 0 Ek)) (.seq (.reg Ha [kp [4] []]) .ret)))
theorem Jc (h:∀ K:St→Prop,K=run P Γ Ek Q→run P Γ Nx (Am K Q) s):run P Γ Ek Q s:=Ae h
attribute [simp] Ha
def Dm:List RV:=[.tmp 4]
/- probecard/logic.Fanin (function 153) -/
abbrev Ya:IC:=(.seq (.reg [od 2 (.mv (ki 0)),od 3 (.mv (ki 0))] [kp [0] []]) (.seq (.seq (.reg [om 4 0,od 5 (.conv .i64 (tm 4)),od 6 (.bin .geq (tm 5) (ki 16))] [kp [0,6] []]) (.cond (tm 6) (.seq (.reg [od 2 (.mv (ki 0)),od 3 (.mv (.const
 (.int .i64 (-1))))] [kp [2,3] []]) .ret) .skip)) (.seq (.reg [om 7 0,od 8 (.iadrA 16 2 (.global 0) (tm 7)),od 9 (.iadrA 2 1 (tm 8) (ki 0)),od 10 (ld 1 9),om 11 0,od 12 (.iadrA 16 2 (.global 0) (tm 11)),od 13 (.iadrA 2 1 (tm
 12) (ki 1)),od 14 (ld 1 13),om 2 10,om 3 14] [kp [2,3] []]) .ret)))
def Yb:List RV:=[.tmp 2,.tmp 3]
/- strings.IndexByte (function 298) -/
abbrev Un:IC:=(.seq (.reg [od 4 (.mv (ki 0))] [kp [0,1] []]) (.seq (.reg [om 5 0,om 6 1,od 7 (.call 304 [(tm 5),(tm 6)]),om 4 7] [kp [4] []]) .ret))
def Uo:List RV:=[.tmp 4]
/- probecard/netlists.node (function 199) -/
abbrev q1B:IC:=(.seq (.reg [od 2 (.box true (tm 0)),od 3 (.box true (tm 1)),od 4 (.mv (ki 0))] [kp [2,3] []]) (.seq (.reg [od 9 (fa 0 3),od 10 (ld 1 9),od 11 (.call 153 [(tm 10)]),om 8 11,od 12 (ex 8 0),od 13 (ex 8 1),om 5 12,om 6 13]
 [kp [2,3,5,6] []]) (.seq (.reg [od 14 (.mkf 240 [(tm 2)]),om 7 14] [kp [2,3,5,6,7] []]) (.seq (.block 0 (.seq (.reg [od 16 (fa 0 3),od 17 (ld 1 16),od 18 (.bin .gtr (tm 17) (ku 15)),om 15 18] [kp [2,3,5,6,7,15] []])
 (.cond (tm 15) (.seq (.reg [od 4 (.mv (ki 7))] [kp [4] []]) .ret) (.seq (.reg [od 20 (fa 1 3),od 21 (ld 1 20),od 22 (le 0 21),om 23 5,od 24 (.bin .lss (tm 22) (tm 23)),om 25 24,oF 26 (fa 1 3) 25,oF 27 (ld 1 26) 25,oF 28 (le
 0 27) 25,oF 29 (.mv (tm 6)) 25,oF 30 (.bin .gtr (tm 28) (tm 29)) 25,od 31 (.pick (tm 25) kT (tm 30)),om 19 31] [kp [2,3,7,19] []]) (.cond (tm 19) (.seq (.reg [od 4 (.mv (ki 8))] [kp [4] []]) .ret) (.seq (.reg [od 33 (fa 1
 3),od 34 (ld 1 33),od 35 (lG 4 2),od 36 (.call 203 [(tm 35)]),od 37 (.call 202 [(tm 34),(tm 36)]),om 32 37] [kp [2,3,7,32] []]) (.cond (tm 32) (.seq (.reg [od 4 (.mv (ki 1))] [kp [4] []]) .ret) (.seq (.reg [od 39 (fa 0 3),
 od 40 (ld 1 39),od 41 (.bin .eql (tm 40) (ku 13)),om 42 41,oT 43 (fa 1 3) 42,oT 44 (ld 1 43) 42,oT 45 (.mv (tm 7)) 42,oT 46 (.call 202 [(tm 44),(tm 45)]) 42,od 47 (.pick (tm 42) (tm 46) kF),om 38 47] [kp [2,3,38] []])
 (.cond (tm 38) (.seq (.reg [od 4 (.mv (ki 7))] [kp [4] []]) .ret) (.seq (.reg [od 49 (lG 4 2),od 50 (lG 4 3),od 51 (.call 241 [(tm 49),(tm 50)]),od 52 (.un .not (tm 51)),om 48 52] [kp [48] []]) (.cond (tm 48) (.seq (.reg [od 4
 (.mv (ki 1))] [kp [4] []]) .ret) .skip))))))))))) (.seq (.reg [od 4 (.mv (ki 0))] [kp [4] []]) .ret)))))
def Dy:List RV:=[.tmp 4]
/- probecard/netlists.names (function 200) -/
abbrev Zv:IC:=.gh (.seq (.reg [od 11 (.bin .lss (tm 10) (tm 9))] [kp [3,8,9,10,11] [6]]) (.seq (.cond (tm 11) .skip (.exit 0)) (.seq (.block 1 (.seq (.reg [od 12 (ia 1 8 10),od 13 (ld 1 12),om 5 13] [kp [3,5,8,9,10] [6]]) (.seq (.seq
 (.reg [om 14 5,od 15 (.call 242 [(tm 14)]),od 16 (.un .not (tm 15)),om 17 16,oF 18 (.mv (tm 3)) 17,oF 19 (.mv (tm 5)) 17,oF 20 (.lkup .str (.bool false) false (tm 18) (tm 19)) 17,od 21 (.pick (tm 17) kT (tm 20))] [kp [3,5,
 8,9,10,21] [6]]) (.cond (tm 21) (.seq (.reg [od 2 (.mv (ki 5))] [kp [2] []]) .ret) .skip)) (.reg [om 22 3,om 23 5,on (.mup .str (tm 22) (tm 23) kT)] [kp [3,8,9,10] [6]])))) (.reg [od 24 (.bin .add (tm 10) (ki 1)),om 10 24]
 [kp [3,8,9,10] [6]])))) [kp [3,8,9,10] [6]]
def Js:IC:=.loop Zv
abbrev Zw:IC:=(.seq (.reg [od 1 (.box true (tm 0)),od 2 (.mv (ki 0))] [kp [1] []]) (.seq (.reg [od 6 (.mkmap),om 3 6] [kp [1,3] [6]]) (.seq (.seq (.reg [od 7 (fa 1 1),od 8 (ld 1 7),od 9 (le 0 8),od 10 (.mv (ki 0))] [kp [3,8,9,10] [6]])
 (.block 0 Js)) (.seq (.reg [od 2 (.mv (ki 0))] [kp [2] []]) .ret))))
theorem Ru (h:∀ K:St→Prop,K=run P Γ Js Q→run P Γ Zv (Am K Q) s):run P Γ Js Q s:=Ae h
def Qh:List RV:=[.tmp 2]
/- probecard/netlists.memory (function 201) -/
abbrev Yc:IC:=(.seq (.reg [od 2 (.box true (tm 0)),od 3 (.box true (tm 1)),od 4 (.mv (ki 0))] [kp [2,3] []]) (.seq (.reg [od 5 (.mv (.func 243))] [kp [2,3,5] []]) (.seq (.reg [od 7 (lG 4 2),od 8 (.call 203 [(tm 7)]),om 6 8] [kp [3,5,6]
 []]) (.seq (.block 0 (.seq (.reg [om 10 5,od 11 (fa 0 3),od 12 (ld 1 11),od 13 (.callv (tm 10) [(tm 12),(ki 8)]),om 14 13,oF 15 (.mv (tm 5)) 14,oF 16 (fa 1 3) 14,oF 17 (ld 1 16) 14,oF 18 (.callv (tm 15) [(tm 17),(ki 32)])
 14,od 19 (.pick (tm 14) kT (tm 18)),om 9 19] [kp [3,6,9] []]) (.cond (tm 9) (.seq (.reg [od 4 (.mv (ki 8))] [kp [4] []]) .ret) (.seq (.reg [od 21 (fa 0 3),od 22 (ld 1 21),om 23 6,od 24 (.call 202 [(tm 22),(tm 23)]),om 25
 24,oF 26 (fa 1 3) 25,oF 27 (ld 1 26) 25,oF 28 (.mv (tm 6)) 25,oF 29 (.call 202 [(tm 27),(tm 28)]) 25,od 30 (.pick (tm 25) kT (tm 29)),om 31 30,oF 32 (.mv (tm 6)) 31,oF 33 (fa 2 3) 31,oF 34 (ld 1 33) 31,oF 35 (.callv (tm
 32) [(tm 34)]) 31,od 36 (.pick (tm 31) kT (tm 35)),om 20 36] [kp [20] []]) (.cond (tm 20) (.seq (.reg [od 4 (.mv (ki 1))] [kp [4] []]) .ret) .skip))))) (.seq (.reg [od 4 (.mv (ki 0))] [kp [4] []]) .ret)))))
def Dv:List RV:=[.tmp 4]
/- slices.ContainsFunc[[]int,int] (function 202) -/
abbrev L1:IC:=(.seq (.reg [od 4 (.mv kF)] [kp [0,1] []]) (.seq (.reg [om 5 0,om 6 1,od 7 (.call 244 [(tm 5),(tm 6)]),od 8 (.bin .geq (tm 7) (ki 0)),om 4 8] [kp [4] []]) .ret))
def L2:List RV:=[.tmp 4]
/- probecard/netlists.outside (function 203) -/
abbrev W4:IC:=(.seq (.reg [od 1 (.box true (tm 0)),od 2 (.mv (.const .nilFunc))] [kp [1] []]) (.seq (.reg [od 3 (.mkf 245 [(tm 1)]),om 2 3] [kp [2] []]) .ret))
def W5:List RV:=[.tmp 2]
/- slices.Clip[[]probecard/api.Line,probecard/api.Line] (function 204) -/
abbrev P8:IC:=(.seq (.reg [od 2 (.mv kN)] [kp [0] []]) (.seq (.reg [om 3 0,om 4 0,od 5 (le 0 4),om 6 0,od 7 (le 0 6),od 8 (.slice 2 (tm 3) none (some (tm 5)) (some (tm 7))),om 2 8] [kp [2] []]) .ret))
def P9:List RV:=[.tmp 2]
/- internal/stringslite.IndexByte (function 304) -/
abbrev L6:IC:=(.seq (.reg [od 4 (.mv (ki 0))] [kp [0,1] []]) (.seq (.reg [om 5 0,om 6 1,od 7 (.call 305 [(tm 5),(tm 6)]),om 4 7] [kp [4] []]) .ret))
def L8:List RV:=[.tmp 4]
/- probecard/netlists.node$1 (function 240) -/
abbrev Yd:IC:=(.seq (.reg [od 3 (.mv kF)] [kp [0,1] []]) (.seq (.reg [od 4 (fa 0 1),od 5 (ld 1 4),om 6 0,od 7 (ia 4 5 6),od 8 (fa 0 7),od 9 (ld 1 8),od 10 (.bin .neq (tm 9) (ku 12)),om 3 10] [kp [3] []]) .ret))
def Ye:List RV:=[.tmp 3]
/- probecard/netlists.bit (function 241) -/
abbrev F7:IC:=(.seq (.reg [od 2 (.box true (tm 0)),od 3 (.box true (tm 1)),od 4 (.mv kF)] [kp [2,3] []]) (.seq (.seq (.reg [od 5 (fa 0 3),od 6 (ld 1 5),od 7 (.bin .neq (tm 6) (ku 15))] [kp [2,3,7] []]) (.cond (tm 7) (.seq (.reg [od 8 (fa
 2 3),od 9 (ld 1 8),od 10 (.bin .eql (tm 9) (ki 0)),om 11 10,oT 12 (fa 3 3) 11,oT 13 (ld 1 12) 11,oT 14 (.bin .eql (tm 13) (ki 0)) 11,od 15 (.pick (tm 11) (tm 14) kF),om 4 15] [kp [4] []]) .ret) .skip)) (.seq (.reg [od 16
 (fa 2 3),od 17 (ld 1 16),od 18 (.bin .geq (tm 17) (ki 0)),om 19 18,oT 20 (fa 2 3) 19,oT 21 (ld 1 20) 19,oT 22 (fa 2 2) 19,oT 23 (ld 1 22) 19,oT 24 (le 0 23) 19,oT 25 (.bin .lss (tm 21) (tm 24)) 19,od 26 (.pick (tm 19) (tm
 25) kF),om 27 26,oT 28 (fa 3 3) 27,oT 29 (ld 1 28) 27,oT 30 (.bin .geq (tm 29) (ki 0)) 27,od 31 (.pick (tm 27) (tm 30) kF),om 32 31,oT 33 (fa 3 3) 32,oT 34 (ld 1 33) 32,oT 35 (fa 2 2) 32,oT 36 (ld 1 35) 32,oT 37 (fa 2 3)
 32,oT 38 (ld 1 37) 32,oT 39 (ia 3 36 38) 32,oT 40 (fa 1 39) 32,oT 41 (ld 1 40) 32,oT 42 (le 0 41) 32,oT 43 (.bin .lss (tm 34) (tm 42)) 32,od 44 (.pick (tm 32) (tm 43) kF),om 4 44] [kp [4] []]) .ret)))
def F8:List RV:=[.tmp 4]
/- probecard/netlists.IsName (function 242) -/
abbrev J2:IC:=(.seq (.reg [od 2 (.mv kF)] [kp [0] []]) (.seq (.reg [od 3 (.mv (.func 268))] [kp [0,3] []]) (.seq (.reg [om 4 0,od 5 (.bin .neq (tm 4) (.const (sV []))),om 6 5,oT 7 (.mv (tm 0)) 6,oT 8 (le 1 7) 6,oT 9 (.bin .leq (tm 8) (ki
 32)) 6,od 10 (.pick (tm 6) (tm 9) kF),om 11 10,oT 12 (.mv (tm 0)) 11,oT 13 (.mv (tm 3)) 11,oT 14 (.call 270 [(tm 12),(tm 13)]) 11,oT 15 (.un .not (tm 14)) 11,od 16 (.pick (tm 11) (tm 15) kF),om 2 16] [kp [2] []]) .ret)))
def J3:List RV:=[.tmp 2]
/- probecard/netlists.memory$1 (function 243) -/
abbrev Up:IC:=(.seq (.reg [od 4 (.mv kF)] [kp [0,1] []]) (.seq (.reg [om 5 0,od 6 (le 0 5),od 7 (.bin .eql (tm 6) (ki 0)),om 8 7,oF 9 (.mv (tm 0)) 8,oF 10 (le 0 9) 8,oF 11 (.mv (tm 1)) 8,oF 12 (.bin .gtr (tm 10) (tm 11)) 8,od 13 (.pick
 (tm 8) kT (tm 12)),om 4 13] [kp [4] []]) .ret))
def Ur:List RV:=[.tmp 4]
/- slices.IndexFunc[[]int,int] (function 244) -/
abbrev Pe:IC:=.gh (.seq (.reg [od 9 (.bin .lss (tm 8) (tm 7))] [kp [0,1,7,8,9] []]) (.seq (.cond (tm 9) .skip (.exit 0)) (.seq (.block 1 (.seq (.reg [om 10 8,om 5 10] [kp [0,1,5,7,8] []]) (.seq (.reg [om 11 1,om 12 0,om 13 5,od 14
 (ia 1 12 13),od 15 (ld 1 14),od 16 (.callv (tm 11) [(tm 15)])] [kp [0,1,5,7,8,16] []]) (.cond (tm 16) (.seq (.reg [om 17 5,om 4 17] [kp [4] []]) .ret) .skip)))) (.reg [od 18 (.bin .add (tm 8) (ki 1)),om 8 18] [kp [0,1,7,
 8] []])))) [kp [0,1,7,8] []]
def F4:IC:=.loop Pe
abbrev Pg:IC:=(.seq (.reg [od 4 (.mv (ki 0))] [kp [0,1] []]) (.seq (.seq (.reg [om 6 0,od 7 (le 0 6),od 8 (.mv (ki 0))] [kp [0,1,7,8] []]) (.block 0 F4)) (.seq (.reg [od 4 (.mv (.const (.int .i64 (-1))))] [kp [4] []])
 .ret)))
theorem Jt (h:∀ K:St→Prop,K=run P Γ F4 Q→run P Γ Pe (Am K Q) s):run P Γ F4 Q s:=Ae h
def I0:List RV:=[.tmp 4]
/- probecard/netlists.outside$1 (function 245) -/
abbrev Rw:IC:=(.seq (.reg [od 3 (.mv kF)] [kp [0,1] []]) (.seq (.reg [om 4 0,od 5 (.bin .lss (tm 4) (ki 0)),om 6 5,oF 7 (.mv (tm 0)) 6,oF 8 (fa 0 1) 6,oF 9 (ld 1 8) 6,oF 10 (le 0 9) 6,oF 11 (.bin .geq (tm 7) (tm 10)) 6,od 12 (.pick (tm
 6) kT (tm 11)),om 3 12] [kp [3] []]) .ret))
def Rx:List RV:=[.tmp 3]
/- probecard/netlists.IsName$1 (function 268) -/
abbrev H3:IC:=(.seq (.reg [od 2 (.mv kF)] [kp [0] []]) (.seq (.reg [om 3 0,od 4 (.bin .leq (tm 3) (.const (.int .i32 32))),om 5 4,oF 6 (.mv (tm 0)) 5,oF 7 (.bin .gtr (tm 6) (.const (.int .i32 126))) 5,od 8 (.pick (tm 5) kT (tm 7)),om 9 8,
 oF 10 (.mv (tm 0)) 9,oF 11 (.call 269 [(.const (sV [40,41,61,44,35])),(tm 10)]) 9,od 12 (.pick (tm 9) kT (tm 11)),om 2 12] [kp [2] []]) .ret))
def H4:List RV:=[.tmp 2]
/- strings.ContainsRune (function 269) -/
abbrev Ph:IC:=(.seq (.reg [od 4 (.mv kF)] [kp [0,1] []]) (.seq (.reg [om 5 0,om 6 1,od 7 (.call 288 [(tm 5),(tm 6)]),od 8 (.bin .geq (tm 7) (ki 0)),om 4 8] [kp [4] []]) .ret))
def Pi:List RV:=[.tmp 4]
/- strings.ContainsFunc (function 270) -/
abbrev Pj:IC:=(.seq (.reg [od 4 (.mv kF)] [kp [0,1] []]) (.seq (.reg [om 5 0,om 6 1,od 7 (.call 289 [(tm 5),(tm 6)]),od 8 (.bin .geq (tm 7) (ki 0)),om 4 8] [kp [4] []]) .ret))
def Pl:List RV:=[.tmp 4]
/- strings.IndexRune (function 288) -/
abbrev Us:IC:=(.seq (.reg [od 4 (.mv (ki 0))] [kp [0,1] []]) (.block 0 (.seq (.reg [om 161 1,od 162 (.bin .leq (.const (.int .i32 0)) (tm 161)),om 163 162,oT 164 (.mv (tm 1)) 163,oT 165 (.bin .lss (tm 164) (.const (.int .i32 128))) 163,od
 166 (.pick (tm 163) (tm 165) kF),om 160 166] [kp [0,1,160] []]) (.cond (tm 160) (.seq (.reg [om 167 0,om 168 1,od 169 (.conv .u8 (tm 168)),od 170 (.call 298 [(tm 167),(tm 169)]),om 4 170] [kp [4] []]) .ret) (.seq (.reg [om
 172 1,od 173 (.bin .eql (tm 172) (.const (.int .i32 65533))),om 171 173] [kp [1,171] []]) (.cond (tm 171) .dead (.seq (.reg [om 184 1,od 185 (.call 299 [(tm 184)]),od 186 (.un .not (tm 185)),om 183 186] [kp [183] []]) (.cond
 (tm 183) .dead .dead))))))))
def Ut:List RV:=[.tmp 4]
/- strings.IndexFunc (function 289) -/
abbrev Uu:IC:=(.seq (.reg [od 4 (.mv (ki 0))] [kp [0,1] []]) (.seq (.reg [om 5 0,om 6 1,od 7 (.call 302 [(tm 5),(tm 6),kT]),om 4 7] [kp [4] []]) .ret))
def Uw:List RV:=[.tmp 4]
/- unicode/utf8.ValidRune (function 299) -/
abbrev Ux:IC:=.gh (.seq (.reg [od 11 (.nxt (tm 10)),od 12 (ex 11 0)] [kp [1,2,10,11,12] [10]]) (.seq (.cond (tm 12) .skip (.exit 0)) (.block 1 (.seq (.reg [od 13 (ex 11 1),od 14 (ex 11 2),om 7 13,om 8 14] [kp [1,2,7,8,10] [10]])
 (.seq (.reg [om 15 1,om 16 8,od 17 (.callv (tm 15) [(tm 16)]),om 18 2,od 19 (.eqb true (tm 17) (tm 18))] [kp [1,2,7,10,19] [10]]) (.cond (tm 19) (.seq (.reg [om 20 7,om 6 20] [kp [6] []]) .ret) .skip)))))) [kp [1,2,10]
 [10]]
def H5:IC:=.loop Ux
abbrev Uy:IC:=(.seq (.reg [od 6 (.mv (ki 0))] [kp [0,1,2] []]) (.seq (.seq (.reg [om 9 0,od 10 (.rng (tm 9))] [kp [1,2,10] [10]]) (.block 0 H5)) (.seq (.reg [od 6 (.mv (.const (.int .i64 (-1))))] [kp [6] []]) .ret)))
theorem Nz (h:∀ K:St→Prop,K=run P Γ H5 Q→run P Γ Ux (Am K Q) s):run P Γ H5 Q s:=Ae h
def L9:List RV:=[.tmp 6]
/- slices.Clone[[]int,int] (function 224) -/
end
end Go.Lg
namespace Go.Lg
open Go Go.Proofs
theorem q5l:Ao Tryz.prog 19 Zr 11 1 Zs=true:=by kernel_rfl
theorem q91:Ao Tryz.prog 74 q3I 27 2 q3J=true:=by kernel_rfl
theorem q4c:Ao Tryz.prog 18 Xz 6 1 Y0=true:=by kernel_rfl
theorem q6h:Ao Tryz.prog 47 q19 9 1 q1A=true:=by kernel_rfl
theorem W6:Ao Tryz.prog 70 Ol 9 1 Om=true:=by kernel_rfl
theorem q4d:Ao Tryz.prog 75 Y4 131 1 Iy=true:=by kernel_rfl
theorem Vr:Ao Tryz.prog 136 Jo 9 2 Jp=true:=by kernel_rfl
theorem q5m:Ao Tryz.prog 137 F3 73 1 Ce=true:=by kernel_rfl
theorem q4e:Ao Tryz.prog 138 Y8 65 1 Y9=true:=by kernel_rfl
theorem Zj:Ao Tryz.prog 198 Ny 19 2 Dm=true:=by kernel_rfl
theorem q92:Ao Tryz.prog 153 Ya 15 1 Yb=true:=by kernel_rfl
theorem q2s:Ao Tryz.prog 298 Un 8 2 Uo=true:=by kernel_rfl
theorem q6i:Ao Tryz.prog 199 q1B 53 2 Dy=true:=by kernel_rfl
theorem q5n:Ao Tryz.prog 200 Zw 25 1 Qh=true:=by kernel_rfl
theorem q4f:Ao Tryz.prog 201 Yc 37 2 Dv=true:=by kernel_rfl
theorem Xb:Ao Tryz.prog 202 L1 9 2 L2=true:=by kernel_rfl
theorem q3K:Ao Tryz.prog 203 W4 4 1 W5=true:=by kernel_rfl
theorem q0k:Ao Tryz.prog 204 P8 9 1 P9=true:=by kernel_rfl
theorem Xc:Ao Tryz.prog 304 L6 8 2 L8=true:=by kernel_rfl
theorem q4g:Ao Tryz.prog 240 Yd 11 2 Ye=true:=by kernel_rfl
theorem q7r:Ao Tryz.prog 241 F7 45 2 F8=true:=by kernel_rfl
theorem q4h:Ao Tryz.prog 242 J2 17 1 J3=true:=by kernel_rfl
theorem q2t:Ao Tryz.prog 243 Up 14 2 Ur=true:=by kernel_rfl
theorem q0l:Ao Tryz.prog 244 Pg 19 2 I0=true:=by kernel_rfl
theorem q21:Ao Tryz.prog 245 Rw 13 2 Rx=true:=by kernel_rfl
theorem q2u:Ao Tryz.prog 268 H3 13 1 H4=true:=by kernel_rfl
theorem q0m:Ao Tryz.prog 269 Ph 9 2 Pi=true:=by kernel_rfl
theorem q0n:Ao Tryz.prog 270 Pj 9 2 Pl=true:=by kernel_rfl
theorem q2v:Ao Tryz.prog 288 Us 187 2 Ut=true:=by kernel_rfl
theorem q2w:Ao Tryz.prog 289 Uu 8 2 Uw=true:=by kernel_rfl
theorem q2x:Ao Tryz.prog 302 Uy 21 3 L9=true:=by kernel_rfl
end Go.Lg
set_option maxRecDepth 100000
namespace Go.Lg
open Go Go.Proofs
variable {Γ:Tables}
theorem q6j (es:List (List T)) (cap:Option Nat) (nl:Option Bool) (hw:Cm 1 es):Ab Tryz.prog Γ 70 [.sl es cap nl] (.sl es (some es.length) nl):=by
 refine Aq W6 rfl ?_
 simp [Ol,Om,ret,hw]
theorem qBd (es:List (List T)) (cap:Option Nat) (nl:Option Bool) (hw:Cm 2 es):Ab Tryz.prog Γ 204 [.sl es cap nl] (.sl es (some es.length) nl):=by
 refine Aq q0k rfl ?_
 simp [P8,P9,ret,hw]
theorem qEy (ty:Nat) (es:List (List T)) (len:Nat) (cap:Option Nat) (hw:Cm 1 es):F6 Tryz.prog Γ 70 [(1000000,.sl ty 1 es)] [.ls 1000000 0 len cap] (.ls 1000000 0 len (some len)) [(1000000,.sl ty 1 es)]:=by
 refine Gy W6 rfl ?_
 simp [Ol,Om,qH2,hw]
def q0o {α:Type} (p:α→Bool) (l:List α):Int:=match l.findIdx? p with | some i=>i | none => -1
theorem q22 {α:Type} {p:α→Bool} {l:List α} {i:Nat} (hp:∀ j,j<i→∀ x,l[j]? = some x→p x=false) (x:α) (hx:l[i]? = some x) (h:p x=true):l.findIdx? p=some i:=by
 rw [List.findIdx?_eq_some_iff_getElem]
 have hi:=(List.getElem?_eq_some_iff.1 hx).1
 refine ⟨hi,?_,fun j hj=>?_⟩
 ·have:=(List.getElem?_eq_some_iff.1 hx).2; rw [this]; exact h
 ·have:=hp j hj l[j] (List.getElem?_eq_getElem (by omega))
  simp [this]
theorem q2R (l:List Int) (c:Option Nat) (nl:Option Bool) (x:Int) (hl:l.length≤1000000000):∀ (k i:Nat),k+i=l.length→(∀ j,j<i→∀ y,l[j]? = some y→(y == x)=false) →
  run Tryz.prog Γ Ek (Nj 0 (Am (run Tryz.prog Γ (.seq (.reg Ha [.keep [4] []]) .ret) (ret true Dm fun r=>r=tI (q0o (· == x) l))) (ret true Dm fun r=>r=tI (q0o (· == x) l)))) ⟨[(0,.t (.sl (Ac tK l) c nl)),(1,.t (tK x)),(7,.t (tI l.length)),(8,.t (tI i))],[]⟩
 | 0,i,h,hp=>by
  refine Jc fun K hK=>?_
  have h2:¬ i<l.length:=by omega
  simp (disch:=omega) [A0,By (0:Int),A6,A4,h2,ret,Dm,Dl,Fz,Fv,Au]
  have:l.findIdx? (· == x)=none:=by
   rw [List.findIdx?_eq_none_iff]
   intro y hy
   obtain ⟨j,hj,rfl⟩:=List.getElem_of_mem hy
   exact hp j (by omega) _ (List.getElem?_eq_getElem hj)
  have e:l.findIdx? (fun y=>decide (y=x))=_:=this
  simp [q0o,e]
 | k+1,i,h,hp=>by
  refine Jc fun K hK=>?_
  have h2:i<l.length:=by omega
  simp (disch:=omega) [A0,By (0:Int),A6,A4,h2]
  refine ⟨fun hc=>?_,fun hc=>?_⟩
  ·simp [Bj,ret,Dm,Dl,Fz,Fv,Au]
   have:=q22 (p:=(· == x)) hp l[i] (List.getElem?_eq_getElem h2) (by simp [hc])
   have e:l.findIdx? (fun y=>decide (y=x))=_:=this
   simp [q0o,e]
  ·simp (disch:=omega) [Bj,A4]
   rw [hK]
   exact_mod_cast q2R l c nl x hl k (i+1) (by omega) (fun j hj y hy=>by
    rcases Nat.lt_succ_iff_lt_or_eq.1 hj with hj | rfl
    ·exact hp j hj y hy
    ·rw [List.getElem?_eq_getElem h2] at hy; simp at hy; subst hy
     simp; exact fun e=>hc e.symm)
theorem qEz (l:List Int) (c:Option Nat) (nl:Option Bool) (x:Int) (hl:l.length≤1000000000):A3 Tryz.prog Γ 198 [.sl (Ac tK l) c nl,tK x] (tI (q0o (· == x) l)):=by
 refine A7 Zj rfl ?_
 simp (disch:=omega) [Ny,A0,A4]
 exact_mod_cast q2R l c nl x hl l.length 0 (by omega) (by simp)
theorem qB3 (l:List Int) (c:Option Nat) (nl:Option Bool) (x:Int) (hl:l.length≤1000000000):A3 Tryz.prog Γ 136 [.sl (Ac tK l) c nl,tK x] (tB (l.contains x)):=by
 refine A7 Vr rfl ?_
 simp (disch:=omega) [Jo,A0,A4]
 refine A1 (qEz l c nl x hl) rfl ?_
 simp [ret,Jp,Dl,Fz,Fv,Au]
 unfold q0o
 cases h:l.findIdx? (· == x) with
 | none =>
  rw [List.findIdx?_eq_none_iff] at h
  have:¬ x ∈ l:=fun hx=>by simpa using h x hx
  simp [this]
 | some i =>
  rw [List.findIdx?_eq_some_iff_getElem] at h
  obtain ⟨hi,h1,_⟩:=h
  have:x ∈ l:=by rw [← (show l[i]=x by simpa using h1)]; exact List.getElem_mem hi
  simp [this]
theorem Pm {cs:List T}:Ah (cs.map fun t=>some t)=some cs:=by
 induction cs with
 | nil=>rfl
 | cons t cs ih=>simp only [List.map_cons,Ah,ih,Option.map_some]
theorem Yf {hp:List (Nat × B9)} {f:FuncId} {K:T→Prop} {cs:List T} {t res:T} (h:A3 Tryz.prog Γ f (t::cs) res) (hk:K res):q4v Tryz.prog Γ hp f (.t t::cs.map .t) K ⟨⟩ :=
 A1 h (by simp only [List.map_cons,List.map_map,Function.comp_def,Ah,Ai]; rw [Pm]; rfl) hk
theorem q3L {Q:AX→St→Prop} (l:List Int) (c:Option Nat) (nl:Option Bool) (f:FuncId) (cs:List T) (p:Int→Bool) (hp:∀ x ∈ l,A3 Tryz.prog Γ f (tI x::cs) (tB (p x))) (hl:l.length≤1000000000)
  (h0:(∀ x ∈ l,p x=false)→Q (.exit 0) ⟨[(0,.t (.sl (Av l) c nl)),(1,.t (.fn f cs)),(7,.t (tI l.length)),(8,.t (tI l.length)),(9,.t (tB false))],[]⟩)
  (h1:∀ i:Nat,l.findIdx? p=some i→Q .ret ⟨[(4,.t (tI i))],[]⟩):∀ (k i:Nat),k+i=l.length→(∀ j,j<i→∀ y,l[j]? = some y→p y=false) →
  run Tryz.prog Γ F4 Q ⟨[(0,.t (.sl (Av l) c nl)),(1,.t (.fn f cs)),(7,.t (tI l.length)),(8,.t (tI i))],[]⟩
 | 0,i,h,hq=>by
  refine Jt fun K hK=>?_
  have h2:¬ i<l.length:=by omega
  simp (disch:=omega) [A0,By (0:Int),A6,A4,h2]
  have h3:i=l.length:=by omega
  subst h3
  refine h0 fun y hy=>?_
  obtain ⟨j,hj,rfl⟩:=List.getElem_of_mem hy
  exact hq j (by omega) _ (List.getElem?_eq_getElem hj)
 | k+1,i,h,hq=>by
  refine Jt fun K hK=>?_
  have h2:i<l.length:=by omega
  simp (disch:=omega) [A0,By (0:Int),A6,A4,h2]
  refine Yf (hp l[i] (List.getElem_mem h2)) ?_
  simp
  refine ⟨fun hc=>?_,fun hc=>?_⟩
  ·simp [Bj]
   exact h1 i (q22 hq l[i] (List.getElem?_eq_getElem h2) hc)
  ·simp (disch:=omega) [Bj,A4]
   rw [hK]
   exact_mod_cast q3L l c nl f cs p hp hl h0 h1 k (i+1) (by omega) (fun j hj y hy=>by
    rcases Nat.lt_succ_iff_lt_or_eq.1 hj with hj | rfl
    ·exact hq j hj y hy
    ·rw [List.getElem?_eq_getElem h2] at hy; simp at hy; subst hy; exact hc)
theorem qB4 (l:List Int) (c:Option Nat) (nl:Option Bool) (f:FuncId) (cs:List T) (p:Int→Bool) (hp:∀ x ∈ l,A3 Tryz.prog Γ f (tI x::cs) (tB (p x))) (hl:l.length≤1000000000):A3 Tryz.prog Γ 244 [.sl (Av l) c nl,.fn f cs] (tI (q0o p l)):=by
 refine A7 q0l rfl ?_
 simp (disch:=omega) [Pg,A0,A4]
 refine q3L l c nl f cs p hp hl (fun h=>?_) (fun i h=>?_) l.length 0 (by omega) (by simp)
 ·have:l.findIdx? p=none:=List.findIdx?_eq_none_iff.2 h
  simp [ret,I0,Dl,Fz,Fv,Au,q0o,this]
 ·simp [ret,I0,Dl,Fz,Fv,Au,q0o,h]
theorem q1C (l:List Int) (c:Option Nat) (nl:Option Bool) (f:FuncId) (cs:List T) (p:Int→Bool) (hp:∀ x ∈ l,A3 Tryz.prog Γ f (tI x::cs) (tB (p x))) (hl:l.length≤1000000000):A3 Tryz.prog Γ 202 [.sl (Av l) c nl,.fn f cs] (tB (l.any p)):=by
 refine A7 Xb rfl ?_
 simp (disch:=omega) [L1,A0,A4]
 refine A1 (qB4 l c nl f cs p hp hl) rfl ?_
 simp [ret,L2,Dl,Fz,Fv,Au]
 unfold q0o
 cases h:l.findIdx? p with
 | none =>
  rw [List.findIdx?_eq_none_iff] at h
  have:l.any p=false:=by rw [List.any_eq_false]; intro x hx; simp [h x hx]
  simp [this]
 | some i =>
  rw [List.findIdx?_eq_some_iff_getElem] at h
  obtain ⟨hi,h1,_⟩:=h
  have:l.any p=true:=List.any_eq_true.2 ⟨_,List.getElem_mem hi,h1⟩
  simp [this]
theorem q7s (k:Int):A3 Tryz.prog Γ 47 [tK k] (tB (decide (1≤k∧k≤13))):=by
 refine A7 q6h rfl ?_
 by_cases h1:1≤k <;> by_cases h2:k≤13 <;> simp [q19,ret,q1A,Dl,Fz,Fv,Au,h1,h2]
structure Nd where
 k:Int
 inn:Sl Int
 mem:Int
 bit:Int
structure Mm where
 addr:Sl Int
 data:Sl Int
 write:Int
structure B0 where
 nodes:Sl Nd
 names:Sl (List UInt8)
 mems:Sl Mm
 outs:Sl Int
def Dn (x:Nd):List T:=[tK x.k,B6 x.inn,tI x.mem,tI x.bit]
def tMm (m:Mm):List T:=[B6 m.addr,B6 m.data,tI m.write]
def tS (l:List UInt8):T:=.v (sV l)
def A5 (s:Sl Nd):T:=.sl (Ar Dn s.l) s.cap s.nl
def A8 (s:Sl (List UInt8)):T:=.sl (Ac tS s.l) s.cap s.nl
def Ad (s:Sl Mm):T:=.sl (Ar tMm s.l) s.cap s.nl
def tC (c:B0):List T:=[A5 c.nodes,A8 c.names,Ad c.mems,B6 c.outs]
def Nd.d:Nd:=⟨0,⟨[],none,none⟩,0,0⟩
def Mm.d:Mm:=⟨⟨[],none,none⟩,⟨[],none,none⟩,0⟩
theorem Bf {l:List Nd}:Cm 4 (Ar Dn l):=q3F fun _=>rfl
theorem Qi {l:List Mm}:Cm 3 (Ar tMm l):=q3F fun _=>rfl
structure CirOk (c:B0):Prop where
 nodes:c.nodes.l.length≤1000000000
 names:c.names.l.length≤1000000000
 mems:c.mems.l.length≤1000000000
 outs:c.outs.l.length≤1000000000
 kind:∀ x ∈ c.nodes.l,0≤x.k∧x.k≤255
 inn:∀ x ∈ c.nodes.l,x.inn.l.length≤1000000000
 addr:∀ m ∈ c.mems.l,m.addr.l.length≤1000000000∧m.data.l.length≤1000000000
def Qj (c:B0) (n:Int):Bool:=decide (n<0∨(c.nodes.l.length:Int)≤n)
theorem q0p (c:B0) (n:Int) (hc:c.nodes.l.length≤1000000000):A3 Tryz.prog Γ 245 [tI n,.ip (tC c) 0] (tB (Qj c n)):=by
 refine A7 q21 rfl ?_
 by_cases h1:n<0 <;> simp (disch:=omega) [Rw,ret,Rx,Dl,Fz,Fv,Au,h1,tC,A5,Aa,A4,Qj]
theorem Xd (c:B0):Ab Tryz.prog Γ 203 [.agg (tC c)] (.fn 245 [.ip (tC c) 0]):=by
 refine Aq q3K rfl ?_
 simp [W4,ret,W5,tC,C7,D3,T.one,AV.one,A5,A8,Ad,B6]
theorem Zx (c:B0) (hc:c.nodes.l.length≤1000000000) (l:List Int) (cap:Option Nat) (nl:Option Bool) (hl:l.length≤1000000000):A3 Tryz.prog Γ 202 [.sl (Av l) cap nl,.fn 245 [.ip (tC c) 0]] (tB (l.any (Qj c))) :=
 q1C l cap nl _ _ _ (fun x _=>q0p c x hc) hl
def qA3:List (Int × Int):=[(0,0),(0,0),(0,0),(1,1),(1,1),(2,16),(2,16),(2,16),(2,16),(2,16),(2,16),(3,3),(2,2),(1,16),(1,1),(0,0)]
def qH3:List T:=qA3.flatMap fun p=>[tI p.1,tI p.2]
def Vs (k:Int):Int × Int:=if 16≤k then (0,-1) else qA3.getD k.toNat (0,0)
def GOk (Γ:Tables):Prop:=Γ 0=some qH3
theorem Dc (hΓ:GOk Γ) (k:Int) (h0:0≤k) (h1:k≤255):A3 Tryz.prog Γ 153 [tK k] (.tup [tI (Vs k).1,tI (Vs k).2]):=by
 unfold GOk at hΓ
 refine A7 q92 rfl ?_
 by_cases h2:16≤k
 ·simp (disch:=omega) [Ya,ret,Yb,Dl,Fz,Fv,Au,h2,A4,Vs]
 ·have h3:k=0∨k=1∨k=2∨k=3∨k=4∨k=5∨k=6∨k=7∨k=8∨k=9∨k=10∨k=11∨k=12∨k=13∨k=14∨k=15:=by omega
  rcases h3 with rfl | rfl | rfl | rfl | rfl | rfl | rfl | rfl | rfl | rfl | rfl | rfl | rfl | rfl | rfl | rfl <;>
  simp (disch:=omega) [Ya,ret,Yb,Dl,Fz,Fv,Au,A4,Vs,hΓ,qH3,qA3] <;> exact ⟨rfl,rfl⟩
def q1D (c:B0) (x:Nd):Bool :=
 if x.k ≠ 15 then decide (x.mem=0∧x.bit=0)
 else decide (0≤x.mem∧x.mem<c.mems.l.length∧0≤x.bit∧x.bit<((c.mems.l.getD x.mem.toNat Mm.d).data.l.length))
theorem qIL (c:B0) (x:Nd) (hc:CirOk c):A3 Tryz.prog Γ 241 [.agg (tC c),.agg (Dn x)] (tB (q1D c x)):=by
 refine A7 q7r rfl ?_
 have hm:=hc.mems
 by_cases h1:x.k=15
 ·by_cases h2:0≤x.mem
  ·by_cases h3:x.mem<c.mems.l.length
   ·have h3':x.mem.toNat<c.mems.l.length:=by omega
    by_cases h4:0≤x.bit
    ·simp (disch:=omega) [F7,ret,F8,Dl,Fz,Fv,Au,C7,D3,T.one,AV.one,tC,Dn,A5,A8,Ad,B6,h1,h2,h3,h4,h3',Aa,E5 Mm.d,A4,Qi,tMm,A0,q1D]
    ·simp (disch:=omega) [F7,ret,F8,Dl,Fz,Fv,Au,C7,D3,T.one,AV.one,tC,Dn,A5,A8,Ad,B6,h1,h2,h3,h4,h3',Aa,E5 Mm.d,A4,Qi,tMm,A0,q1D]
   ·simp (disch:=omega) [F7,ret,F8,Dl,Fz,Fv,Au,C7,D3,T.one,AV.one,tC,Dn,A5,A8,Ad,B6,h1,h2,h3,Aa,E5 Mm.d,A4,Qi,tMm,A0,q1D]
  ·simp (disch:=omega) [F7,ret,F8,Dl,Fz,Fv,Au,C7,D3,T.one,AV.one,tC,Dn,A5,A8,Ad,B6,h1,h2,Aa,E5 Mm.d,A4,Qi,tMm,A0,q1D]
 ·by_cases h2:x.mem=0
  ·simp (disch:=omega) [Bj,F7,F8,tC,Dn,A5,A8,Ad,B6,h1,h2,q1D,-decide_eq_decide]
  ·have h2':(x.mem == 0)=false:=by simpa using h2
   simp (disch:=omega) [Bj,F7,F8,tC,Dn,A5,A8,Ad,B6,h1,h2,h2',q1D]
def Vt (l:List Int) (most:Int):Bool:=decide (l.length=0∨most<l.length)
theorem q6k (l:List Int) (cap:Option Nat) (nl:Option Bool) (most:Int) (hl:l.length≤1000000000):A3 Tryz.prog Γ 243 [.sl (Av l) cap nl,tI most] (tB (Vt l most)):=by
 refine A7 q2t rfl ?_
 by_cases h:l.length=0 <;> simp (disch:=omega) [Up,ret,Ur,Dl,Fz,Fv,Au,A0,h,Vt,A4]
def q3M (c:B0) (n:Int):Bool:=decide ((c.nodes.l.getD n.toNat Nd.d).k ≠ 12)
theorem qF0 (c:B0) (n:Int) (h0:0≤n) (h1:n<c.nodes.l.length):A3 Tryz.prog Γ 240 [tI n,.ip (tC c) 0] (tB (q3M c n)):=by
 refine A7 q4g rfl ?_
 have h2:n.toNat<c.nodes.l.length:=by omega
 simp (disch:=omega) [Yd,ret,Ye,Dl,Fz,Fv,Au,tC,A5,Aa,E5 Nd.d,Bf,h0,h1,h2,q3M,Dn]
def Dq (c:B0) (x:Nd):Int :=
 if 15<x.k then 7 else if (x.inn.l.length:Int)<(Vs x.k).1∨(Vs x.k).2<x.inn.l.length then 8 else if x.inn.l.any (Qj c) then 1
 else if x.k=13∧x.inn.l.any (q3M c)=true then 7 else if q1D c x=false then 1 else 0
theorem q4P {c:B0} {l:List Int} (h:l.any (Qj c)=false):∀ n ∈ l,0≤n∧n<c.nodes.l.length:=by
 intro n hn
 have:=List.any_eq_false.1 h n hn
 simp only [Qj,decide_eq_true_eq,not_or,Int.not_lt,Int.not_le] at this
 exact this
theorem qH4 (hΓ:GOk Γ) (c:B0) (x:Nd) (hc:CirOk c) (hk:0≤x.k∧x.k≤255) (hl:x.inn.l.length≤1000000000):A3 Tryz.prog Γ 199 [.agg (tC c),.agg (Dn x)] (tI (Dq c x)):=by
 refine A7 q6i rfl ?_
 have hn:=hc.nodes
 have e1:=Zx (Γ:=Γ) c hn x.inn.l x.inn.cap x.inn.nl hl
 have e2:=Dc hΓ x.k hk.1 hk.2
 have e3:=Xd (Γ:=Γ) c
 have e4:=qIL (Γ:=Γ) c x hc
 simp (disch:=omega) [q1B,C7,D3,T.one,AV.one,tC,Dn,A5,A8,Ad,B6]
 refine A1 e2 rfl ?_
 simp (disch:=omega)
 simp
 refine ⟨fun h1=>?_,fun h1=>?_⟩
 ·simp [Bj,ret,Dy,Dl,Fz,Fv,Au,Dq,h1]
 by_cases h2:(x.inn.l.length:Int)<(Vs x.k).1
 ·simp (disch:=omega) [Bj,A0,A4,h2,ret,Dy,Dl,Fz,Fv,Au,Dq,h1]
 by_cases h3:(Vs x.k).2<x.inn.l.length
 ·simp (disch:=omega) [Bj,A0,A4,h2,h3,ret,Dy,Dl,Fz,Fv,Au,Dq,h1]
 simp (disch:=omega) [Bj,A0,A4,h2,h3]
 refine A9 e3 rfl ?_
 simp (disch:=omega)
 refine A1 e1 rfl ?_
 simp (disch:=omega) [-List.any_eq_true,-List.any_eq_false]
 refine ⟨fun h4=>?_,fun h4=>?_⟩
 ·simp [-List.any_eq_true,-List.any_eq_false,Bj,ret,Dy,Dl,Fz,Fv,Au,Dq,h1,h2,h3,h4]
 have h4':x.inn.l.any (Qj c)=false:=h4
 by_cases h5:x.k=13
 ·have e5:=q1C (Γ:=Γ) x.inn.l x.inn.cap x.inn.nl 240 [.ip (tC c) 0] (q3M c) (fun n hm=>qF0 c n (q4P h4' n hm).1 (q4P h4' n hm).2) hl
  simp (disch:=omega) [Bj,h5]
  refine A1 e5 rfl ?_
  simp [-List.any_eq_true,-List.any_eq_false]
  refine ⟨fun h6=>?_,fun h6=>?_⟩
  ·have h6':x.inn.l.any (q3M c)=true:=h6
   simp [-List.any_eq_true,-List.any_eq_false,Bj,ret,Dy,Dl,Fz,Fv,Au,Dq,h1,h2,h3,h4',h5,h6']
   simp [h5] at h2 h3; omega
  ·have h6':x.inn.l.any (q3M c)=false:=h6
   have e:Dq c x=if q1D c x=false then 1 else 0:=by
    unfold Dq
    rw [if_neg (by omega),if_neg (by omega),if_neg (by simp [h4']),if_neg (by simp [h6'])]
   rw [e]
   simp (disch:=omega) [Bj,h6']
   rw [show Dn x=[tK 13,B6 x.inn,tI x.mem,tI x.bit] from by simp [Dn,h5]] at e4
   refine A1 e4 rfl ?_
   simp
   refine ⟨fun h7=>?_,fun h7=>?_⟩ <;> simp [Bj,Dy,h7]
 ·have e:Dq c x=if q1D c x=false then 1 else 0:=by
   unfold Dq
   rw [if_neg (by omega),if_neg (by omega),if_neg (by simp [h4']),if_neg (by simp [h5])]
  rw [e]
  simp (disch:=omega) [Bj,h5]
  refine A1 e4 rfl ?_
  simp
  refine ⟨fun h7=>?_,fun h7=>?_⟩ <;> simp [Bj,Dy,h7]
theorem qP1:(Tryz.prog.funcs[305]?).map (fun f=>(f.name,f.body.isNone,f.origin))=some ("internal/bytealg.IndexByteString",true, ""):=by kernel_rfl
abbrev tR (n:Int):T:=.v (.int .i32 n)
theorem q3N (s:ByteArray) (c:Int):A3 Tryz.prog Γ 305 [.v (.string s),tK c] (tI (Lib.indexByte s.data.toList c.toNat.toUInt8)):=by
 intro w X vs hg hx hts
 obtain ⟨x,xs,rfl,h1,h2⟩:=hts.cons_inv
 obtain ⟨y,ys,rfl,h3,h4⟩:=h2.cons_inv
 have:=h4.nil_inv; subst this
 cases h1; cases h3
 refine .inr ⟨.int .i64 (Lib.indexByte s.data.toList c.toNat.toUInt8),?_,RowKit.Below.refl _ _,.v _⟩
 have h:=qP1
 simp only [Option.map_eq_some_iff,Prod.mk.injEq] at h
 obtain ⟨fn,hf,hn,hb,ho⟩:=h
 have e1:Extern.findNext fn=none:=by
  simp only [Extern.findNext,hn,ho]
  have a:Extern.allNextRows.lookup "internal/bytealg.IndexByteString" = none:=by kernel_rfl
  have b:Extern.allNextRows.lookup "" = none:=by kernel_rfl
  rw [a,b]; rfl
 have e2:Extern.find fn=some Extern.BytealgIndexByte.indexByte:=by
  simp only [Extern.find,hn,ho]
  have a:Extern.allGenericRows.lookup "internal/bytealg.IndexByteString" = none:=by kernel_rfl
  have b:Extern.allTypedRows.lookup "internal/bytealg.IndexByteString" = none:=by kernel_rfl
  have c:Extern.allRows.lookup "internal/bytealg.IndexByteString" = some Extern.BytealgIndexByte.indexByte:=by kernel_rfl
  rw [a,b,c]; rfl
 have hnn:¬ fn.name = "runtime.NumGoroutine" := by rw [hn]; decide
 have hr:=Lib.run_indexByteString (P:=Tryz.prog) s c w
 have hb':fn.body=none:=by simpa using hb
 simp [callFunc,hf,hnn,hb',e1,e2,hr]
theorem qH5 (s:ByteArray) (c:Int):A3 Tryz.prog Γ 304 [.v (.string s),tK c] (tI (Lib.indexByte s.data.toList c.toNat.toUInt8)):=by
 refine A7 Xc rfl ?_
 simp [L6]
 refine A1 (q3N s c) rfl ?_
 simp [L8]
theorem qA4 (s:ByteArray) (c:Int):A3 Tryz.prog Γ 298 [.v (.string s),tK c] (tI (Lib.indexByte s.data.toList c.toNat.toUInt8)):=by
 refine A7 q2s rfl ?_
 simp [Un]
 refine A1 (qH5 s c) rfl ?_
 simp [Uo]
theorem qA5 (s:ByteArray) (c:Int) (h0:0≤c) (h1:c<128):A3 Tryz.prog Γ 288 [.v (.string s),tR c] (tI (Lib.indexByte s.data.toList c.toNat.toUInt8)):=by
 refine A7 q2v rfl ?_
 simp (disch:=omega) [Us,h0,h1,Bm]
 refine A1 (qA4 s c) rfl ?_
 simp [Ut]
theorem q6l (s:ByteArray) (c:Int) (h0:0≤c) (h1:c<128):A3 Tryz.prog Γ 269 [.v (.string s),tR c] (tB (decide (0≤Lib.indexByte s.data.toList c.toNat.toUInt8))):=by
 refine A7 q0m rfl ?_
 simp (disch:=omega) [Ph]
 refine A1 (qA5 s c h0 h1) rfl ?_
 simp [Pi]
def qH6 (c:Int):Bool:=decide (c≤32∨126<c∨0≤Lib.indexByte [40,41,61,44,35] c.toNat.toUInt8)
theorem qH7 (c:Int):A3 Tryz.prog Γ 268 [tR c] (tB (qH6 c)):=by
 refine A7 q2u rfl ?_
 by_cases h1:c≤32
 ·simp [H3,H4,h1,qH6]
 by_cases h2:126<c
 ·simp [H3,H4,h1,h2,qH6]
 simp [H3,h1,h2]
 refine A1 (q6l ⟨#[40,41,61,44,35]⟩ c (by omega) (by omega)) rfl ?_
 simp [H4,qH6,h1,h2]
theorem qF1 (s:List UInt8) (i:Nat) (hi:i<s.length) (ha:s[i]<128):Utf8.decode ⟨s.toArray⟩ i=((s[i]).toNat,1):=by
 have e:(ByteArray.mk s.toArray).get! (i+0)=s[i]:=by
  simp [ByteArray.get!,hi]
 have h2:(s[i]).toNat<128:=by simpa [UInt8.lt_iff_toNat_lt] using ha
 unfold Utf8.decode
 simp only [e,h2,↓reduceIte]
def qF2 (s:List UInt8):Bool:=s.any fun b=>qH6 b.toNat
theorem q3O {Q:AX→St→Prop} (s:List UInt8) (ha:∀ b ∈ s,b<128)
  (h0:qF2 s=false→Q (.exit 0) ⟨[(1,.t (.fn 268 [])),(2,.t (tB true)),(10,.li 10),(11,.t (.tup [tB false])),(12,.t (tB false))],[(10,.it ⟨s.toArray⟩ s.length)]⟩)
  (h1:qF2 s=true→∀ i:Nat,Q .ret ⟨[(6,.t (tI i))],[]⟩):∀ (k i:Nat),k+i=s.length→(∀ j,j<i→∀ b,s[j]? = some b→qH6 b.toNat=false) →
  run Tryz.prog Γ H5 Q ⟨[(1,.t (.fn 268 [])),(2,.t (tB true)),(10,.li 10)],[(10,.it ⟨s.toArray⟩ i)]⟩
 | 0,i,h,hq=>by
  refine Nz fun K hK=>?_
  have h2:¬ i<s.length:=by omega
  have h3:i=s.length:=by omega
  have h4:¬ i<(ByteArray.mk s.toArray).size:=by simpa [ByteArray.size] using h2
  simp [h2]
  subst h3
  refine h0 (List.any_eq_false.2 fun b hb=>?_)
  obtain ⟨j,hj,rfl⟩:=List.getElem_of_mem hb
  simp [hq j hj _ (List.getElem?_eq_getElem hj)]
 | k+1,i,h,hq=>by
  refine Nz fun K hK=>?_
  have h2:i<s.length:=by omega
  have h4:i<(ByteArray.mk s.toArray).size:=by simpa [ByteArray.size] using h2
  simp [h2,qF1 s i h2 (ha _ (List.getElem_mem h2))]
  refine A1 (qH7 s[i].toNat) rfl ?_
  simp
  refine ⟨fun hc=>?_,fun hc=>?_⟩
  ·simp [Bj]
   exact h1 (List.any_eq_true.2 ⟨_,List.getElem_mem h2,hc⟩) i
  ·simp [Bj]
   rw [hK]
   exact q3O s ha h0 h1 k (i+1) (by omega) (fun j hj b hb=>by
    rcases Nat.lt_succ_iff_lt_or_eq.1 hj with hj | rfl
    ·exact hq j hj b hb
    ·rw [List.getElem?_eq_getElem h2] at hb; simp at hb; subst hb; exact hc)
theorem qCV (s:List UInt8) (ha:∀ b ∈ s,b<128):∃ n:Int,A3 Tryz.prog Γ 302 [tS s,.fn 268 [],tB true] (tI n)∧(0≤n↔qF2 s=true):=by
 have:∃ r,A3 Tryz.prog Γ 302 [tS s,.fn 268 [],tB true] r∧∃ n,r=tI n∧(0≤n↔qF2 s=true):=by
  refine qBa q2x rfl ?_
  simp [Uy,tS,sV]
  refine q3O s ha (fun h=>?_) (fun h i=>?_) s.length 0 (by omega) (by simp)
  ·simp [L9,h]
  ·simp [L9,h]
 obtain ⟨_,h1,n,rfl,h2⟩:=this
 exact ⟨n,h1,h2⟩
theorem q93 (s:List UInt8) (ha:∀ b ∈ s,b<128):∃ n:Int,A3 Tryz.prog Γ 289 [tS s,.fn 268 []] (tI n)∧(0≤n↔qF2 s=true):=by
 obtain ⟨n,h1,h2⟩:=qCV (Γ:=Γ) s ha
 refine ⟨n,A7 q2w rfl ?_,h2⟩
 simp [Uu]
 refine A1 h1 rfl ?_
 simp [Uw]
theorem q3P (s:List UInt8) (ha:∀ b ∈ s,b<128):A3 Tryz.prog Γ 270 [tS s,.fn 268 []] (tB (qF2 s)):=by
 obtain ⟨n,h1,h2⟩:=q93 (Γ:=Γ) s ha
 refine A7 q0n rfl ?_
 simp [Pj]
 refine A1 h1 rfl ?_
 simp [Pl,h2]
def q5o (s:List UInt8):Bool:=decide (s ≠ []∧s.length≤32) && !qF2 s
theorem qDV (s:List UInt8) (ha:∀ b ∈ s,b<128):A3 Tryz.prog Γ 242 [tS s] (tB (q5o s)):=by
 refine A7 q4h rfl ?_
 have h:=q3P (Γ:=Γ) s ha
 by_cases h1:s=[]
 ·simp [J2,J3,tS,sV,h1,q5o]
 have h1':s.isEmpty=false:=by simpa using h1
 by_cases h2:s.length≤32
 ·have h2':(s.length:Int)≤32:=by omega
  simp [J2,tS,sV,h1,h1',h2']
  refine A1 h rfl ?_
  simp [J3,q5o,h1,h2]
 ·have h2':¬ (s.length:Int)≤32:=by omega
  simp [J2,J3,tS,sV,h1,h1',h2',h2,q5o]
def On (c:B0) (m:Mm):Int :=
 if Vt m.addr.l 8=true∨Vt m.data.l 32=true then 8 else if m.addr.l.any (Qj c)=true∨m.data.l.any (Qj c)=true∨Qj c m.write=true then 1 else 0
theorem qDW (c:B0) (m:Mm) (hc:CirOk c) (hm:m.addr.l.length≤1000000000∧m.data.l.length≤1000000000):A3 Tryz.prog Γ 201 [.agg (tC c),.agg (tMm m)] (tI (On c m)):=by
 refine A7 q4f rfl ?_
 have hn:=hc.nodes
 have e1:=Zx (Γ:=Γ) c hn m.addr.l m.addr.cap m.addr.nl hm.1
 have e2:=Zx (Γ:=Γ) c hn m.data.l m.data.cap m.data.nl hm.2
 have e3:=Xd (Γ:=Γ) c
 have e4:=q6k (Γ:=Γ) m.addr.l m.addr.cap m.addr.nl 8 hm.1
 have e5:=q6k (Γ:=Γ) m.data.l m.data.cap m.data.nl 32 hm.2
 have e6:=q0p (Γ:=Γ) c m.write hn
 simp [Yc,tC,tMm,A5,A8,Ad,B6]
 refine A9 e3 rfl ?_
 simp
 refine A1 e4 rfl ?_
 have fin2:∀ b:Bool,b=decide (m.addr.l.any (Qj c)=true∨m.data.l.any (Qj c)=true∨Qj c m.write=true)→(Vt m.addr.l 8=false)→(Vt m.data.l 32=false)→On c m=if b then 1 else 0:=by
  intro b hb h1 h2
  subst hb
  unfold On
  rw [if_neg (by simp [h1,h2])]
  simp
 by_cases h1:Vt m.addr.l 8=true
 ·simp [h1,Dv,On]
 have h1':Vt m.addr.l 8=false:=by simpa using h1
 simp [h1']
 refine A1 e5 rfl ?_
 by_cases h2:Vt m.data.l 32=true
 ·simp [h2,Dv,On]
 have h2':Vt m.data.l 32=false:=by simpa using h2
 simp [h2']
 refine A1 e1 rfl ?_
 generalize m.addr.l.any (Qj c)=b1 at e1 fin2
 generalize m.data.l.any (Qj c)=b2 at e2 fin2
 generalize Qj c m.write=b3 at e6 fin2
 cases b1 with
 | true=>simp [Dv,fin2 true (by simp) h1' h2']
 | false =>
  simp
  refine A1 e2 rfl ?_
  cases b2 with
  | true=>simp [Dv,fin2 true (by simp) h1' h2']
  | false =>
   simp
   refine Yf e6 ?_
   cases b3 with
   | true=>simp [Dv,fin2 true (by simp) h1' h2']
   | false=>simp [Dv,fin2 false (by simp) h1' h2']
def qA6 (l:List (List UInt8)):List (Value × T):=l.map fun s=>(sV s,tB true)
theorem qL2 (a b:List UInt8):q2P (sV a) (sV b)=decide (a=b):=by
 simp only [q2P,sV]
 by_cases h:a=b
 ·subst h; simp [qCM]
 ·have:¬ (ByteArray.mk a.toArray)=⟨b.toArray⟩:=fun e=>h (by simpa using e)
  have h2:((ByteArray.mk a.toArray) == ⟨b.toArray⟩)=false:=by
   cases hq:((ByteArray.mk a.toArray) == ⟨b.toArray⟩)
   ·rfl
   ·exact absurd ((qCM _ _).1 hq) this
  rw [h2]; simp [h]
theorem qA7 (x:List UInt8):∀ l:List (List UInt8),G7 (sV x) (qA6 l)=if x ∈ l then some (tB true) else none
 | []=>rfl
 | y::l=>by
  have ih:=qA7 x l
  simp only [qA6,List.map_cons,G7,qL2] at ih ⊢
  by_cases h:x=y
  ·simp [h]
  ·simp [h,ih]
theorem qBe (x:List UInt8):∀ l:List (List UInt8),x ∉ l→q7Z (sV x) (tB true) (qA6 l)=qA6 (l++[x])
 | [],_=>rfl
 | y::l,h=>by
  have ih:=qBe x l (fun hm=>h (List.mem_cons_of_mem _ hm))
  have hne:x ≠ y:=fun e=>h (by simp [e])
  simp only [qA6,List.map_cons,q7Z,qL2,List.cons_append] at ih ⊢
  simp [hne,ih]
theorem qH8 (l:List (List UInt8)):Oa .str (qA6 l):=by
 intro e he; obtain ⟨s,_,rfl⟩:=List.mem_map.1 he; rfl
def Jd:List (List UInt8)→List (List UInt8)→Int
 | _,[]=>0
 | done,s::l=>if q5o s=false∨s ∈ done then 5 else Jd (done++[s]) l
theorem qA8 {Q:AX→St→Prop} (n:Sl (List UInt8)) (hl:n.l.length≤1000000000) (ha:∀ s ∈ n.l,∀ b ∈ s,b<128) (R:Int)
  (h0:R=0→∀ m:List (Value × T),Q (.exit 0) ⟨[(3,.lm 6),(8,.t (A8 n)),(9,.t (tI n.l.length)),(10,.t (tI n.l.length)),(11,.t (tB false))],[(6,.mp m)]⟩)
  (h5:R=5→Q .ret ⟨[(2,.t (tI 5))],[]⟩):∀ (k i:Nat),k+i=n.l.length→Jd (n.l.take i) (n.l.drop i)=R →
  run Tryz.prog Γ Js Q ⟨[(3,.lm 6),(8,.t (A8 n)),(9,.t (tI n.l.length)),(10,.t (tI i))],[(6,.mp (qA6 (n.l.take i)))]⟩
 | 0,i,h,hR=>by
  refine Ru fun K hK=>?_
  have h2:¬ i<n.l.length:=by omega
  have h3:i=n.l.length:=by omega
  simp [h2,A8]
  subst h3
  refine h0 ?_ _
  rw [← hR]; simp [Jd]
 | k+1,i,h,hR=>by
  refine Ru fun K hK=>?_
  have h2:i<n.l.length:=by omega
  simp (disch:=omega) [h2,A8,A0,By ([]:List UInt8),A6]
  refine A1 (qDV n.l[i] (ha _ (List.getElem_mem h2))) rfl ?_
  have hd:n.l.drop i=n.l[i]::n.l.drop (i+1):=List.drop_eq_getElem_cons h2
  rw [hd] at hR
  simp only [Jd] at hR
  have ht:n.l.take i++[n.l[i]]=n.l.take (i+1):=by rw [List.take_add_one]; simp [h2]
  by_cases hq:q5o n.l[i]=true
  ·have hfit:=qH8 (n.l.take i)
   simp [hq,tS,KT.fits,sV,hfit]
   rw [show (Value.string ⟨(n.l[i]).toArray⟩)=sV n.l[i] from rfl,qA7]
   by_cases hm:n.l[i] ∈ n.l.take i
   ·simp [hm]
    refine h5 ?_
    rw [← hR,if_pos (.inr hm)]
   ·rw [if_neg (by simp [hq,hm]),ht] at hR
    simp (disch:=omega) [hm,sV,KT.fits,hfit,A4]
    rw [hK]
    have:=qA8 n hl ha R h0 h5 k (i+1) (by omega) hR
    rw [show (Value.string ⟨(n.l[i]).toArray⟩)=sV n.l[i] from rfl,qBe _ _ hm,ht]
    exact_mod_cast this
  ·have hq':q5o n.l[i]=false:=by simpa using hq
   simp [hq']
   refine h5 ?_
   rw [← hR,if_pos (.inl hq')]
theorem qF3 (c:B0) (hc:CirOk c) (ha:∀ s ∈ c.names.l,∀ b ∈ s,b<128):A3 Tryz.prog Γ 200 [.agg (tC c)] (tI (Jd [] c.names.l)):=by
 refine A7 q5n rfl ?_
 simp [Zw,tC,A5,A8,Ad,B6,A0]
 refine qA8 c.names hc.names ha (Jd [] c.names.l) (fun h m=>?_) (fun h=>?_) c.names.l.length 0 (by omega) (by simp)
 ·simp [Qh,h]
 ·simp [Qh,h]
def Do:List Int→Int
 | []=>0
 | e::l=>if e ≠ 0 then e else Do l
theorem q4x {α:Type} (f:α→Int) (l:List α) (i:Nat) (h:i<l.length):Do ((l.drop i).map f)=if f l[i] ≠ 0 then f l[i] else Do ((l.drop (i+1)).map f):=by
 rw [List.drop_eq_getElem_cons h]; rfl
theorem q8W {Q:AX→St→Prop} (hΓ:GOk Γ) (c:B0) (hc:CirOk c) (R:Int)
  (h0:R=0→Q (.exit 1) ⟨[(1,.t (.ip (tC c) 0)),(36,.t (A5 c.nodes)),(37,.t (tI c.nodes.l.length)),(38,.t (tI c.nodes.l.length)),(39,.t (tB false))],[]⟩)
  (h5:R ≠ 0→Q .ret ⟨[(2,.t (tI R))],[]⟩):∀ (k i:Nat),k+i=c.nodes.l.length→Do ((c.nodes.l.drop i).map (Dq c))=R →
  run Tryz.prog Γ Jq Q ⟨[(1,.t (.ip (tC c) 0)),(36,.t (A5 c.nodes)),(37,.t (tI c.nodes.l.length)),(38,.t (tI i))],[]⟩
 | 0,i,h,hR=>by
  refine Rr fun K hK=>?_
  have h2:¬ i<c.nodes.l.length:=by omega
  have h3:i=c.nodes.l.length:=by omega
  simp [h2]
  subst h3
  exact h0 (by rw [← hR]; simp [Do])
 | k+1,i,h,hR=>by
  refine Rr fun K hK=>?_
  have h2:i<c.nodes.l.length:=by omega
  have hn:=hc.nodes
  have hx:=List.getElem_mem h2
  rw [q4x (Dq c) _ _ h2] at hR
  have e:=qH4 (Γ:=Γ) hΓ c c.nodes.l[i] hc (hc.kind _ hx) (hc.inn _ hx)
  simp (disch:=omega) [h2,A5,Aa,E5 Nd.d,Bf,Dn,tC,B6]
  refine A1 e rfl ?_
  by_cases hq:Dq c c.nodes.l[i]=0
  ·rw [if_neg (by simp [hq])] at hR
   simp (disch:=omega) [hq,A4]
   rw [hK]
   have:=q8W hΓ c hc R h0 h5 k (i+1) (by omega) hR
   simpa [tC,A5,B6] using this
  ·rw [if_pos (by simpa using hq)] at hR
   simp [hq]
   rw [hR]
   exact h5 (by rw [← hR]; exact hq)
theorem qA9 {Q:AX→St→Prop} (c:B0) (hc:CirOk c) (R:Int)
  (h0:R=0→Q (.exit 3) ⟨[(1,.t (.ip (tC c) 0)),(55,.t (Ad c.mems)),(56,.t (tI c.mems.l.length)),(57,.t (tI c.mems.l.length)),(58,.t (tB false))],[]⟩)
  (h5:R ≠ 0→Q .ret ⟨[(2,.t (tI R))],[]⟩):∀ (k i:Nat),k+i=c.mems.l.length→Do ((c.mems.l.drop i).map (On c))=R →
  run Tryz.prog Γ Jr Q ⟨[(1,.t (.ip (tC c) 0)),(55,.t (Ad c.mems)),(56,.t (tI c.mems.l.length)),(57,.t (tI i))],[]⟩
 | 0,i,h,hR=>by
  refine Rt fun K hK=>?_
  have h2:¬ i<c.mems.l.length:=by omega
  have h3:i=c.mems.l.length:=by omega
  simp [h2]
  subst h3
  exact h0 (by rw [← hR]; simp [Do])
 | k+1,i,h,hR=>by
  refine Rt fun K hK=>?_
  have h2:i<c.mems.l.length:=by omega
  have hn:=hc.mems
  have hx:=List.getElem_mem h2
  rw [q4x (On c) _ _ h2] at hR
  have e:=qDW (Γ:=Γ) c c.mems.l[i] hc (hc.addr _ hx)
  simp (disch:=omega) [h2,Ad,Aa,E5 Mm.d,Qi,tMm,tC,B6]
  refine A1 e rfl ?_
  by_cases hq:On c c.mems.l[i]=0
  ·rw [if_neg (by simp [hq])] at hR
   simp (disch:=omega) [hq,A4]
   rw [hK]
   have:=qA9 c hc R h0 h5 k (i+1) (by omega) hR
   simpa [tC,Ad,B6] using this
  ·rw [if_pos (by simpa using hq)] at hR
   simp [hq]
   rw [hR]
   exact h5 (by rw [← hR]; exact hq)
def Dz (c:B0):Int :=
 if 16384<c.nodes.l.length∨16<c.mems.l.length∨16384<c.outs.l.length then 3 else if c.names.l.length ≠ c.nodes.l.length then 8
 else if Do (c.nodes.l.map (Dq c)) ≠ 0 then Do (c.nodes.l.map (Dq c))
 else if Jd [] c.names.l ≠ 0 then Jd [] c.names.l
 else if Do (c.mems.l.map (On c)) ≠ 0 then Do (c.mems.l.map (On c))
 else if c.outs.l.any (Qj c)=true then 1 else 0
theorem qF4 (hΓ:GOk Γ) (c:B0) (hc:CirOk c) (ha:∀ s ∈ c.names.l,∀ b ∈ s,b<128):A3 Tryz.prog Γ 137 [.agg (tC c)] (tI (Dz c)):=by
 refine A7 q5m rfl ?_
 have hn:=hc.nodes
 have hm:=hc.mems
 have ho:=hc.outs
 have hnn:=hc.names
 have en:=qF3 (Γ:=Γ) c hc ha
 have eo:=Xd (Γ:=Γ) c
 have ec:=Zx (Γ:=Γ) c hn c.outs.l c.outs.cap c.outs.nl ho
 by_cases h1:16384<c.nodes.l.length∨16<c.mems.l.length∨16384<c.outs.l.length
 ·have:Dz c=3:=by unfold Dz; rw [if_pos h1]
  rw [this]
  by_cases g1:(16384:Int)<c.nodes.l.length
  ·simp [F3,Ce,tC,A5,A8,Ad,B6,Aa,A0,g1]
  by_cases g2:(16:Int)<c.mems.l.length
  ·simp [F3,Ce,tC,A5,A8,Ad,B6,Aa,A0,g1,g2]
  have g3:(16384:Int)<c.outs.l.length:=by omega
  simp [F3,Ce,tC,A5,A8,Ad,B6,Aa,A0,g1,g2,g3]
 have g1:¬ (16384:Int)<c.nodes.l.length:=by omega
 have g2:¬ (16:Int)<c.mems.l.length:=by omega
 have g3:¬ (16384:Int)<c.outs.l.length:=by omega
 by_cases h2:c.names.l.length=c.nodes.l.length
 case neg =>
  have:Dz c=8:=by unfold Dz; rw [if_neg h1,if_pos h2]
  have h2':¬ (c.names.l.length:Int)=c.nodes.l.length:=by omega
  rw [this]
  simp [F3,Ce,tC,A5,A8,Ad,B6,Aa,A0,g1,g2,g3,h2']
 simp [F3,tC,A5,A8,Ad,B6,Aa,A0,g1,g2,g3,h2]
 have e0:Dz c=if Do (c.nodes.l.map (Dq c)) ≠ 0 then Do (c.nodes.l.map (Dq c))
   else if Jd [] c.names.l ≠ 0 then Jd [] c.names.l
   else if Do (c.mems.l.map (On c)) ≠ 0 then Do (c.mems.l.map (On c))
   else if c.outs.l.any (Qj c)=true then 1 else 0:=by
  unfold Dz; rw [if_neg h1,if_neg (by simp [h2])]
 refine q8W hΓ c hc (Do (c.nodes.l.map (Dq c))) (fun h3=>?_) (fun h3=>?_) c.nodes.l.length 0 (by omega) (by simp)
 case refine_2 =>
  rw [if_pos h3] at e0
  simp [Ce,e0]
 rw [if_neg (by rw [h3]; decide)] at e0
 simp [tC,A5,A8,Ad,B6]
 refine A1 en rfl ?_
 by_cases h4:Jd [] c.names.l=0
 case neg =>
  rw [if_pos h4] at e0
  simp [h4,Ce,e0]
 rw [if_neg (by rw [h4]; decide)] at e0
 simp [h4,Aa]
 refine qA9 c hc (Do (c.mems.l.map (On c))) (fun h5=>?_) (fun h5=>?_) c.mems.l.length 0 (by omega) (by simp)
 case refine_2 =>
  rw [if_pos h5] at e0
  simp [Ce,e0]
 rw [if_neg (by rw [h5]; decide)] at e0
 simp [tC,A5,A8,Ad,B6]
 refine A9 eo rfl ?_
 simp
 refine A1 ec rfl ?_
 generalize c.outs.l.any (Qj c)=b at e0
 cases b <;> simp [Ce,e0]
def Ky (ks:List Int):List Nd→Nat→List Int
 | [],_=>[]
 | x::l,i=>if ks.contains x.k then (i:Int)::Ky ks l (i+1) else Ky ks l (i+1)
theorem q6m (ks:List Int):∀ (a b:List Nd) (i:Nat),Ky ks (a++b) i=Ky ks a i++Ky ks b (i+a.length)
 | [],b,i=>by simp [Ky]
 | x::a,b,i=>by
  have:=q6m ks a b (i+1)
  simp only [List.cons_append,Ky,this,List.length_cons]
  split <;> simp [Nat.add_assoc,Nat.add_comm 1]
theorem Xe (ks:List Int):∀ (a:List Nd) (i:Nat),(Ky ks a i).length≤a.length
 | [],_=>by simp [Ky]
 | x::a,i=>by
  have:=Xe ks a (i+1)
  simp only [Ky]
  split <;> simp <;> omega
theorem qG3 {Q:AX→St→Prop} (n:Sl Nd) (hl:n.l.length≤1000000000) (ks:List Int) (kc:Option Nat) (kn:Option Bool) (hk:ks.length≤1000000000)
  (h0:Q (.exit 0) ⟨[(1,.t (.sl (Ac tK ks) kc kn)),(5,.ls 23 0 (Ky ks n.l 0).length none),(9,.t (A5 n)),(10,.t (tI n.l.length)),(11,.t (tI n.l.length)),(12,.t (tB false))],[(23,.sl 3 1 (Av (Ky ks n.l 0)))]⟩):∀ (k i:Nat),k+i=n.l.length →
  run Tryz.prog Γ Qa Q ⟨[(1,.t (.sl (Ac tK ks) kc kn)),(5,.ls 23 0 (Ky ks (n.l.take i) 0).length none),(9,.t (A5 n)),(10,.t (tI n.l.length)),(11,.t (tI i))],[(23,.sl 3 1 (Av (Ky ks (n.l.take i) 0)))]⟩
 | 0,i,h=>by
  refine Xy fun K hK=>?_
  have h2:¬ i<n.l.length:=by omega
  have h3:i=n.l.length:=by omega
  simp [h2]
  subst h3
  simpa using h0
 | k+1,i,h=>by
  refine Xy fun K hK=>?_
  have h2:i<n.l.length:=by omega
  have ht:n.l.take (i+1)=n.l.take i++[n.l[i]]:=by rw [List.take_add_one]; simp [h2]
  have hlen:=Xe ks (n.l.take i) 0
  have htl:(n.l.take i).length=i:=by simp; omega
  have hal:Ky ks (n.l.take (i+1)) 0=if ks.contains n.l[i].k then Ky ks (n.l.take i) 0++[(i:Int)] else Ky ks (n.l.take i) 0:=by
   rw [ht,q6m,htl]
   simp only [Ky,Nat.zero_add]
   split <;> simp
  have e:=qB3 (Γ:=Γ) ks kc kn n.l[i].k hk
  simp (disch:=omega) [h2,A5,Aa,E5 Nd.d,Bf,Dn,B6]
  refine A1 e rfl ?_
  generalize ks.contains n.l[i].k=b at hal
  have ih:=qG3 n hl ks kc kn hk h0 k (i+1) (by omega)
  rw [hal] at ih
  cases b with
  | false =>
   simp (disch:=omega) [A4]
   rw [hK]
   simpa [A5] using ih
  | true =>
   have hw:Cm 1 [[tI (i:Int)]]:=by intro e he; simp at he; subst he; rfl
   simp (disch:=omega) [A4,A0,A6,hw]
   rw [hK]
   simp [A5] at ih
   rw [Be (f:=tI) (x:=(i:Int))]
   exact ⟨by omega,ih⟩
theorem qK3 (c:B0) (hc:CirOk c) (ks:List Int) (kc:Option Nat) (kn:Option Bool) (hk:ks.length≤1000000000) :
  A3 Tryz.prog Γ 74 [.agg (tC c),.sl (Ac tK ks) kc kn] (.sl (Av (Ky ks c.nodes.l 0)) (some (Ky ks c.nodes.l 0).length) none):=by
 refine A7 q91 rfl ?_
 simp [q3I,tC,A5,A8,Ad,B6,Aa]
 refine qG3 c.nodes hc.nodes ks kc kn hk ?_ c.nodes.l.length 0 (by omega)
 simp
 refine ⟨_,_,qEy 3 (Av (Ky ks c.nodes.l 0)) (Ky ks c.nodes.l 0).length none A6,?_⟩
 simp [q3J]
abbrev Ns:=List (Int × Int)
def tLn (p:Int × Int):List T:=[tI p.1,tI p.2]
def qAA (i:Nat) (r:Ns):AV:=if r=[] then .t (.sl [] (some 0) (some true)) else .ls (100000+i) 0 r.length none
def Ci (rows:List Ns):List AV:=rows.mapIdx qAA
def La (rows:List Ns) (id:Nat):Option B9:=match rows[id - 100000]? with
 | some r=>if r=[] then none else some (.sl 190 2 (Ar tLn r))
 | none=>none
def Lc (k:Nat) (g:Nat→Option B9):List (Nat × B9):=(List.range' 100000 k).filterMap fun id=>(g id).map fun r=>(id,r)
def D6 (rows:List Ns):List (Nat × B9):=Lc 16384 (La rows)
theorem qAB {α β:Type} {f g:α→Option β}:∀ {l:List α},(∀ x ∈ l,f x=g x)→l.filterMap f=l.filterMap g
 | [],_=>rfl
 | x::l,h=>by
  rw [List.filterMap_cons,List.filterMap_cons,h x List.mem_cons_self,qAB (l:=l) fun y hy=>h y (List.mem_cons_of_mem _ hy)]
theorem qK4 {l:List Nat} {g:Nat→Option B9} {t:Nat}:A2 (l.filterMap fun id=>(g id).map fun r=>(id,r)) t=if t ∈ l then g t else none:=by
 induction l with
 | nil=>simp [A2]
 | cons k l ih =>
  rw [List.filterMap_cons]
  cases hg:g k with
  | none =>
   simp only [Option.map_none,ih]
   by_cases h:t=k
   ·subst h; simp [hg]
   ·simp [h]
  | some r =>
   simp only [Option.map_some,A2,ih]
   by_cases h:k=t
   ·subst h; simp [hg]
   ·simp [h,Ne.symm h]
theorem Oo {k:Nat} {g:Nat→Option B9} {t:Nat}:A2 (Lc k g) t=if 100000≤t∧t<100000+k then g t else none:=by
 unfold Lc; rw [qK4]
 by_cases h:100000≤t∧t<100000+k
 ·rw [if_pos h,if_pos (by rw [List.mem_range'_1]; exact h)]
 ·rw [if_neg h,if_neg (by rw [List.mem_range'_1]; exact h)]
theorem qBf {rows:List Ns} {l:List (Nat × B9)} (h:∀ t ∈ List.range' 100000 16384,A2 l t=La rows t):Lg.keep (List.range' 100000 16384) l=D6 rows:=by
 unfold Lg.keep D6 Lc
 exact qAB fun t ht=>by rw [h t ht]
theorem q7t {env:List (Nat × AV)} {hp:List (Nat × B9)} {ks:List Nat} {rows:List Ns} (hk:(hp.map (·.1)).filter (fun id=>!([14]:List Nat).contains id && !(decide (100000≤id) && decide (id<100000+16384)))=[])
  (h14:A2 hp 14=some (.bx (Ci rows))) (hr:∀ t,100000≤t→t<116384→A2 hp t=La rows t) :
  Gh.run (.keepB ks [14] 100000 16384) ⟨env,hp⟩=⟨Lg.keep ks env,(14,.bx (Ci rows))::D6 rows⟩:=by
 simp only [Gh.run,q9O,hk,It,q7q,h14,qA1,List.cons_append,List.nil_append]
 congr 2
 simp only [Lg.keep,D6,Lc]
 refine qAB fun t ht=>?_
 rw [List.mem_range'_1] at ht
 rw [hr t ht.1 (by omega)]
theorem q1E {k:Nat} {g:Nat→Option B9}:∀ p ∈ Lc k g,100000≤p.1∧p.1<100000+k:=by
 intro p hp
 obtain ⟨id,hid,he⟩:=List.mem_filterMap.1 hp
 rw [List.mem_range'_1] at hid
 cases hg:g id with
 | none=>rw [hg] at he; cases he
 | some r=>rw [hg] at he; simp at he; subst he; exact hid
theorem q8X {rows:List Ns}:((D6 rows).map (·.1)).filter (fun id=>!([14]:List Nat).contains id && !(decide (100000≤id) && decide (id<100000+16384)))=[]:=by
 rw [List.filter_eq_nil_iff]
 intro id hid
 obtain ⟨p,hp,rfl⟩:=List.mem_map.1 hid
 have:=q1E p hp
 simp [this.1,this.2]
theorem q4Q {rows:List Ns} {t:Nat}:A2 ((14,.bx (Ci rows))::D6 rows) t=if t=14 then some (.bx (Ci rows)) else if 100000≤t∧t<116384 then La rows t else none:=by
 simp only [A2,D6,Oo]
 by_cases h:t=14
 ·simp [h]
 ·simp [h,Ne.symm h]
theorem Xf {env:List (Nat × AV)} {ks:List Nat} {rows:List Ns}:Gh.run (.keepB ks [14] 100000 16384) ⟨env,(14,.bx (Ci rows))::D6 rows⟩=⟨Lg.keep ks env,(14,.bx (Ci rows))::D6 rows⟩:=by
 refine q7t ?_ (by simp [A2]) fun t h1 h2=>?_
 ·rw [List.map_cons,List.filter_cons]; simp only [q8X]; simp
 ·rw [q4Q,if_neg (by omega),if_pos ⟨h1,h2⟩]
theorem qCW {id:Nat} (h:id<100000) (rows:List Ns):(Ci rows).map (Aw id)=Ci rows:=by
 apply List.ext_getElem?
 intro i
 simp only [Ci,List.getElem?_map,List.getElem?_mapIdx,Option.map_map]
 cases rows[i]? with
 | none=>rfl
 | some r =>
  simp only [Option.map_some,Function.comp_def,qAA]
  split
  ·rfl
  ·simp only [Aw,kill1]; rw [if_neg (by omega)]
theorem qK5 {env:List (Nat × AV)} {ks:List Nat} {rows:List Ns} {q:B9}:Gh.run (.keepB ks [14] 100000 16384) ⟨env,(6,q)::(14,.bx (Ci rows))::D6 rows⟩=⟨(Lg.keep ks env).map (fun p=>(p.1,Aw 6 p.2)),(14,.bx (Ci rows))::D6 rows⟩:=by
 have hk:(((6,q)::(14,B9.bx (Ci rows))::D6 rows).map (·.1)).filter (fun id=>!([14]:List Nat).contains id && !(decide (100000≤id) && decide (id<100000+16384)))=[6]:=by
  rw [List.map_cons,List.map_cons,List.filter_cons,List.filter_cons]; simp only [q8X]; simp
 have hl:∀ t,t ≠ 6→A2 (St.kill 6 ⟨Lg.keep ks env,(6,q)::(14,.bx (Ci rows))::D6 rows⟩).hp t=A2 ((14,.bx (Ci rows))::D6 rows) t:=by
  intro t ht
  rw [Xr,if_neg ht]
  show (A2 ((6,q)::(14,.bx (Ci rows))::D6 rows) t).map _=_
  rw [A2,if_neg (Ne.symm ht),q4Q]
  by_cases h:t=14
  ·simp [h,Ho,qCW]
  ·simp only [h,↓reduceIte]
   split
   ·unfold La
    split
    ·split <;> simp [Ho]
    ·rfl
   ·rfl
 simp only [Gh.run,q9O,hk,It,q7q,qA1,List.cons_append,List.nil_append]
 rw [hl 14 (by omega)]
 simp only [A2,↓reduceIte,List.cons_append,List.nil_append]
 congr 2
 refine qBf fun t ht=>?_
 rw [List.mem_range'_1] at ht
 rw [hl t (by omega),q4Q,if_neg (by omega),if_pos ⟨ht.1,by omega⟩]
def I1 (rows:List Ns) (n:Nat) (p:Int × Int):List Ns:=rows.set n (rows.getD n []++[p])
theorem q5p {rows:List Ns} {n:Nat} {p:Int × Int}:(I1 rows n p).length=rows.length:=by simp [I1]
theorem qH9 {env:List (Nat × AV)} {ks:List Nat} {rows:List Ns} {n:Nat} {p:Int × Int} {hp:List (Nat × B9)} {cs:List AV} (hn:n<rows.length) (hn2:rows.length≤16384)
  (hlen:cs.length=rows.length) (hcs:∀ i,i ≠ n→cs[i]? = (Ci rows)[i]?) (hc:cs[n]? = some (.ls 47 0 ((rows.getD n []).length+1) none)) (h47:A2 hp 47=some (.sl 190 2 (Ar tLn (rows.getD n []++[p])))) (h14:A2 hp 14=some (.bx cs))
  (hno:A2 hp (100000+n)=none) (hoth:∀ t,100000≤t→t<116384→t ≠ 100000+n→A2 hp t=La rows t) (hkeys:∀ q ∈ hp,q.1=47∨q.1=14∨(100000≤q.1∧q.1<116384)) :
  Gh.run (.keepB ks [14] 100000 16384) (q15 47 (100000+n) ⟨env,hp⟩)=⟨(Lg.keep ks (env.map fun q=>(q.1,Bd (Hz 47 (100000+n)) q.2))),(14,.bx (Ci (I1 rows n p)))::D6 (I1 rows n p)⟩:=by
 have hr:q15 47 (100000+n) ⟨env,hp⟩=⟨env.map fun q=>(q.1,Bd (Hz 47 (100000+n)) q.2),Zq 47 (100000+n) hp⟩:=by
  unfold q15
  rw [if_pos]
  simp [hno,h47]; omega
 rw [hr]
 have hget:∀ i,(I1 rows n p)[i]? = if i=n then some (rows.getD n []++[p]) else rows[i]? := by
  intro i
  unfold I1
  rw [List.getElem?_set]
  by_cases h:n=i
  ·subst h; simp [hn]
  ·simp [h,Ne.symm h]
 have hl:=fun t=>q5j (a:=47) (b:=100000+n) (t:=t) hno (by omega)
 refine q7t ?_ ?_ fun t h1 h2=>?_
 ·rw [List.filter_eq_nil_iff]
  intro id hid
  have:id=100000+n∨id ≠ 47∧∃ q ∈ hp,q.1=id:=by
   clear hl hr hno hoth h14 h47
   induction hp with
   | nil=>simp [Zq] at hid
   | cons q l ih =>
    obtain ⟨k,r⟩:=q
    simp only [Zq,List.map_cons,List.mem_cons] at hid
    rcases hid with hid | hid
    ·by_cases h:k=47
     ·left; simpa [h] using hid
     ·right; simp [h] at hid; subst hid; exact ⟨h,_,List.mem_cons_self,rfl⟩
    ·rcases ih (fun q hq=>hkeys q (List.mem_cons_of_mem _ hq)) hid with h | ⟨h,q,hq,e⟩
     ·exact .inl h
     ·exact .inr ⟨h,q,List.mem_cons_of_mem _ hq,e⟩
  rcases this with h | ⟨h,q,hq,rfl⟩
  ·subst h; simp; intro _; omega
  ·rcases hkeys q hq with e | e | ⟨e1,e2⟩
   ·exact absurd e h
   ·simp [e]
   ·simp; intro _; omega
 ·rw [hl,if_neg (by omega),if_neg (by omega),h14]
  simp only [Option.map_some,D4,Option.some.injEq,B9.bx.injEq]
  apply List.ext_getElem?
  intro i
  simp only [List.getElem?_map,Ci,List.getElem?_mapIdx]
  rw [hget]
  by_cases h:i=n
  ·subst h
   rw [hc]
   have:¬ (rows.getD i []++[p]=[]):=by simp
   simp only [↓reduceIte,Option.map_some,Option.some.injEq]
   unfold qAA
   rw [if_neg this]
   simp [Bd,ren1,ren0,Hz]
  ·rw [hcs i h,if_neg h]
   simp only [Ci,List.getElem?_mapIdx,Option.map_map]
   cases hrow:rows[i]? with
   | none=>rfl
   | some r =>
    simp only [Option.map_some,Function.comp_def,qAA,Option.some.injEq]
    split
    ·rfl
    ·simp only [Bd,ren1,ren0,Hz]; rw [if_neg (by omega)]
 ·rw [hl]
  by_cases h:t=100000+n
  ·rw [if_pos h,h47]
   subst h
   unfold La
   rw [show 100000+n - 100000=n by omega,hget,if_pos rfl]
   simp [D4]
  ·rw [if_neg h,if_neg (by omega),hoth t h1 h2 h]
   unfold La
   rw [hget,if_neg (by omega)]
   cases rows[t - 100000]? with
   | none=>rfl
   | some r=>simp only; split <;> simp [D4]
def q7u (k i:Nat) (r:Ns):AV:=if r=[] then .t (.sl [] (some 0) (some true)) else if k≤i then .t (.sl (Ar tLn r) none none) else .ls (100000+i) 0 r.length none
theorem qIM {env:List (Nat × AV)} {rows:List Ns} (he:∀ id r,100000≤id→∀ p ∈ env,Bl id r p.2=p.2) (k:Nat):St.freeze (100000+k) ⟨env,(14,.bx (rows.mapIdx (q7u (k+1))))::Lc (k+1) (La rows)⟩=⟨env,(14,.bx (rows.mapIdx (q7u k)))::Lc k (La rows)⟩:=by
 have hsplit:Lc (k+1) (La rows)=Lc k (La rows)++(match La rows (100000+k) with | some r=>[(100000+k,r)] | none=>[]):=by
  unfold Lc
  rw [← List.range'_append (s:=100000) (m:=k) (n:=1) (step:=1)]
  rw [List.filterMap_append]
  congr 1
  cases hr:La rows (100000+k) <;> simp [hr]
 have hl:A2 ((14,B9.bx (rows.mapIdx (q7u (k+1))))::Lc (k+1) (La rows)) (100000+k)=La rows (100000+k):=by
  rw [A2,if_neg (by omega),Oo,if_pos (by omega)]
 simp only [St.freeze,hl]
 cases hr:La rows (100000+k) with
 | none =>
  rw [hr] at hsplit
  simp only [hsplit,List.append_nil]
  refine congrArg (fun l=>(⟨env,(14,B9.bx l)::Lc k (La rows)⟩:St)) ?_
  apply List.ext_getElem?
  intro i
  simp only [List.getElem?_mapIdx]
  cases hi:rows[i]? with
  | none=>rfl
  | some r =>
   simp only [Option.map_some,q7u]
   by_cases h0:r=[]
   ·simp [h0]
   ·by_cases hik:i=k
    ·subst hik
     unfold La at hr
     rw [show 100000+i - 100000=i by omega,hi] at hr
     simp [h0] at hr
    ·have:(k+1≤i)=(k≤i):=by apply propext; omega
     simp [this]
 | some q =>
  obtain ⟨r,hrow,hne,rfl⟩:∃ r,rows[k]? = some r∧r ≠ []∧q=.sl 190 2 (Ar tLn r):=by
   unfold La at hr
   rw [show 100000+k - 100000=k by omega] at hr
   split at hr
   ·rename_i r h
    split at hr
    ·cases hr
    ·rename_i hne; simp only [Option.some.injEq] at hr; exact ⟨r,h,hne,hr.symm⟩
   ·cases hr
  rw [hr] at hsplit
  simp only [B9.closed,↓reduceIte]
  have e1:env.map (fun p=>(p.1,Bl (100000+k) (.sl 190 2 (Ar tLn r)) p.2))=env:=by
   conv=>rhs; rw [← List.map_id env]
   refine List.map_congr_left fun p hp=>?_
   rw [he _ _ (by omega) p hp]; rfl
  have e2:del (100000+k) ((14,B9.bx (rows.mapIdx (q7u (k+1))))::Lc (k+1) (La rows))=(14,B9.bx (rows.mapIdx (q7u (k+1))))::Lc k (La rows):=by
   rw [hsplit]
   unfold del
   rw [List.filter_cons,if_pos (by simp; omega),List.filter_append]
   congr 1
   have h1:(Lc k (La rows)).filter (fun p=>p.1 != 100000+k)=Lc k (La rows):=by
    rw [List.filter_eq_self]
    intro p hp
    have:=q1E p hp
    simp; omega
   rw [h1]; simp
  rw [e1,e2]
  have e3:(Lc k (La rows)).map (fun p=>(p.1,Du (100000+k) (.sl 190 2 (Ar tLn r)) p.2))=Lc k (La rows):=by
   conv=>rhs; rw [← List.map_id (Lc k (La rows))]
   refine List.map_congr_left fun p hp=>?_
   obtain ⟨id,hid,hee⟩:=List.mem_filterMap.1 hp
   cases hg:La rows id with
   | none=>rw [hg] at hee; cases hee
   | some q =>
    rw [hg] at hee
    simp only [Option.map_some,Option.some.injEq] at hee; subst hee
    unfold La at hg
    split at hg
    ·split at hg
     ·cases hg
     ·simp only [Option.some.injEq] at hg; subst hg; rfl
    ·cases hg
  rw [List.map_cons,e3]
  refine congrArg (fun l=>(⟨env,(14,B9.bx l)::Lc k (La rows)⟩:St)) ?_
  apply List.ext_getElem?
  intro i
  simp only [List.getElem?_map,List.getElem?_mapIdx,Option.map_map]
  cases hi:rows[i]? with
  | none=>rfl
  | some r' =>
   simp only [Option.map_some,Function.comp_def,q7u]
   by_cases h0:r'=[]
   ·simp [h0,Bl,frz1,frz0]
   ·simp only [h0,↓reduceIte]
    by_cases hik:i=k
    ·subst hik
     rw [hrow] at hi; cases hi
     rw [if_neg (by omega),if_pos (Nat.le_refl _)]
     simp [Bl,frz1,frz0,Ai,A2]
    ·by_cases hlt:k+1≤i
     ·rw [if_pos hlt,if_pos (by omega)]; rfl
     ·rw [if_neg hlt,if_neg (by omega)]
      simp only [Bl,frz1,frz0]
      rw [if_neg (by omega)]
theorem qG4 {env:List (Nat × AV)} {rows:List Ns} (he:∀ id r,100000≤id→∀ p ∈ env,Bl id r p.2=p.2):∀ k,qEu 100000 k ⟨env,(14,.bx (rows.mapIdx (q7u k)))::Lc k (La rows)⟩=⟨env,(14,.bx (rows.mapIdx (q7u 0)))::[]⟩
 | 0=>by simp [qEu,Lc]
 | k+1=>by
  rw [qEu,qIM he k]
  exact qG4 he k
def qB5 (r:Ns):T:=if r=[] then .sl [] (some 0) (some true) else .sl (Ar tLn r) none none
theorem qIN {env:List (Nat × AV)} {rows:List Ns} (hl:rows.length≤16384) (he:∀ id r,100000≤id→∀ p ∈ env,Bl id r p.2=p.2):Gh.run (.frzs 100000 16384) ⟨env,(14,.bx (Ci rows))::D6 rows⟩=⟨env,[(14,.bx (rows.map fun r=>.t (qB5 r)))]⟩:=by
 have h1:Ci rows=rows.mapIdx (q7u 16384):=by
  apply List.ext_getElem?
  intro i
  simp only [Ci,List.getElem?_mapIdx]
  cases hi:rows[i]? with
  | none=>rfl
  | some r =>
   have:=(List.getElem?_eq_some_iff.1 hi).1
   simp only [Option.map_some,qAA,q7u]
   rw [if_neg (show ¬ 16384≤i by omega)]
 have h2:rows.mapIdx (q7u 0)=rows.map fun r=>.t (qB5 r):=by
  apply List.ext_getElem?
  intro i
  simp only [List.getElem?_mapIdx,List.getElem?_map]
  cases rows[i]? with
  | none=>rfl
  | some r =>
   simp only [Option.map_some,q7u,qB5,Nat.zero_le,↓reduceIte]
   split <;> rfl
 have:=qG4 (rows:=rows) he 16384
 rw [h2] at this
 simp only [Gh.run,h1,D6]
 exact this
theorem Ti {rows:List Ns}:(Ci rows).length=rows.length:=by simp [Ci]
theorem qIO {rows:List Ns} {n:Nat} (h:n<rows.length):((Ci rows).drop n).take 1=[qAA n (rows.getD n [])]:=by
 have:(Ci rows).drop n=qAA n (rows.getD n [])::(Ci rows).drop (n+1):=by
  rw [List.drop_eq_getElem_cons (by rw [Ti]; exact h)]
  simp [Ci,h]
 rw [this]; rfl
theorem qCX {l:Ns}:Cm 2 (Ar tLn l):=q3F fun _=>rfl
theorem qMC {Q:AX→St→Prop} (rows:List Ns) (n:Nat) (hn:n<rows.length) (hn2:rows.length≤16384) (i k:Int) (hr:(rows.getD n []).length≤1000000000) (t4 t18 t19 t20 t26 t27 t28 t36:T) (m:Nat) (hm:m=rows.length)
  (h:Q .normal ⟨[(3,.lb 14 m),(4,.t t4),(5,.t (tI i)),(18,.t t18),(19,.t t19),(20,.t t20),(26,.t t26),(27,.t t27),(28,.t t28)],(14,.bx (Ci (I1 rows n (i,k))))::D6 (I1 rows n (i,k))⟩) :
  Gw Tryz.prog Γ Eb ⟨[(3,.lb 14 m),(4,.t t4),(5,.t (tI i)),(7,.t (tI k)),(8,.t (tI n)),(18,.t t18),(19,.t t19),(20,.t t20),(26,.t t26),(27,.t t27),(28,.t t28),(36,.t t36)],(14,.bx (Ci rows))::D6 rows⟩
   (fun s1=>Q .normal (ghs [.renS 47 100000 8,.keepB [3,4,5,18,19,20,26,27,28] [14] 100000 16384] s1)) ⟨⟩:=by
 subst hm
 have hw:Cm 2 [[tI i,tI k]]:=by intro e he; simp at he; subst he; rfl
 have hlk47:A2 (D6 rows) 47=none:=by rw [D6,Oo,if_neg (by omega)]
 have hat:=qIO hn
 have hlk:A2 (D6 rows) (100000+n)=if rows.getD n []=[] then none else some (.sl 190 2 (Ar tLn (rows.getD n []))):=by
  rw [D6,Oo,if_pos (by omega)]
  unfold La
  rw [show 100000+n - 100000=n by omega,List.getElem?_eq_getElem hn]
  simp [hn]
 have hadd:I1 rows n (i,k)=rows.set n (rows.getD n []++[(i,k)]):=rfl
 have fin:=@qH9
 generalize hrow:rows.getD n []=row at hr hat hlk hadd
 have hlen1:n+1≤rows.length:=hn
 have hset:∀ (j:Nat),j ≠ n→∀ (l:List AV) (x:AV),l.length=rows.length→(l.take n++x::l.drop (n+1))[j]? = l[j]? := by
  intro j hj l x hl
  rw [List.getElem?_append]
  by_cases hlt:j<n
  ·rw [if_pos (by simp; omega),List.getElem?_take,if_pos hlt]
  ·rw [if_neg (by simp; omega)]
   have e:(l.take n).length=n:=by simp; omega
   rw [e,show j - n=(j - n - 1)+1 by omega,List.getElem?_cons_succ,List.getElem?_drop]
   congr 1; omega
 have hseta:∀ (l:List AV) (x:AV),l.length=rows.length→(l.take n++x::l.drop (n+1))[n]? = some x:=by
  intro l x hl
  rw [List.getElem?_append,if_neg (by simp; omega)]
  have e:(l.take n).length=n:=by simp; omega
  rw [e]; simp
 by_cases h0:row=[]
 ·subst h0
  simp only [qAA,↓reduceIte] at hat hlk
  simp (disch:=omega) [-Gh.run,G6,hat,Ti,hn,hw,hlk47,hlen1]
  rw [show ∀ st,A2 st.env 8=some (.t (tI n))→(Gh.renS 47 100000 8).run st=q15 47 (100000+n) st from fun st hs=>by simp [Gh.run,hs]]
  rw [fin (p:=(i,k)) hn hn2 (by simp [Ti]; omega) (fun j hj=>hset j hj _ _ Ti) (by rw [hseta _ _ Ti,hrow]; first | done | rfl) (by rw [hrow]; first | done | rfl) (by simp [A2]) (by rw [A2,if_neg (by omega),A2,if_neg (by omega)]; exact hlk) (fun t h1 h2 h3=>?_) (fun q hq=>?_)]
  ·simpa [Bd,ren1,ren0,Hz] using h
  ·rw [A2,if_neg (by omega),A2,if_neg (by omega),D6,Oo,if_pos (by omega)]
  ·rcases List.mem_cons.1 hq with rfl | hq
   ·exact .inl rfl
   ·rcases List.mem_cons.1 hq with rfl | hq
    ·exact .inr (.inl rfl)
    ·have:=q1E q hq; exact .inr (.inr (by omega))
  ·rfl
 ·simp only [qAA,h0,↓reduceIte] at hat hlk
  have h14:¬ 14=100000+n:=by omega
  have htl:∀ t,A2 ((D6 rows).filter fun p=>p.1 != 100000+n) t=if t=100000+n then none else A2 (D6 rows) t:=fun t=>q6Q (100000+n) (D6 rows) t
  have hkl:∀ l:List (Nat × B9),(∀ p ∈ l,p ∈ D6 rows)→l.map (fun p=>(p.1,Ho (100000+n) p.2))=l:=by
   intro l hl
   conv=>rhs; rw [← List.map_id l]
   refine List.map_congr_left fun p hp=>?_
   obtain ⟨id,hid,hee⟩:=List.mem_filterMap.1 (hl p hp)
   cases hg:La rows id with
   | none=>rw [hg] at hee; cases hee
   | some q =>
    rw [hg] at hee
    simp only [Option.map_some,Option.some.injEq] at hee; subst hee
    unfold La at hg
    split at hg
    ·split at hg
     ·cases hg
     ·simp only [Option.some.injEq] at hg; subst hg; rfl
    ·cases hg
  have hk:(del (100000+n) ((14,B9.bx (Ci rows))::D6 rows)).map (fun p=>(p.1,Ho (100000+n) p.2))=(14,.bx ((Ci rows).map (Aw (100000+n))))::(D6 rows).filter fun p=>p.1 != 100000+n:=by
   have e:del (100000+n) ((14,B9.bx (Ci rows))::D6 rows)=(14,B9.bx (Ci rows))::(D6 rows).filter fun p=>p.1 != 100000+n:=by
    unfold del
    rw [List.filter_cons,if_pos (by simp; omega)]
   rw [e,List.map_cons,hkl _ (fun p hp=>(List.mem_filter.1 hp).1)]
   rfl
  have hl47:A2 ((D6 rows).filter fun p=>p.1 != 100000+n) 47=none:=by rw [htl,if_neg (by omega)]; exact hlk47
  generalize htail:(D6 rows).filter (fun p=>p.1 != 100000+n)=tl at htl hk hl47
  have hkeys:∀ q ∈ tl,100000≤q.1∧q.1<116384:=by
   intro q hq
   rw [← htail] at hq
   have:=q1E q (List.mem_filter.1 hq).1
   omega
  have hcs:∀ j,j ≠ n→((Ci rows).map (Aw (100000+n)))[j]? = (Ci rows)[j]? := by
   intro j hj
   simp only [Ci,List.getElem?_map,List.getElem?_mapIdx,Option.map_map]
   cases rows[j]? with
   | none=>rfl
   | some r =>
    simp only [Option.map_some,Function.comp_def,qAA]
    split
    ·rfl
    ·simp only [Aw,kill1]; rw [if_neg (by omega)]
  have hcl:((Ci rows).map (Aw (100000+n))).length=rows.length:=by simp [Ti]
  simp (disch:=omega) [-Gh.run,G6,-del,-Ho,hat,Ti,hn,hw,hlk,hlen1,Aa,qCX,h14,hk,hl47]
  refine ⟨by omega,?_⟩
  rw [show ∀ st,A2 st.env 8=some (.t (tI n))→(Gh.renS 47 100000 8).run st=q15 47 (100000+n) st from fun st hs=>by simp [Gh.run,hs]]
  ·rw [fin (p:=(i,k)) hn hn2 (by simp [hcl]; omega) (fun j hj=>(hset j hj _ _ hcl).trans (hcs j hj)) (by rw [hseta _ _ hcl,hrow]) (by rw [hrow]; simp [A2]; rw [show [tI i,tI k]=tLn (i,k) from rfl,q18]) (by simp [A2]) (by rw [A2,if_neg (by omega),A2,if_neg (by omega),htl,if_pos rfl]) (fun t h1 h2 h3=>?_) (fun q hq=>?_)]
   ·simpa [Bd,ren1,ren0,Hz] using h
   ·rw [A2,if_neg (by omega),A2,if_neg (by omega),htl,if_neg h3,D6,Oo,if_pos (by omega)]
   ·rcases List.mem_cons.1 hq with rfl | hq
    ·exact .inl rfl
    ·rcases List.mem_cons.1 hq with rfl | hq
     ·exact .inr (.inl rfl)
     ·exact .inr (.inr (hkeys q hq))
  ·rfl
def Ju (c:B0) (i:Nat):List Int→Nat→List Ns→List Ns
 | [],_,rows=>rows
 | n::l,k,rows=>Ju c i l (k+1) (if Qj c n then rows else I1 rows n.toNat (i,k))
def H6 (c:B0):List Nd→Nat→List Ns→List Ns
 | [],_,rows=>rows
 | x::l,i,rows=>H6 c l (i+1) (Ju c i x.inn.l 0 rows)
def RB (rows:List Ns) (B:Nat):Prop:=∀ r ∈ rows,r.length≤B
theorem RB.add {rows:List Ns} {B n:Nat} {p:Int × Int} (h:RB rows B):RB (I1 rows n p) (B+1):=by
 intro r hr
 unfold I1 at hr
 by_cases hn:n<rows.length
 ·rcases List.mem_or_eq_of_mem_set hr with hr | rfl
  ·have:=h r hr; omega
  ·have:(rows.getD n []).length≤B:=by
    have e:rows.getD n []=rows[n]:=by simp [hn]
    rw [e]; exact h _ (List.getElem_mem hn)
   simp at this ⊢; omega
 ·rw [List.set_eq_of_length_le (by omega)] at hr
  have:=h r hr; omega
theorem RB.mono {rows:List Ns} {B C:Nat} (h:RB rows B) (hc:B≤C):RB rows C:=fun r hr=>Nat.le_trans (h r hr) hc
theorem RB.at {rows:List Ns} {B:Nat} (h:RB rows B) (n:Nat):(rows.getD n []).length≤B:=by
 by_cases hn:n<rows.length
 ·have e:rows.getD n []=rows[n]:=by simp [hn]
  rw [e]; exact h _ (List.getElem_mem hn)
 ·simp [List.getD,List.getElem?_eq_none (Nat.not_lt.1 hn)]
theorem Yg (c:B0) (i:Nat):∀ (l:List Int) (k:Nat) (rows:List Ns) (B:Nat),RB rows B→(Ju c i l k rows).length=rows.length∧RB (Ju c i l k rows) (B+l.length)
 | [],k,rows,B,h=>⟨rfl,h⟩
 | n::l,k,rows,B,h=>by
  simp only [Ju,List.length_cons]
  split
  ·have:=Yg c i l (k+1) rows B h
   exact ⟨this.1,this.2.mono (by omega)⟩
  ·have:=Yg c i l (k+1) _ (B+1) (h.add (n:=n.toNat) (p:=(i,k)))
   exact ⟨this.1.trans q5p,this.2.mono (by omega)⟩
theorem q7v {Q:AX→St→Prop} (c:B0) (hn:c.nodes.l.length≤16384) (i:Nat) (s:Sl Int) (hs:s.l.length≤1000000000) (R:List Ns)
  (h0:Q (.exit 2) ⟨[(3,.lb 14 c.nodes.l.length),(4,.t (.fn 245 [.ip (tC c) 0])),(5,.t (tI i)),(18,.t (A5 c.nodes)),(19,.t (tI c.nodes.l.length)),(20,.t (tI i)),(26,.t (B6 s)),(27,.t (tI s.l.length)),(28,.t (tI s.l.length)),(29,.t (tB false))],(14,.bx (Ci R))::D6 R⟩) :
  ∀ (kk k:Nat) (rows:List Ns),kk+k=s.l.length→rows.length=c.nodes.l.length→(∀ n,(rows.getD n []).length+kk≤1000000000)→Ju c i (s.l.drop k) k rows=R →
  run Tryz.prog Γ Iz Q ⟨[(3,.lb 14 c.nodes.l.length),(4,.t (.fn 245 [.ip (tC c) 0])),(5,.t (tI i)),(18,.t (A5 c.nodes)),(19,.t (tI c.nodes.l.length)),(20,.t (tI i)),(26,.t (B6 s)),(27,.t (tI s.l.length)),(28,.t (tI k))],(14,.bx (Ci rows))::D6 rows⟩
 | 0,k,rows,h,hl,hb,hR=>by
  refine Qe fun K hK=>?_
  have h2:¬ k<s.l.length:=by omega
  have h3:k=s.l.length:=by omega
  simp [h2,-Gh.run,G6,Xf]
  subst h3
  rw [List.drop_of_length_le (Nat.le_refl _)] at hR
  simp only [Ju] at hR
  subst hR
  exact h0
 | kk+1,k,rows,h,hl,hb,hR=>by
  refine Qe fun K hK=>?_
  have h2:k<s.l.length:=by omega
  rw [List.drop_eq_getElem_cons h2] at hR
  simp only [Ju] at hR
  have e:=q0p (Γ:=Γ) c s.l[k] (by omega)
  simp (disch:=omega) [h2,-Gh.run,G6,Xf,-Eb,B6,A0,By (0:Int),A6]
  refine Yf e ?_
  by_cases ho:Qj c s.l[k]=true
  ·rw [if_pos ho] at hR
   simp (disch:=omega) [ho,-Gh.run,G6,Xf,-Eb,A4]
   rw [hK]
   have:=q7v c hn i s hs R h0 kk (k+1) rows (by omega) hl (fun n=>by have:=hb n; omega) hR
   simpa [B6] using this
  ·have ho':Qj c s.l[k]=false:=by simpa using ho
   rw [if_neg ho] at hR
   have hr:=q4P (c:=c) (l:=[s.l[k]]) (by simp [ho']) s.l[k] (by simp)
   simp (disch:=omega) [ho',-Gh.run,G6,Xf,-Eb]
   have hz:((s.l[k]).toNat:Int)=s.l[k]:=by omega
   have:=qMC (Γ:=Γ) (Q:=Nj 3 (Am (run Tryz.prog Γ (.reg Nn [.keepB [3,4,5,18,19,20,26,27,28] [14] 100000 16384]) (Am (fun s=>Am K Q .normal (ghs [.keepB [3,4,5,18,19,20,26,27,28] [14] 100000 16384] s)) (Am K Q))) (Am (fun s=>Am K Q .normal (ghs [.keepB [3,4,5,18,19,20,26,27,28] [14] 100000 16384] s)) (Am K Q)))) rows (s.l[k]).toNat (by omega) (by omega) i k (by have:=hb (s.l[k]).toNat; omega)
    (.fn 245 [.ip (tC c) 0]) (A5 c.nodes) (tI c.nodes.l.length) (tI i) (.sl (Av s.l) s.cap s.nl) (tI s.l.length) (tI k) (tB true) c.nodes.l.length hl.symm ?_
   ·rw [hz] at this; exact this
   ·simp (disch:=omega) [-Gh.run,G6,Xf,A4]
    rw [hK]
    have hbb:∀ n,((I1 rows (s.l[k]).toNat (i,k)).getD n []).length+kk≤1000000000:=by
     intro n
     unfold I1
     have h5:=hb n
     have h6:=hb (s.l[k]).toNat
     by_cases hq:n=(s.l[k]).toNat
     ·subst hq
      have hlt:(s.l[k]).toNat<rows.length:=by omega
      simp [List.getD,List.getElem?_set,hlt] at h6 ⊢
      omega
     ·have:¬ (s.l[k]).toNat=n:=fun e=>hq e.symm
      simp [List.getD,List.getElem?_set,this] at h5 ⊢
      omega
    have:=q7v c hn i s hs R h0 kk (k+1) (I1 rows (s.l[k]).toNat (i,k)) (by omega) (q5p.trans hl) hbb hR
    simpa [B6] using this
theorem qK6 {ks rs:List Nat} {st:St}:Gh.run (.keep ks rs) st=⟨(It ((st.hp.map (·.1)).filter fun id=>!rs.contains id) ⟨Lg.keep ks st.env,st.hp⟩).env,Lg.keep rs (It ((st.hp.map (·.1)).filter fun id=>!rs.contains id) ⟨Lg.keep ks st.env,st.hp⟩).hp⟩:=rfl
theorem qIP {env:List (Nat × AV)} {ks:List Nat} {rows:List Ns} {q:B9}:Gh.run (.keepB ks [6,14] 100000 16384) ⟨env,(6,q)::(14,.bx (Ci rows))::D6 rows⟩=⟨Lg.keep ks env,(6,q)::(14,.bx (Ci rows))::D6 rows⟩:=by
 have hk:(((6,q)::(14,B9.bx (Ci rows))::D6 rows).map (·.1)).filter (fun id=>!([6,14]:List Nat).contains id && !(decide (100000≤id) && decide (id<100000+16384)))=[]:=by
  rw [List.filter_eq_nil_iff]
  intro id hid
  simp only [List.map_cons,List.mem_cons] at hid
  rcases hid with rfl | rfl | hid
  ·simp
  ·simp
  ·obtain ⟨p,hp,rfl⟩:=List.mem_map.1 hid
   have:=q1E p hp
   simp; omega
 simp only [Gh.run,q9O,hk,It,q7q,qA1,A2,↓reduceIte]
 simp only [show ¬ (6=14) by omega,↓reduceIte,List.cons_append,List.nil_append]
 congr 3
 refine qBf fun t ht=>?_
 rw [List.mem_range'_1] at ht
 rw [A2,if_neg (by omega),q4Q,if_neg (by omega),if_pos ⟨ht.1,by omega⟩]
theorem qAC {Q:AX→St→Prop} (c:B0) (hn:c.nodes.l.length≤16384) (hi:∀ x ∈ c.nodes.l,x.inn.l.length≤16) (R:List Ns)
  (h0:Q (.exit 0) ⟨[(3,.lb 14 c.nodes.l.length),(4,.t (.fn 245 [.ip (tC c) 0])),(18,.t (A5 c.nodes)),(19,.t (tI c.nodes.l.length)),(20,.t (tI c.nodes.l.length)),(21,.t (tB false))],(14,.bx (Ci R))::D6 R⟩) :
  ∀ (kk i:Nat) (rows:List Ns),kk+i=c.nodes.l.length→rows.length=c.nodes.l.length→RB rows (16*i)→H6 c (c.nodes.l.drop i) i rows=R →
  run Tryz.prog Γ J0 Q ⟨[(3,.lb 14 c.nodes.l.length),(4,.t (.fn 245 [.ip (tC c) 0])),(18,.t (A5 c.nodes)),(19,.t (tI c.nodes.l.length)),(20,.t (tI i))],(14,.bx (Ci rows))::D6 rows⟩
 | 0,i,rows,h,hl,hb,hR=>by
  refine Qf fun K hK=>?_
  have h2:¬ i<c.nodes.l.length:=by omega
  have h3:i=c.nodes.l.length:=by omega
  simp [h2,-Gh.run,G6,Xf]
  subst h3
  rw [List.drop_of_length_le (Nat.le_refl _)] at hR
  simp only [H6] at hR
  subst hR
  exact h0
 | kk+1,i,rows,h,hl,hb,hR=>by
  refine Qf fun K hK=>?_
  have h2:i<c.nodes.l.length:=by omega
  rw [List.drop_eq_getElem_cons h2] at hR
  simp only [H6] at hR
  have hx:=hi _ (List.getElem_mem h2)
  have hlk6:A2 (D6 rows) 6=none:=by rw [D6,Oo,if_neg (by omega)]
  simp (disch:=omega) [h2,-Gh.run,G6,Xf,qK5,qIP,A5,Aa,E5 Nd.d,Bf,Dn,B6,hlk6,A0]
  refine q7v c hn i c.nodes.l[i].inn (by omega) _ ?_ c.nodes.l[i].inn.l.length 0 rows (by omega) hl (fun n=>by have:=hb.at n; omega) rfl
  obtain ⟨hf1,hf2⟩:=Yg c i c.nodes.l[i].inn.l 0 rows (16*i) hb
  simp (disch:=omega) [-Gh.run,G6,Xf,A4,List.drop_zero]
  rw [hK]
  have:=qAC c hn hi R h0 kk (i+1) _ (by omega) (hf1.trans hl) (hf2.mono (by omega)) hR
  simpa [A5] using this
def Yh (r:Ns):T:=.sl (Ar tLn r) (some r.length) (if r=[] then some true else none)
theorem qIQ (r:Ns):Ab Tryz.prog Γ 204 [qB5 r] (Yh r):=by
 unfold qB5 Yh
 by_cases h:r=[]
 ·subst h; simpa [Ar] using qBd (Γ:=Γ) [] (some 0) (some true) qK2
 ·rw [if_neg h,if_neg h]
  have:=qBd (Γ:=Γ) (Ar tLn r) none none qCX
  rwa [Aa] at this
def q23 (rows:List Ns) (i:Nat):List AV:=rows.mapIdx fun j r=>.t (if j<i then Yh r else qB5 r)
theorem q6n {rows:List Ns} {i:Nat}:(q23 rows i).length=rows.length:=by simp [q23]
theorem qK7 {rows:List Ns} {i:Nat} (h:i<rows.length):((q23 rows i).drop i).take 1=[.t (qB5 rows[i])]:=by
 rw [List.drop_eq_getElem_cons (by rw [q6n]; exact h)]
 simp [q23]
theorem qHA {rows:List Ns} {i:Nat} (h:i<rows.length):(q23 rows i).take i++.t (Yh rows[i])::(q23 rows i).drop (i+1)=q23 rows (i+1):=by
 apply List.ext_getElem?
 intro j
 rw [List.getElem?_append]
 have e:((q23 rows i).take i).length=i:=by simp [q6n]; omega
 rw [e]
 by_cases h1:j<i
 ·rw [if_pos h1,List.getElem?_take,if_pos h1]
  simp only [q23,List.getElem?_mapIdx]
  cases rows[j]? with
  | none=>rfl
  | some r=>simp only [Option.map_some]; rw [if_pos h1,if_pos (by omega)]
 ·rw [if_neg h1]
  by_cases h2:j=i
  ·subst h2
   simp [q23,List.getElem?_eq_getElem h]
  ·rw [show j - i=(j - i - 1)+1 by omega,List.getElem?_cons_succ,List.getElem?_drop]
   rw [show i+1+(j - i - 1)=j by omega]
   simp only [q23,List.getElem?_mapIdx]
   cases rows[j]? with
   | none=>rfl
   | some r=>simp only [Option.map_some]; rw [if_neg h1,if_neg (by omega)]
theorem qBg {Q:AX→St→Prop} (rows:List Ns) (hn:rows.length≤16384)
  (h0:Q (.exit 4) ⟨[(3,.lb 14 rows.length),(51,.lb 14 rows.length),(52,.t (tI rows.length)),(53,.t (tI rows.length)),(54,.t (tB false))],[(14,.bx (q23 rows rows.length))]⟩) :
  ∀ (kk i:Nat),kk+i=rows.length →
  run Tryz.prog Γ J1 Q ⟨[(3,.lb 14 rows.length),(51,.lb 14 rows.length),(52,.t (tI rows.length)),(53,.t (tI i))],[(14,.bx (q23 rows i))]⟩
 | 0,i,h=>by
  refine Qg fun K hK=>?_
  have h2:¬ i<rows.length:=by omega
  have h3:i=rows.length:=by omega
  simp [h2]
  subst h3
  exact h0
 | kk+1,i,h=>by
  refine Qg fun K hK=>?_
  have h2:i<rows.length:=by omega
  have h3:i+1≤rows.length:=h2
  have e:=qIQ (Γ:=Γ) rows[i]
  have ho:(qB5 rows[i]).one=true:=by unfold qB5; split <;> rfl
  simp (disch:=omega) [h2,h3,qK7 h2,q6n]
  refine A9 e rfl ?_
  simp (disch:=omega) [h2,h3,q6n,A4,Yh]
  rw [hK]
  have:=qBg rows hn h0 kk (i+1) (by omega)
  rw [← qHA h2] at this
  simpa [Yh] using this
def F5 (c:B0):List Ns:=H6 c c.nodes.l 0 (List.replicate c.nodes.l.length [])
def qDX (rows:List Ns):T:=.sl (Ac Yh rows) (some rows.length) none
theorem q6o (c:B0):∀ (l:List Nd) (i:Nat) (rows:List Ns),(H6 c l i rows).length=rows.length
 | [],_,_=>rfl
 | x::l,i,rows=>by
  simp only [H6]
  rw [q6o c l]
  exact (Yg c i x.inn.l 0 rows (rows.foldr (fun r m=>r.length+m) 0) (by
   intro r hr
   induction rows with
   | nil=>cases hr
   | cons y ys ih =>
    simp only [List.foldr_cons]
    rcases List.mem_cons.1 hr with rfl | hr
    ·omega
    ·have:=ih hr; omega)).1
theorem Zy (c:B0):(F5 c).length=c.nodes.l.length:=by rw [F5,q6o]; simp
theorem qDY (c:B0) (hn:c.nodes.l.length≤16384) (hi:∀ x ∈ c.nodes.l,x.inn.l.length≤16):Ab Tryz.prog Γ 138 [.agg (tC c)] (qDX (F5 c)):=by
 refine Aq q4e rfl ?_
 have eo:=Xd (Γ:=Γ) c
 have hR:=Zy c
 have hk1:∀ (env:List (Nat × AV)) (ks:List Nat),Gh.run (.keepB ks [14] 100000 16384) ⟨env,[(14,.bx (List.replicate c.nodes.l.length (.t (.sl [] (some 0) (some true)))))]⟩=⟨Lg.keep ks env,(14,.bx (Ci (List.replicate c.nodes.l.length [])))::D6 (List.replicate c.nodes.l.length [])⟩:=by
  intro env ks
  have hc:Ci (List.replicate c.nodes.l.length [])=List.replicate c.nodes.l.length (.t (.sl [] (some 0) (some true))):=by
   apply List.ext_getElem?
   intro j
   simp only [Ci,List.getElem?_mapIdx,List.getElem?_replicate]
   split <;> simp [qAA]
  refine q7t (by simp) (by simp [A2,hc]) fun t h1 h2=>?_
  rw [A2,if_neg (by omega)]
  unfold La
  rw [List.getElem?_replicate]
  split <;> rename_i hq
  ·split at hq
   ·simp only [Option.some.injEq] at hq; subst hq; rfl
   ·cases hq
  ·rfl
 simp (disch:=omega) [Y8,tC,A5,A8,Ad,B6,Aa,-Gh.run,G6,qK6,hk1,A4]
 refine ⟨by omega,?_⟩
 refine A9 eo rfl ?_
 simp (disch:=omega) [-Gh.run,G6,Xf,Aa]
 have hp0:RB (List.replicate c.nodes.l.length []) (16*0):=by
  intro r hr; rw [List.eq_of_mem_replicate hr]; simp
 refine qAC c hn hi (F5 c) ?_ c.nodes.l.length 0 (List.replicate c.nodes.l.length []) (by omega) (by simp) hp0 rfl
 generalize F5 c=R at hR
 rw [← hR]
 simp (disch:=omega) [-Gh.run,G6]
 rw [qIN (by omega) (fun id r h p hp=>by
  simp only [List.mem_cons,List.not_mem_nil,or_false] at hp
  have h14:¬ 14=id:=by omega
  rcases hp with rfl | rfl | rfl | rfl | rfl | rfl | rfl | rfl | rfl <;> simp [Bl,frz1,frz0,h14])]
 have hmix:(R.map fun r=>AV.t (qB5 r))=q23 R 0:=by
  apply List.ext_getElem?
  intro j
  simp only [List.getElem?_map,q23,List.getElem?_mapIdx]
  cases R[j]? <;> simp
 rw [hmix]
 simp
 refine qBg R (by omega) ?_ R.length 0 (by omega)
 have hfin:q23 R R.length=(R.map Yh).map .t:=by
  apply List.ext_getElem?
  intro j
  simp only [List.getElem?_map,q23,List.getElem?_mapIdx,Option.map_map]
  cases hj:R[j]? with
  | none=>rfl
  | some r =>
   have:=(List.getElem?_eq_some_iff.1 hj).1
   simp only [Option.map_some,Function.comp_def]
   rw [if_pos this]
 have hopt:Ah ((q23 R R.length).map (Ai [(14,.bx (q23 R R.length))] 3))=some (R.map Yh):=by
  conv=>lhs; rw [hfin]
  rw [List.map_map]
  have:(R.map Yh).map (Ai [(14,.bx ((R.map Yh).map .t))] 3 ∘ AV.t)=(R.map Yh).map fun t=>some t:=List.map_congr_left fun t _=>by simp [Ai]
  rw [this]; exact Pm
 simp [Y9,qDX,hopt,Ac]
end Go.Lg
namespace Go.Lg
open Go Go.Proofs
def Zz (N:Nat) (rows:List Ns):Prop:=∀ r ∈ rows,∀ p ∈ r,∃ i:Nat,i<N∧p.1=i
theorem Zz.add {N:Nat} {rows:List Ns} {n i:Nat} {k:Int} (h:Zz N rows) (hi:i<N):Zz N (I1 rows n (i,k)):=by
 intro r hr p hp
 unfold I1 at hr
 by_cases hn:n<rows.length
 ·rcases List.mem_or_eq_of_mem_set hr with hr | rfl
  ·exact h r hr p hp
  ·rcases List.mem_append.1 hp with hp | hp
   ·have e:rows.getD n []=rows[n]:=by simp [hn]
    rw [e] at hp
    exact h _ (List.getElem_mem hn) p hp
   ·simp at hp; subst hp; exact ⟨i,hi,rfl⟩
 ·rw [List.set_eq_of_length_le (by omega)] at hr
  exact h r hr p hp
theorem q5q {N:Nat} (c:B0) (i:Nat) (hi:i<N):∀ (l:List Int) (k:Nat) (rows:List Ns),Zz N rows→Zz N (Ju c i l k rows)
 | [],_,_,h=>h
 | n::l,k,rows,h=>by
  simp only [Ju]
  split
  ·exact q5q c i hi l (k+1) rows h
  ·exact q5q c i hi l (k+1) _ (h.add hi)
theorem q8Y {N:Nat} (c:B0):∀ (l:List Nd) (i:Nat) (rows:List Ns),i+l.length≤N→Zz N rows→Zz N (H6 c l i rows)
 | [],_,_,_,h=>h
 | x::l,i,rows,hl,h=>by
  simp only [H6]
  simp at hl
  exact q8Y c l (i+1) _ (by omega) (q5q c i (by omega) _ _ _ h)
theorem q5r (c:B0):Zz c.nodes.l.length (F5 c):=by
 refine q8Y c c.nodes.l 0 _ (by omega) fun r hr p hp=>?_
 rw [List.eq_of_mem_replicate hr] at hp; cases hp
theorem q8Z (c:B0):∀ (l:List Nd) (i B:Nat) (rows:List Ns),(∀ x ∈ l,x.inn.l.length≤16)→RB rows B→RB (H6 c l i rows) (B+16*l.length)
 | [],_,_,_,_,h=>h
 | x::l,i,B,rows,hl,h=>by
  simp only [H6,List.length_cons]
  have h1:=(Yg c i x.inn.l 0 rows B h).2
  have h2:=hl x List.mem_cons_self
  exact (q8Z c l (i+1) (B+16) _ (fun y hy=>hl y (List.mem_cons_of_mem _ hy)) (h1.mono (by omega))).mono (by omega)
theorem qF5 (c:B0) (hn:c.nodes.l.length≤16384) (hi:∀ x ∈ c.nodes.l,x.inn.l.length≤16):RB (F5 c) 262144:=by
 refine (q8Z c c.nodes.l 0 0 _ hi fun r hr=>?_).mono (by omega)
 rw [List.eq_of_mem_replicate hr]; simp
structure LS where
 out:List Int
 left:List Int
 rdy:List Int
def E6 (k:Int):Bool:=decide (1≤k∧k≤13)
def Az (c:B0) (j:Nat):Int:=(c.nodes.l.getD j Nd.d).k
def E7 (c:B0) (n:Nat) (s:LS) (p:Int × Int):LS :=
 if E6 (Az c p.1.toNat) then
  ⟨s.out.set p.1.toNat (max (s.out.getD p.1.toNat 0) (s.out.getD n 0+1)),s.left.set p.1.toNat (s.left.getD p.1.toNat 0 - 1),if s.left.getD p.1.toNat 0 - 1=0 then s.rdy++[p.1] else s.rdy⟩
 else s
def Gq (c:B0) (n:Nat):Ns:=(F5 c).getD n []
def N5 (c:B0):Nat→Nat→LS→Nat × LS
 | 0,d,s=>(d,s)
 | f+1,d,s=>if d<s.rdy.length then N5 c f (d+1) ((Gq c (s.rdy.getD d 0).toNat).foldl (E7 c (s.rdy.getD d 0).toNat) s) else (d,s)
def Dp (x:Nd):Int:=if E6 x.k then x.inn.l.length else 0
def Ds:List Nd→Nat→List Int
 | [],_=>[]
 | x::l,i=>if Dp x=0 then (i:Int)::Ds l (i+1) else Ds l (i+1)
def I2 (c:B0):LS:=⟨List.replicate c.nodes.l.length 0,c.nodes.l.map Dp,Ds c.nodes.l 0⟩
def Oq (c:B0):Nat × LS:=N5 c (c.nodes.l.length+1) 0 (I2 c)
structure LI (N M:Nat) (s:LS):Prop where
 lo:s.out.length=N
 ll:s.left.length=N
 rd:∀ j ∈ s.rdy,∃ i:Nat,i<N∧j=i∧s.left.getD i 0≤0
 nd:s.rdy.Nodup
 bo:∀ i,0≤s.out.getD i 0∧s.out.getD i 0≤M
 bl:∀ i,-(M:Int)≤s.left.getD i 0∧s.left.getD i 0≤1000
theorem qBh {N:Nat} {l:List Int} (h:l.Nodup) (hb:∀ j ∈ l,∃ i:Nat,i<N∧j=i):l.length≤N:=by
 have h1:(l.map Int.toNat).Nodup:=by
  rw [List.nodup_iff_pairwise_ne] at h ⊢
  rw [List.pairwise_map]
  refine h.imp_of_mem fun {a b} ha hb' hne e=>hne ?_
  obtain ⟨i,_,rfl⟩:=hb a ha
  obtain ⟨j,_,rfl⟩:=hb b hb'
  have:i=j:=by simpa using e
  rw [this]
 have h2:(l.map Int.toNat) ⊆ List.range N:=by
  intro j hj
  obtain ⟨a,ha,rfl⟩:=List.mem_map.1 hj
  obtain ⟨i,hi,rfl⟩:=hb a ha
  simpa using hi
 have:=(List.Nodup.length_le_of_subset h1 h2)
 simpa using this
theorem LI.len {N M:Nat} {s:LS} (h:LI N M s):s.rdy.length≤N:=qBh h.nd fun j hj=>by obtain ⟨i,h1,h2,_⟩:=h.rd j hj; exact ⟨i,h1,h2⟩
theorem I3 {l:List Int} {j i:Nat} {v:Int} (hj:j<l.length):(l.set j v).getD i 0=if i=j then v else l.getD i 0:=by
 simp only [List.getD,List.getElem?_set]
 by_cases h:j=i
 ·subst h; simp [hj]
 ·simp [h,Ne.symm h]
theorem LI.step {N M:Nat} {c:B0} {s:LS} {n i:Nat} {k:Int} (h:LI N M s) (hi:i<N):LI N (M+1) (E7 c n s (i,k)):=by
 unfold E7
 simp only [Int.toNat_natCast]
 split
 case isFalse=>exact ⟨h.lo,h.ll,h.rd,h.nd,fun j=>⟨(h.bo j).1,by have:=(h.bo j).2; omega⟩,fun j=>⟨by have:=(h.bl j).1; omega,(h.bl j).2⟩⟩
 refine ⟨by simp [h.lo],by simp [h.ll],?_,?_,?_,?_⟩
 ·intro j hj
  have old:∀ j ∈ s.rdy,∃ i0:Nat,i0<N∧j=i0∧(s.left.set i (s.left.getD i 0 - 1)).getD i0 0≤0:=by
   intro j hj
   obtain ⟨i0,h1,h2,h3⟩:=h.rd j hj
   refine ⟨i0,h1,h2,?_⟩
   rw [I3 (by rw [h.ll]; exact hi)]
   split
   ·rename_i e; subst e; omega
   ·exact h3
  split at hj
  ·rename_i hz
   rcases List.mem_append.1 hj with hj | hj
   ·exact old j hj
   ·simp at hj; subst hj
    refine ⟨i,hi,rfl,?_⟩
    rw [I3 (by rw [h.ll]; exact hi),if_pos rfl]; omega
  ·exact old j hj
 ·split
  ·rename_i hz
   rw [List.nodup_append]
   refine ⟨h.nd,by simp,?_⟩
   intro a ha b hb e
   simp at hb; subst hb; subst e
   obtain ⟨i0,h1,h2,h3⟩:=h.rd _ ha
   have:i=i0:=by omega
   subst this
   omega
  ·exact h.nd
 ·intro j
  rw [I3 (by rw [h.lo]; exact hi)]
  have h1:=h.bo j
  have h2:=h.bo i
  have h3:=h.bo n
  split
  ·rename_i e
   omega
  ·omega
 ·intro j
  rw [I3 (by rw [h.ll]; exact hi)]
  have h1:=h.bl j
  have h2:=h.bl i
  split <;> omega
theorem LI.fold {N:Nat} {c:B0} {n:Nat}:∀ {r:Ns} {s:LS} {M:Nat},LI N M s→(∀ p ∈ r,∃ i:Nat,i<N∧p.1=i)→LI N (M+r.length) (r.foldl (E7 c n) s)
 | [],_,_,h,_=>h
 | p::r,s,M,h,hr=>by
  obtain ⟨i,hi,he⟩:=hr p List.mem_cons_self
  obtain ⟨p1,p2⟩:=p
  simp only at he; subst he
  have:=LI.fold (c:=c) (n:=n) (h.step (c:=c) (n:=n) (k:=p2) hi) fun q hq=>hr q (List.mem_cons_of_mem _ hq)
  simp only [List.foldl_cons,List.length_cons]
  rw [show M+(r.length+1)=M+1+r.length by omega]
  exact this
theorem q5s:∀ (l:List Nd) (i:Nat),(∀ j ∈ Ds l i,∃ a:Nat,i≤a∧a<i+l.length∧j=a∧(l.map Dp).getD (a - i) 0=0)∧(Ds l i).Nodup
 | [],_=>⟨fun j h=>(by cases h),List.nodup_nil⟩
 | x::l,i=>by
  obtain ⟨h1,h2⟩:=q5s l (i+1)
  have h3:∀ j ∈ Ds l (i+1),∃ a:Nat,i≤a∧a<i+(l.length+1)∧j=a∧((x::l).map Dp).getD (a - i) 0=0:=by
   intro j hj
   obtain ⟨a,e1,e2,e3,e4⟩:=h1 j hj
   refine ⟨a,by omega,by omega,e3,?_⟩
   rw [show a - i=(a - (i+1))+1 by omega]
   simpa using e4
  simp only [Ds,List.length_cons]
  split
  ·rename_i hz
   refine ⟨fun j hj=>?_,?_⟩
   ·rcases List.mem_cons.1 hj with rfl | hj
    ·exact ⟨i,by omega,by omega,rfl,by simp [hz]⟩
    ·exact h3 j hj
   ·rw [List.nodup_cons]
    refine ⟨fun hm=>?_,h2⟩
    obtain ⟨a,e1,_,e3,_⟩:=h1 _ hm
    omega
  ·exact ⟨h3,h2⟩
theorem qDZ (c:B0) (hi:∀ x ∈ c.nodes.l,x.inn.l.length≤16):LI c.nodes.l.length 0 (I2 c):=by
 obtain ⟨h1,h2⟩:=q5s c.nodes.l 0
 refine ⟨by simp [I2],by simp [I2],fun j hj=>?_,h2,fun i=>?_,fun i=>?_⟩
 ·obtain ⟨a,_,e2,e3,e4⟩:=h1 j hj
  exact ⟨a,by omega,e3,by simp only [Nat.sub_zero] at e4; simp only [I2]; omega⟩
 ·simp only [I2,List.getD,List.getElem?_replicate]
  split <;> simp
 ·simp only [I2,List.getD,List.getElem?_map]
  cases hx:c.nodes.l[i]? with
  | none=>simp
  | some x =>
   have:=hi x (List.mem_of_getElem? hx)
   simp only [Option.map_some,Option.getD_some,Dp]
   split <;> simp <;> omega
end Go.Lg
namespace Go.Lg
open Go Go.Proofs
variable {Γ:Tables}
theorem q6p {α:Type} {f:α→T} {l:List α} {j:Nat} {x:α} (h:j<l.length):(Ac f (l.set j x))[j]?.getD []=[f x]:=by simp [Ac,h]
theorem qK8 {r:Ns} {i:Nat} (h:i<r.length):(Ar tLn r)[i]?.getD []=tLn r[i]:=by simp [Ar,h]
def lsH (s:LS):List (Nat × B9):=[(23,.sl 3 1 (Av s.out)),(27,.sl 3 1 (Av s.left)),(53,.sl 3 1 (Av s.rdy))]
theorem q5t {Q:AX→St→Prop} (c:B0) (hc:CirOk c) (hn:c.nodes.l.length≤16384) (n:Nat) (hnn:n<c.nodes.l.length) (d:Int) (r:Ns) (nl:Option Bool) (hr:r.length≤262144) (hin:∀ p ∈ r,∃ i:Nat,i<c.nodes.l.length∧p.1=i) (Vs:T) (S:LS)
  (h0:Q (.exit 4) ⟨[(1,.t (.ip (tC c) 0)),(5,.ls 23 0 c.nodes.l.length none),(6,.ls 27 0 c.nodes.l.length none),(7,.ls 53 0 S.rdy.length none),(10,.t Vs),(11,.t (tI d)),(12,.t (tI n)),(76,.t (.sl (Ar tLn r) (some r.length) nl)),(77,.t (tI r.length)),(78,.t (tI r.length)),(79,.t (tB false))],lsH S⟩) :
  ∀ (kk k:Nat) (s:LS) (M:Nat),kk+k=r.length→LI c.nodes.l.length M s→M+kk≤4611686018427387904→(r.drop k).foldl (E7 c n) s=S →
  run Tryz.prog Γ Iw Q ⟨[(1,.t (.ip (tC c) 0)),(5,.ls 23 0 c.nodes.l.length none),(6,.ls 27 0 c.nodes.l.length none),(7,.ls 53 0 s.rdy.length none),(10,.t Vs),(11,.t (tI d)),(12,.t (tI n)),(76,.t (.sl (Ar tLn r) (some r.length) nl)),(77,.t (tI r.length)),(78,.t (tI k))],lsH s⟩
 | 0,k,s,M,h,hI,hM,hS=>by
  refine Qc fun K hK=>?_
  have h2:¬ k<r.length:=by omega
  have h3:k=r.length:=by omega
  simp [h2,lsH]
  subst h3
  rw [List.drop_of_length_le (Nat.le_refl _)] at hS
  simp only [List.foldl_nil] at hS
  subst hS
  exact h0
 | kk+1,k,s,M,h,hI,hM,hS=>by
  refine Qc fun K hK=>?_
  have h2:k<r.length:=by omega
  rw [List.drop_eq_getElem_cons h2] at hS
  simp only [List.foldl_cons] at hS
  obtain ⟨j,hj,hpj⟩:=hin _ (List.getElem_mem h2)
  have hstep:=hI.step (c:=c) (n:=n) (k:=r[k].2) hj
  have hpair:r[k]=((j:Int),r[k].2):=by rw [← hpj]
  rw [hpair] at hS
  generalize r[k].2=q at hS hstep hpair
  have e:=q7s (Γ:=Γ) c.nodes.l[j].k
  have hkind:Az c j=c.nodes.l[j].k:=by simp [Az,hj]
  simp (disch:=omega) [h2,lsH,Aa,qK8 h2,qCX,hpair,tLn,tC,A5,E5 Nd.d,Bf,Dn,B6,hj]
  refine A1 e rfl ?_
  by_cases hcb:E6 c.nodes.l[j].k=true
  case neg =>
   have hcb':decide (1≤c.nodes.l[j].k∧c.nodes.l[j].k≤13)=false:=by simpa [E6] using hcb
   have hcb2:E6 (Az c j)=false:=by rw [hkind]; exact hcb'
   have hst:E7 c n s ((j:Int),q)=s:=by unfold E7; simp [hcb2]
   rw [hst] at hS hstep
   rw [hcb']
   simp (disch:=omega) [A4]
   rw [hK]
   have:=q5t c hc hn n hnn d r nl hr hin Vs S h0 kk (k+1) s (M+1) (by omega) hstep (by omega) hS
   simpa [lsH,tC,A5,B6] using this
  have hcb':decide (1≤c.nodes.l[j].k∧c.nodes.l[j].k≤13)=true:=by simpa [E6] using hcb
  have hcb2:E6 (Az c j)=true:=by rw [hkind]; exact hcb'
  rw [hcb']
  have ho:=hI.lo
  have hll:=hI.ll
  have b1:=hI.bo n
  have b2:=hI.bo j
  have b3:=hI.bl j
  have hrl:=hI.len
  have hst:E7 c n s ((j:Int),q)=⟨s.out.set j (max (s.out.getD j 0) (s.out.getD n 0+1)),s.left.set j (s.left.getD j 0 - 1),if s.left.getD j 0 - 1=0 then s.rdy++[(j:Int)] else s.rdy⟩:=by
   unfold E7; simp [hcb2]
  have hw:Cm 1 [[tI (j:Int)]]:=by intro e he; simp at he; subst he; rfl
  have hmax:max (s.out.getD j 0) (s.out.getD n 0+1)=if s.out.getD j 0<s.out.getD n 0+1 then s.out.getD n 0+1 else s.out.getD j 0:=by
   split <;> omega
  have ih:=fun S2 (e:S2=E7 c n s ((j:Int),q))=>q5t c hc hn n hnn d r nl hr hin Vs S h0 kk (k+1) S2 (M+1) (by omega) (e ▸ hstep) (by omega) (e ▸ hS)
  have ljo:j<s.out.length:=by omega
  have lno:n<s.out.length:=by omega
  have ljl:j<s.left.length:=by omega
  simp only [List.getD,List.getElem?_eq_getElem ljo,List.getElem?_eq_getElem lno,List.getElem?_eq_getElem ljl,Option.getD_some] at b1 b2 b3 hst hmax
  have b1a:=b1.1
  have b1b:=b1.2
  have b2a:=b2.1
  have b2b:=b2.2
  have b3a:=b3.1
  have b3b:=b3.2
  simp (disch:=omega) [A4,A0,By (0:Int),A6,Jb,ljo,lno,ljl,hj,hnn]
  rw [show (if s.out[j]<s.out[n]+1 then s.out[n]+1 else s.out[j])=max s.out[j] (s.out[n]+1) from hmax.symm]
  by_cases hz:s.left[j] - 1=0
  ·rw [if_pos hz] at hst
   have ih':=ih _ hst.symm
   simp (disch:=omega) [hz,A4,A0,A6,hw,q6p]
   refine ⟨by omega,?_⟩
   rw [hK]
   rw [Be (f:=tI) (x:=(j:Int))]
   simpa [lsH,tC,A5,B6,hz] using ih'
  ·rw [if_neg hz] at hst
   have ih':=ih _ hst.symm
   simp (disch:=omega) [hz,A4,q6p,A6]
   rw [hK]
   simpa [lsH,tC,A5,B6] using ih'
theorem qBi {Q:AX→St→Prop} (c:B0) (hc:CirOk c) (hn:c.nodes.l.length≤16384) (hi:∀ x ∈ c.nodes.l,x.inn.l.length≤16) (R:Nat × LS)
  (h0:Q (.exit 2) ⟨[(1,.t (.ip (tC c) 0)),(5,.ls 23 0 c.nodes.l.length none),(6,.ls 27 0 c.nodes.l.length none),(7,.ls 53 0 R.2.rdy.length none),(10,.t (qDX (F5 c))),(11,.t (tI R.1)),(60,.t (tB false))],lsH R.2⟩) :
  ∀ (f d:Nat) (s:LS) (M:Nat),f+d=c.nodes.l.length+1→LI c.nodes.l.length M s→M=d*262144→N5 c f d s=R →
  run Tryz.prog Γ Ix Q ⟨[(1,.t (.ip (tC c) 0)),(5,.ls 23 0 c.nodes.l.length none),(6,.ls 27 0 c.nodes.l.length none),(7,.ls 53 0 s.rdy.length none),(10,.t (qDX (F5 c))),(11,.t (tI d))],lsH s⟩
 | 0,d,s,M,h,hI,hM,hR=>by
  refine Qd fun K hK=>?_
  have hlen:=hI.len
  have h2:¬ d<s.rdy.length:=by omega
  simp [h2,lsH]
  simp only [N5] at hR
  subst hR
  exact h0
 | f+1,d,s,M,h,hI,hM,hR=>by
  refine Qd fun K hK=>?_
  have hlen:=hI.len
  by_cases h2:d<s.rdy.length
  case neg =>
   simp [h2,lsH]
   simp only [N5,h2,↓reduceIte] at hR
   subst hR
   exact h0
  simp only [N5,h2,↓reduceIte] at hR
  obtain ⟨j,hj,he,hz⟩:=hI.rd _ (List.getElem_mem h2)
  have hgd:s.rdy.getD d 0=(j:Int):=by simp [h2,he]
  rw [hgd] at hR
  simp only [Int.toNat_natCast] at hR
  have hfr:=Zy c
  have hrl:Gq c j ∈ F5 c:=by
   have e:Gq c j=(F5 c)[j]'(by omega):=by simp [Gq,hfr,hj]
   rw [e]; exact List.getElem_mem _
  have hin:=q5r c _ hrl
  have hrb:=qF5 c hn hi _ hrl
  have hfold:=hI.fold (c:=c) (n:=j) hin
  have hel:(F5 c)[j]? = some (Gq c j):=by
   have hlt:j<(F5 c).length:=by omega
   simp [Gq,hlt]
  have hrt:Yh (Gq c j)=.sl (Ar tLn (Gq c j)) (some (Gq c j).length) (if Gq c j=[] then some true else none):=rfl
  have hg1:(Ac Yh (F5 c))[j]?.getD []=[Yh (Gq c j)]:=by simp [Ac,hel]
  have hM2:LI c.nodes.l.length ((d+1)*262144) ((Gq c j).foldl (E7 c j) s):=⟨hfold.lo,hfold.ll,hfold.rd,hfold.nd,fun i=>⟨(hfold.bo i).1,by have:=(hfold.bo i).2; omega⟩,fun i=>⟨by have:=(hfold.bl i).1; omega,(hfold.bl i).2⟩⟩
  have ih:=qBi c hc hn hi R h0 f (d+1) _ _ (by omega) hM2 rfl hR
  have hrdy:(s.rdy)[d]?.getD 0=(j:Int):=by simpa using hgd
  simp (disch:=omega) [h2,lsH,A0,By (0:Int),A6,A4,he,qDX,hfr,hj,hg1,hrt,Aa]
  by_cases hr0:(Gq c j).length=0
  ·have hr0':Gq c j=[]:=List.eq_nil_of_length_eq_zero hr0
   simp [hr0',Bj]
   rw [hK]
   rw [hr0'] at ih
   simp only [List.foldl_nil,qDX,hfr,lsH] at ih
   exact_mod_cast ih
  ·have hr0':¬ Gq c j=[]:=fun e=>hr0 (by simp [e])
   simp (disch:=omega) [Bj,hr0',lsH,A0,By (0:Int),A6,A4,he,qDX,hfr,hj,hg1,hrt,Aa]
   refine q5t c hc hn j hj ((d:Int)+1) (Gq c j) _ (by omega) hin _ _ ?_ (Gq c j).length 0 s M (by omega) hI (by omega) rfl
   simp [lsH]
   rw [hK]
   simp only [qDX,hfr,lsH] at ih
   exact_mod_cast ih
theorem q6q (x:Nd):∀ (l:List Nd) (i:Nat),Ds (l++[x]) i=if Dp x=0 then Ds l i++[((i+l.length:Nat):Int)] else Ds l i
 | [],i=>by simp [Ds]
 | y::l,i=>by
  have:=q6q x l (i+1)
  simp only [List.cons_append,Ds,this,List.length_cons]
  rw [show i+1+l.length=i+(l.length+1) by omega]
  split <;> split <;> rfl
theorem q8a:∀ (l:List Nd) (i:Nat),(Ds l i).length≤l.length
 | [],_=>by simp [Ds]
 | x::l,i=>by
  have:=q8a l (i+1)
  simp only [Ds]
  split <;> simp <;> omega
def Ld (c:B0) (i:Nat):List Int:=(c.nodes.l.take i).map Dp++List.replicate (c.nodes.l.length - i) 0
theorem qAD {c:B0} {i:Nat} (h:i≤c.nodes.l.length):(Ld c i).length=c.nodes.l.length:=by simp [Ld]; omega
theorem q5u {c:B0} {i:Nat} (h:i<c.nodes.l.length):(Ld c i).set i (Dp c.nodes.l[i])=Ld c (i+1):=by
 unfold Ld
 have e1:((c.nodes.l.take i).map Dp).length=i:=by simp; omega
 rw [List.set_append_right _ _ (by rw [e1]; exact Nat.le_refl i),e1,Nat.sub_self]
 rw [show c.nodes.l.length - i=(c.nodes.l.length - (i+1))+1 by omega,List.replicate_succ,List.set_cons_zero]
 have e3:(c.nodes.l.map Dp).take (i+1)=(c.nodes.l.map Dp).take i++[Dp c.nodes.l[i]]:=by rw [List.take_add_one]; simp [h]
 simp [e3]
theorem qDa {c:B0} {i:Nat} (h:i<c.nodes.l.length) (h0:Dp c.nodes.l[i]=0):Ld c i=Ld c (i+1):=by
 unfold Ld
 rw [show c.nodes.l.length - i=(c.nodes.l.length - (i+1))+1 by omega,List.replicate_succ]
 have e3:(c.nodes.l.map Dp).take (i+1)=(c.nodes.l.map Dp).take i++[Dp c.nodes.l[i]]:=by rw [List.take_add_one]; simp [h]
 simp [e3,h0]
theorem qBj {Q:AX→St→Prop} (c:B0) (hn:c.nodes.l.length≤16384) (hi:∀ x ∈ c.nodes.l,x.inn.l.length≤16) (out:List Int)
  (h0:Q (.exit 0) ⟨[(1,.t (.ip (tC c) 0)),(5,.ls 23 0 c.nodes.l.length none),(6,.ls 27 0 c.nodes.l.length none),(7,.ls 53 0 (Ds c.nodes.l 0).length none),(29,.t (A5 c.nodes)),(30,.t (tI c.nodes.l.length)),(31,.t (tI c.nodes.l.length)),(32,.t (tB false))],[(23,.sl 3 1 (Av out)),(27,.sl 3 1 (Av (c.nodes.l.map Dp))),(53,.sl 3 1 (Av (Ds c.nodes.l 0)))]⟩) :
  ∀ (kk i:Nat),kk+i=c.nodes.l.length →
  run Tryz.prog Γ Iu Q ⟨[(1,.t (.ip (tC c) 0)),(5,.ls 23 0 c.nodes.l.length none),(6,.ls 27 0 c.nodes.l.length none),(7,.ls 53 0 (Ds (c.nodes.l.take i) 0).length none),(29,.t (A5 c.nodes)),(30,.t (tI c.nodes.l.length)),(31,.t (tI i))],[(23,.sl 3 1 (Av out)),(27,.sl 3 1 (Av (Ld c i))),(53,.sl 3 1 (Av (Ds (c.nodes.l.take i) 0)))]⟩
 | 0,i,h=>by
  refine Qb fun K hK=>?_
  have h2:¬ i<c.nodes.l.length:=by omega
  have h3:i=c.nodes.l.length:=by omega
  simp [h2]
  subst h3
  simpa [Ld] using h0
 | kk+1,i,h=>by
  refine Qb fun K hK=>?_
  have h2:i<c.nodes.l.length:=by omega
  have hx:=hi _ (List.getElem_mem h2)
  have ht:c.nodes.l.take (i+1)=c.nodes.l.take i++[c.nodes.l[i]]:=by rw [List.take_add_one]; simp [h2]
  have htl:(c.nodes.l.take i).length=i:=by simp; omega
  have hrl:=q8a (c.nodes.l.take i) 0
  have hll:=qAD (c:=c) (i:=i) (by omega)
  have hll1:=qAD (c:=c) (i:=i+1) (by omega)
  have hsn:=q6q c.nodes.l[i] (c.nodes.l.take i) 0
  rw [← ht,htl,Nat.zero_add] at hsn
  have e:=q7s (Γ:=Γ) c.nodes.l[i].k
  have ih:=qBj c hn hi out h0 kk (i+1) (by omega)
  have hw:Cm 1 [[tI (i:Int)]]:=by intro e he; simp at he; subst he; rfl
  simp (disch:=omega) [h2,Aa,E5 Nd.d,Bf,A5,Dn,B6,-Ff]
  refine A1 e rfl ?_
  have tail:∀ (lf:List Int),lf=Ld c (i+1)→run Tryz.prog Γ (.seq (.reg Ff [.keep [1,5,6,7,8,29,30,31,49] [23,27,53]]) (.cond (.tmp 49) (.reg Nk [.keep [1,5,6,7,29,30,31] [23,27,53]]) .skip))
    (Nj 1 (Am (run Tryz.prog Γ (.reg Nl [.keep [1,5,6,7,29,30,31] [23,27,53]]) (Am (fun s=>Am K Q .normal (ghs [.keep [1,5,6,7,29,30,31] [23,27,53]] s)) (Am K Q))) (Am (fun s=>Am K Q .normal (ghs [.keep [1,5,6,7,29,30,31] [23,27,53]] s)) (Am K Q))))
    ⟨[(1,.t (.ip (tC c) 0)),(5,.ls 23 0 c.nodes.l.length none),(6,.ls 27 0 c.nodes.l.length none),(7,.ls 53 0 (Ds (c.nodes.l.take i) 0).length none),(8,.t (tI i)),(29,.t (A5 c.nodes)),(30,.t (tI c.nodes.l.length)),(31,.t (tI i))],[(23,.sl 3 1 (Av out)),(27,.sl 3 1 (Av lf)),(53,.sl 3 1 (Av (Ds (c.nodes.l.take i) 0)))]⟩:=by
   rintro lf rfl
   have hget:(Ld c (i+1))[i]?.getD 0=Dp c.nodes.l[i]:=by
    rw [← q5u h2]
    simp [hll,h2]
   have hge:=hget
   rw [List.getElem?_eq_getElem (by rw [hll1]; exact h2),Option.getD_some] at hge
   by_cases hz:Dp c.nodes.l[i]=0
   ·rw [if_pos hz] at hsn
    simp (disch:=omega) [h2,A0,By (0:Int),A6,hll1,hge,hz,hw,A4]
    refine ⟨by omega,?_⟩
    rw [hK]
    rw [hsn] at ih
    rw [Be (f:=tI) (x:=(i:Int))]
    simpa using ih
   ·rw [if_neg hz] at hsn
    simp (disch:=omega) [h2,A0,By (0:Int),A6,hll1,hge,hz,A4]
    rw [hK]
    rw [hsn] at ih
    exact_mod_cast ih
  by_cases hcb:E6 c.nodes.l[i].k=true
  ·have hcb':decide (1≤c.nodes.l[i].k∧c.nodes.l[i].k≤13)=true:=by simpa [E6] using hcb
   have hlo:Dp c.nodes.l[i]=c.nodes.l[i].inn.l.length:=by simp [Dp,hcb]
   rw [hcb']
   have:=tail ((Ld c i).set i c.nodes.l[i].inn.l.length) (by rw [← hlo]; exact q5u h2)
   simp (disch:=omega) [h2,A0,A6,hll,Jb,-Ff]
   exact this
  ·have hcb':decide (1≤c.nodes.l[i].k∧c.nodes.l[i].k≤13)=false:=by simpa [E6] using hcb
   have hlo:Dp c.nodes.l[i]=0:=by simp [Dp,hcb]
   rw [hcb',qDa h2 hlo]
   rw [if_pos hlo] at hsn
   have hge:(Ld c (i+1))[i]'(by rw [hll1]; exact h2)=0:=by
    have hget:(Ld c (i+1))[i]?.getD 0=Dp c.nodes.l[i]:=by
     rw [← q5u h2]
     simp [hll,h2]
    rw [List.getElem?_eq_getElem (by rw [hll1]; exact h2),Option.getD_some] at hget
    rw [hget,hlo]
   simp (disch:=omega) [h2,A0,By (0:Int),A6,hll1,hge,hw,A4]
   refine ⟨by omega,?_⟩
   rw [hK]
   rw [hsn] at ih
   rw [Be (f:=tI) (x:=(i:Int))]
   simpa [A5] using ih
def Eh (c:B0):Int:=if Dz c ≠ 0 then Dz c else if (Oq c).1<c.nodes.l.length then 6 else 0
theorem qMD (k:Int):(Vs k).2≤16:=by
 unfold Vs
 split
 ·decide
 ·have:∀ n:Nat,(qA3.getD n (0,0)).2≤16:=by
   intro n
   by_cases h:n<16
   ·have:n=0∨n=1∨n=2∨n=3∨n=4∨n=5∨n=6∨n=7∨n=8∨n=9∨n=10∨n=11∨n=12∨n=13∨n=14∨n=15:=by omega
    rcases this with rfl | rfl | rfl | rfl | rfl | rfl | rfl | rfl | rfl | rfl | rfl | rfl | rfl | rfl | rfl | rfl <;> decide
   ·rw [List.getD,List.getElem?_eq_none (by simp [qA3]; omega)]; decide
  exact this _
theorem q0q {α:Type} {f:α→Int}:∀ {l:List α},Do (l.map f)=0→∀ x ∈ l,f x=0
 | [],_,x,h=>by cases h
 | y::l,h,x,hx=>by
  simp only [List.map_cons,Do] at h
  split at h
  ·rename_i hy; exact absurd h hy
  ·rename_i hy
   rcases List.mem_cons.1 hx with rfl | hx
   ·simpa using hy
   ·exact q0q h x hx
theorem Ih {c:B0} (h:Dz c=0):c.nodes.l.length≤16384∧(∀ x ∈ c.nodes.l,x.inn.l.length≤16)∧(∀ x ∈ c.nodes.l,Dq c x=0)∧c.mems.l.length≤16:=by
 unfold Dz at h
 split at h
 ·cases h
 rename_i h1
 split at h
 ·cases h
 split at h
 ·rename_i h2; exact absurd h h2
 rename_i h2
 have h3:=q0q (by simpa using h2)
 refine ⟨by omega,fun x hx=>?_,h3,by omega⟩
 have h4:=h3 x hx
 have h5:=qMD x.k
 unfold Dq at h4
 split at h4
 ·cases h4
 split at h4
 ·cases h4
 rename_i h6
 omega
theorem q8b (hΓ:GOk Γ) (c:B0) (hc:CirOk c) (ha:∀ s ∈ c.names.l,∀ b ∈ s,b<128) :
  A3 Tryz.prog Γ 75 [.agg (tC c)] (.tup [if Eh c=0 then .sl (Av (Oq c).2.out) none none else .sl [] (some 0) (some true),tI (Eh c)]):=by
 refine A7 q4d rfl ?_
 have e1:=qF4 hΓ c hc ha
 simp [Y4,tC,A5,A8,Ad,B6]
 refine A1 e1 rfl ?_
 by_cases h1:Dz c=0
 case neg =>
  have:Eh c=Dz c:=by unfold Eh; rw [if_pos h1]
  simp [h1,Iy,this]
 obtain ⟨hn,hi,_⟩:=Ih h1
 have e2:=qDY (Γ:=Γ) c hn hi
 have hl0:Eh c=if (Oq c).1<c.nodes.l.length then 6 else 0:=by unfold Eh; rw [if_neg (show ¬ (Dz c ≠ 0) by simp [h1])]
 simp (disch:=omega) [h1,Aa,A4]
 refine ⟨by omega,?_⟩
 have e0:List.replicate c.nodes.l.length [T.v (Value.int .i64 0)]=Av (List.replicate c.nodes.l.length 0):=by simp [Ac]
 rw [e0]
 have hl:=fun Q h0=>qBj (Γ:=Γ) (Q:=Q) c hn hi (List.replicate c.nodes.l.length 0) h0 c.nodes.l.length 0 (by omega)
 have el0:Ld c 0=List.replicate c.nodes.l.length 0:=by simp [Ld]
 simp only [el0,Ds,List.take_zero,List.length_nil] at hl
 refine hl _ ?_
 simp [tC,A5,A8,Ad,B6]
 refine A9 e2 rfl ?_
 have hI:=qDZ c hi
 have hm:=fun Q h0=>qBi (Γ:=Γ) (Q:=Q) c hc hn hi (Oq c) h0 (c.nodes.l.length+1) 0 (I2 c) 0 (by omega) hI (by omega) rfl
 simp
 refine hm _ ?_
 have hend:(Oq c).1<c.nodes.l.length↔((Oq c).1:Int)<c.nodes.l.length:=by omega
 have hol:(Oq c).2.out.length=c.nodes.l.length:=by
  have:∀ (f d:Nat) (s:LS),s.out.length=c.nodes.l.length→(N5 c f d s).2.out.length=c.nodes.l.length:=by
   intro f
   induction f with
   | zero=>intro d s h; exact h
   | succ f ih =>
    intro d s h
    simp only [N5]
    split
    ·refine ih _ _ ?_
     have:∀ (r:Ns) (n:Nat) (s:LS),s.out.length=c.nodes.l.length→(r.foldl (E7 c n) s).out.length=c.nodes.l.length:=by
      intro r n
      induction r with
      | nil=>intro s h; exact h
      | cons p r ih2 =>
       intro s h
       rw [List.foldl_cons]
       refine ih2 _ ?_
       unfold E7
       split
       ·simp [h]
       ·exact h
     exact this _ _ _ h
    ·exact h
  exact this _ _ _ hI.lo
 by_cases h2:(Oq c).1<c.nodes.l.length
 ·rw [if_pos h2] at hl0
  have h2':=hend.1 h2
  simp [lsH,tC,A5,Aa,h2',Iy,hl0]
 ·rw [if_neg h2] at hl0
  have h2':¬ ((Oq c).1:Int)<c.nodes.l.length:=fun h=>h2 (hend.2 h)
  have ht:(Av (Oq c).2.out).take c.nodes.l.length=Av (Oq c).2.out:=by rw [← hol]; simp
  simp [lsH,tC,A5,Aa,h2,h2',Iy,hl0,ht]
structure COk (c:B0):Prop extends CirOk c where
 asc:∀ s ∈ c.names.l,∀ b ∈ s,b<128
theorem q5v (hΓ:GOk Γ) (c:B0) (hc:COk c):A3 Tryz.prog Γ 19 [.agg (tC c)] (tI (Eh c)):=by
 refine A7 q5l rfl ?_
 have e:=q8b hΓ c hc.toCirOk hc.asc
 simp [Zr,tC,A5,A8,Ad,B6]
 refine A1 e rfl ?_
 simp
 simp [Zs]
def Af (c:B0):List Int:=Ky [14] c.nodes.l 0
def mems (c:B0):List Int:=Ky [15] c.nodes.l 0
theorem qCY (c:B0) (hc:COk c) (k:Int):A3 Tryz.prog Γ 74 [.agg (tC c),.sl [[tK k]] (some 1) (some false)] (.sl (Av (Ky [k] c.nodes.l 0)) (some (Ky [k] c.nodes.l 0).length) none):=by
 have:=qK3 (Γ:=Γ) c hc.toCirOk [k] (some 1) (some false) (by simp)
 simpa [Ac] using this
theorem Et (c:B0) (hc:COk c):Ab Tryz.prog Γ 18 [.agg (tC c)] (.sl (Av (Af c)) (some (Af c).length) none):=by
 refine Aq q4c rfl ?_
 simp [Xz,tC,A5,A8,Ad,B6]
 refine A1 (qCY c hc 14) rfl ?_
 simp [Y0,Af]
end Go.Lg
namespace Go.Lg
open Go Go.Proofs
def Sl.d:Sl Int:=⟨[],none,none⟩
def q00 (l:List Int) (a b:Nat):List Int:=(l.set a (l.getD b 0)).set b (l.getD a 0)
theorem q7w {l:List Int} {a b:Nat}:(q00 l a b).length=l.length:=by simp [q00]
theorem Bv {l:List Int} {i:Nat} (h:i<l.length):l.getD i 0=l[i]:=by simp [List.getD_eq_getElem?_getD,h]
theorem qHB {l:List Int} {a b q:Nat} (ha:a<l.length) (hb:b<l.length) (hq:q<l.length):(q00 l a b).getD q 0=if q=b then l.getD a 0 else if q=a then l.getD b 0 else l.getD q 0:=by
 unfold q00
 rw [I3 (by simp; exact hb)]
 split
 ·rfl
 ·rw [I3 ha]
theorem qAE {l:List Int} {a b:Nat} (ha:a<l.length) (hb:b<l.length):(q00 l a b).Perm l:=by
 unfold q00
 rw [Bv ha,Bv hb]
 exact List.set_set_perm ha hb
theorem q4R (ks:List Int):∀ (l:List Nd) (i:Nat),(∀ j ∈ Ky ks l i,(i:Int)≤j)∧(Ky ks l i).Nodup
 | [],_=>⟨fun j h=>(by cases h),List.nodup_nil⟩
 | x::l,i=>by
  obtain ⟨h1,h2⟩:=q4R ks l (i+1)
  simp only [Ky]
  split
  ·refine ⟨fun j hj=>?_,List.nodup_cons.2 ⟨fun hm=>?_,h2⟩⟩
   ·rcases List.mem_cons.1 hj with rfl | hj
    ·omega
    ·have:=h1 j hj; omega
   ·have:=h1 _ hm; omega
  ·exact ⟨fun j hj=>by have:=h1 j hj; omega,h2⟩
theorem q6r (ks:List Int):∀ (l:List Nd) (i:Nat),∀ n ∈ Ky ks l i,(i:Int)≤n∧n<i+l.length∧ks.contains (l.getD (n.toNat - i) Nd.d).k=true
 | [],_,n,h=>by cases h
 | x::l,i,n,h=>by
  have tail:n ∈ Ky ks l (i+1)→(i:Int)≤n∧n<i+(x::l).length∧ks.contains ((x::l).getD (n.toNat - i) Nd.d).k=true:=fun h=>by
   obtain ⟨h1,h2,h3⟩:=q6r ks l (i+1) n h
   refine ⟨by omega,by simp only [List.length_cons]; omega,?_⟩
   have e:n.toNat - i=(n.toNat - (i+1))+1:=by omega
   rw [e,List.getD_cons_succ]
   exact h3
  simp only [Ky] at h
  split at h
  ·rename_i hk
   rcases List.mem_cons.1 h with rfl | h
   ·refine ⟨by omega,by simp only [List.length_cons]; omega,?_⟩
    have e:((i:Int).toNat - i)=0:=by omega
    rw [e,List.getD_cons_zero]
    exact hk
   ·exact tail h
  ·exact tail h
end Go.Lg
namespace Go.Lg
open Go
section
variable {P:Program} {Γ:Tables} {Q:AX→St→Prop} {s:St}
/- (probecard/probecardlaw03.C).Of (function 16) -/
abbrev q4y:IC:=.gh (.seq (.seq (.reg [om 13 4,od 14 (fa 0 1),od 15 (ld 1 14),od 16 (.bin .rem (tm 15) (ku 4)),od 17 (.conv .i64 (tm 16)),od 18 (.bin .leq (tm 13) (tm 17))] [kp [1,2,3,4,18] [2,3,25,144,168]]) (.cond (tm 18) .skip
 (.exit 0))) (.seq (.block 1 (.reg [od 21 (fa 0 3),od 22 (ld 1 21),od 23 (.build [(1,(ku 0)),(1,kN),(1,(ki 0)),(1,(ki 0))]),od 24 (.bsl true 45 4 [(tm 23)]),od 25 (.app false 45 4 (tm 22) (tm 24)),od 26 (fa 0 3),on
 (.store 1 (tm 26) (tm 25))] [kp [1,2,3,4] [2,3,25,144,168]])) (.reg [om 19 4,od 20 (.bin .add (tm 19) (ki 1)),om 4 20] [kp [1,2,3,4] [2,3,25,144,168]]))) [kp [1,2,3,4] [2,3,25,144,168]]
def U9:IC:=.loop q4y
abbrev q4z:IC:=.gh (.seq (.seq (.reg [om 34 7,om 35 6,od 36 (.bin .lss (tm 34) (tm 35))] [kp [1,2,3,5,6,7,36] [2,3,25,144,168]]) (.cond (tm 36) .skip (.exit 2))) (.seq (.block 3 (.reg [od 39 (fa 0 3),od 40 (ld 1 39),od 41 (.bsl true
 3 1 [(ki 0)]),od 42 (.build [(1,(ku 14)),(1,(tm 41)),(1,(ki 0)),(1,(ki 0))]),od 43 (.bsl true 45 4 [(tm 42)]),oz 44 (.app false 45 4 (tm 40) (tm 43)) 25,od 45 (fa 0 3),on (.store 1 (tm 45) (tm 44))] [kp [1,2,3,5,6,
 7] [2,3,25,144,168]])) (.reg [om 37 7,od 38 (.bin .add (tm 37) (ki 1)),om 7 38] [kp [1,2,3,5,6,7] [2,3,25,144,168]]))) [kp [1,2,3,5,6,7] [2,3,25,144,168]]
def Ua:IC:=.loop q4z
abbrev q50:IC:=.gh (.seq (.seq (.reg [om 55 8,od 56 (fa 10 1),od 57 (ld 1 56),od 58 (le 0 57),od 59 (.bin .lss (tm 55) (tm 58)),om 60 59,oT 61 (.mv (tm 8)) 60,oT 62 (.bin .lss (tm 61) (ki 8)) 60,od 63 (.pick (tm 60) (tm 62) kF)] [kp [1,
 2,3,5,6,8,63] [2,3,25,144,168]]) (.cond (tm 63) .skip (.exit 4))) (.seq (.block 5 (.reg [od 66 (fa 0 3),od 67 (.ldR 3 1 false (tm 66)),od 68 (.ldT 12 true (tm 1)),od 69 (fa 10 1),od 70 (.ldT 1 false (tm 69)),om 71 8,
 od 72 (ia 4 70 71),od 73 (.ldT 4 true (tm 72)),od 74 (fa 0 3),od 75 (.ldR 3 1 false (tm 74)),od 76 (.call 65 [(tm 68),(tm 73),(tm 75)]),od 77 (.bsl true 45 4 [(tm 76)]),oz 78 (.app false 45 4 (tm 67) (tm 77)) 25,od 79 (fa
 0 3),on (.stR 3 1 (tm 79) (tm 78))] [kp [1,2,3,5,6,8] [2,3,25,144,168]])) (.reg [om 64 8,od 65 (.bin .add (tm 64) (ki 1)),om 8 65] [kp [1,2,3,5,6,8] [2,3,25,144,168]]))) [kp [1,2,3,5,6,8] [2,3,25,144,
 168]]
def Ub:IC:=.loop q50
abbrev q51:IC:=.gh (.seq (.seq (.reg [om 83 10,om 84 6,od 85 (.bin .lss (tm 83) (tm 84))] [kp [1,2,3,5,6,9,10,85] [2,3,25,144,168]]) (.cond (tm 85) .skip (.exit 6))) (.seq (.block 7 (.reg [od 88 (fa 0 3),od 89 (.ldR 3 1 false (tm
 88)),om 90 5,om 91 10,od 92 (.bin .add (tm 90) (tm 91)),om 93 10,od 94 (fa 2 1),od 95 (.iadrA 2 1 (tm 94) (tm 93)),od 96 (.ldT 1 false (tm 95)),od 97 (.conv .i64 (tm 96)),om 98 9,od 99 (.bin .rem (tm 97) (tm 98)),od 100
 (.bsl true 3 1 [(tm 99)]),od 101 (ia 4 89 92),od 102 (fa 1 101),on (.store 1 (tm 102) (tm 100))] [kp [1,2,3,5,6,9,10] [2,3,25,144,168]])) (.reg [om 86 10,od 87 (.bin .add (tm 86) (ki 1)),om 10 87] [kp [1,2,3,5,6,
 9,10] [2,3,25,144,168]]))) [kp [1,2,3,5,6,9,10] [2,3,25,144,168]]
def Uc:IC:=.loop q51
abbrev q52:IC:=.gh (.seq (.seq (.reg [om 134 11,om 135 9,od 136 (.bin .lss (tm 134) (tm 135))] [kp [1,2,3,9,11,136] [2,3,25,144,168]]) (.cond (tm 136) .skip (.exit 8))) (.seq (.block 9 (.reg [od 139 (fa 1 3),od 140 (.ldR 3 1 false (tm
 139)),om 141 11,od 142 (.call 66 [(tm 141)]),od 143 (.bsl true 9 1 [(tm 142)]),od 144 (.app false 9 1 (tm 140) (tm 143)),od 145 (fa 1 3),on (.stR 3 1 (tm 145) (tm 144))] [kp [1,2,3,9,11] [2,3,25,144,168]])) (.reg [om
 137 11,od 138 (.bin .add (tm 137) (ki 1)),om 11 138] [kp [1,2,3,9,11] [2,3,25,144,168]]))) [kp [1,2,3,9,11] [2,3,25,144,168]]
def Ud:IC:=.loop q52
abbrev q3Q:IC:=.gh (.seq (.seq (.reg [om 146 12,od 147 (fa 11 1),od 148 (ld 1 147),od 149 (le 0 148),od 150 (.bin .lss (tm 146) (tm 149)),om 151 150,oT 152 (.mv (tm 12)) 151,oT 153 (.bin .lss (tm 152) (ki 3)) 151,od 154 (.pick (tm 151)
 (tm 153) kF)] [kp [1,2,3,9,12,154] [2,3,25,144,168]]) (.cond (tm 154) .skip (.exit 10))) (.seq (.block 11 (.reg [od 157 (fa 3 3),od 158 (.ldR 3 1 false (tm 157)),od 159 (fa 11 1),od 160 (.ldT 1 false (tm 159)),om 161
 12,od 162 (ia 1 160 161),od 163 (.ldT 1 false (tm 162)),od 164 (.conv .i64 (tm 163)),om 165 9,od 166 (.bin .rem (tm 164) (tm 165)),od 167 (.bsl true 3 1 [(tm 166)]),od 168 (.app false 3 1 (tm 158) (tm 167)),od 169 (fa 3 3),
 on (.stR 3 1 (tm 169) (tm 168))] [kp [1,2,3,9,12] [2,3,25,144,168]])) (.reg [om 155 12,od 156 (.bin .add (tm 155) (ki 1)),om 12 156] [kp [1,2,3,9,12] [2,3,25,144,168]]))) [kp [1,2,3,9,12] [2,3,25,144,168]]
def Qk:IC:=.loop q3Q
abbrev q53:IC:=(.seq (.reg [od 1 (.box true (tm 0)),od 2 (.alloc false [(.slice none 0 0),(.slice none 0 0),(.slice none 0 0),(.slice none 0 0)])] [kp [1,2] [2,25,144,168]]) (.seq (.reg [od 3 (.alloc false [(.slice none 0 0),(.slice none
 0 0),(.slice none 0 0),(.slice none 0 0)])] [.nlb 3 0 25 45 4,.nlb 3 1 144 9 1,.nlb 3 3 168 3 1,kp [1,2,3] [2,3,25,144,168]]) (.seq (.seq (.reg [od 4 (.mv (ki 0))] [kp [1,2,3,4] [2,3,25,144,168]]) (.block 0
 U9)) (.seq (.reg [od 27 (fa 0 3),od 28 (ld 1 27),od 29 (le 0 28),om 5 29] [kp [1,2,3,5] [2,3,25,144,168]]) (.seq (.reg [od 30 (fa 1 1),od 31 (ld 1 30),od 32 (.bin .rem (tm 31) (ku 3)),od 33 (.conv .i64 (tm
 32)),om 6 33] [kp [1,2,3,5,6] [2,3,25,144,168]]) (.seq (.seq (.reg [od 7 (.mv (ki 0))] [kp [1,2,3,5,6,7] [2,3,25,144,168]]) (.block 2 Ua)) (.seq (.seq (.reg [od 46 (fa 5 1),od 47 (ld 1 46)] [kp [1,2,
 3,5,6,47] [2,3,25,144,168]]) (.cond (tm 47) (.reg [od 48 (fa 0 3),od 49 (ld 1 48),od 50 (.build [(1,(ku 15)),(1,kN),(1,(ki 0)),(1,(ki 0))]),od 51 (.build [(1,(ku 15)),(1,kN),(1,(ki 0)),(1,(ki 1))]),od 52
 (.bsl true 45 4 [(tm 50),(tm 51)]),oz 53 (.app false 45 4 (tm 49) (tm 52)) 25,od 54 (fa 0 3),on (.store 1 (tm 54) (tm 53))] [kp [1,2,3,5,6] [2,3,25,144,168]]) .skip)) (.seq (.seq (.reg [od 8 (.mv (ki 0))] [kp [1,2,3,
 5,6,8] [2,3,25,144,168]]) (.block 4 Ub)) (.seq (.reg [od 80 (fa 0 3),od 81 (ld 1 80),od 82 (le 0 81),om 9 82] [kp [1,2,3,5,6,9] [2,3,25,144,168]]) (.seq (.seq (.reg [od 10 (.mv (ki 0))] [kp [1,2,3,5,
 6,9,10] [2,3,25,144,168]]) (.block 6 Uc)) (.seq (.seq (.reg [od 103 (fa 5 1),od 104 (ld 1 103)] [kp [1,2,3,9,104] [2,3,25,144,168]]) (.cond (tm 104) (.reg [od 105 (fa 6 1),od 106 (.iadrA 4 1 (tm 105) (ki
 0)),od 107 (.ldT 1 false (tm 106)),od 108 (.conv .i64 (tm 107)),om 109 9,od 110 (.bin .rem (tm 108) (tm 109)),od 111 (.bsl true 3 1 [(tm 110)]),od 112 (fa 6 1),od 113 (.iadrA 4 1 (tm 112) (ki 1)),od 114 (.ldT 1 false (tm
 113)),od 115 (.conv .i64 (tm 114)),om 116 9,od 117 (.bin .rem (tm 115) (tm 116)),od 118 (fa 6 1),od 119 (.iadrA 4 1 (tm 118) (ki 2)),od 120 (.ldT 1 false (tm 119)),od 121 (.conv .i64 (tm 120)),om 122 9,od 123 (.bin .rem
 (tm 121) (tm 122)),od 124 (.bsl true 3 1 [(tm 117),(tm 123)]),od 125 (fa 6 1),od 126 (.iadrA 4 1 (tm 125) (ki 3)),od 127 (.ldT 1 false (tm 126)),od 128 (.conv .i64 (tm 127)),om 129 9,od 130 (.bin .rem (tm 128) (tm 129)),od
 131 (.build [(1,(tm 111)),(1,(tm 124)),(1,(tm 130))]),od 132 (.bsl true 111 3 [(tm 131)]),od 133 (fa 2 3),on (.stR 3 1 (tm 133) (tm 132))] [kp [1,2,3,9] [2,3,25,144,168]]) .skip)) (.seq (.seq (.reg [od 11 (.mv (ki
 0))] [kp [1,2,3,9,11] [2,3,25,144,168]]) (.block 8 Ud)) (.seq (.seq (.reg [od 12 (.mv (ki 0))] [kp [1,2,3,9,12] [2,3,25,144,168]]) (.block 10 Qk)) (.seq (.reg [od 170 (fa 3 3),od 171 (ld 1
 170),om 172 9,od 173 (.bin .sub (tm 172) (ki 1)),od 174 (.bsl true 3 1 [(tm 173)]),oz 175 (.app false 3 1 (tm 171) (tm 174)) 168,od 176 (fa 3 3),on (.store 1 (tm 176) (tm 175))] [kp [2,3] [2,3,25,144,168]]) (.seq (.reg
 [od 177 (lG 4 3),on (.store 4 (tm 2) (tm 177))] [kp [2] [2,25,144,168]]) .ret)))))))))))))))
theorem q01 (h:∀ K:St→Prop,K=run P Γ U9 Q→run P Γ q4y (Am K Q) s):run P Γ U9 Q s:=Ae h
theorem q02 (h:∀ K:St→Prop,K=run P Γ Ua Q→run P Γ q4z (Am K Q) s):run P Γ Ua Q s:=Ae h
theorem q03 (h:∀ K:St→Prop,K=run P Γ Ub Q→run P Γ q50 (Am K Q) s):run P Γ Ub Q s:=Ae h
theorem q04 (h:∀ K:St→Prop,K=run P Γ Uc Q→run P Γ q51 (Am K Q) s):run P Γ Uc Q s:=Ae h
theorem q05 (h:∀ K:St→Prop,K=run P Γ Ud Q→run P Γ q52 (Am K Q) s):run P Γ Ud Q s:=Ae h
theorem Yi (h:∀ K:St→Prop,K=run P Γ Qk Q→run P Γ q3Q (Am K Q) s):run P Γ Qk Q s:=Ae h
def He:List RV:=[.cell 2 4 true]
/- (probecard/probecardlaw03.C).gate (function 65) -/
abbrev q2S:IC:=.gh (.seq (.seq (.reg [om 37 12,om 38 7,od 39 (.bin .lss (tm 37) (tm 38))] [kp [2,3,4,6,7,8,9,10,11,12,39] [6,51,70,79,86,94,105,126,142,156]]) (.cond (tm 39) .skip (.exit 0))) (.seq (.block 1 (.seq (.reg [om
 42 2,om 43 12,od 44 (ia 4 42 43),od 45 (fa 0 44),od 46 (ld 1 45),od 47 (.bin .eql (tm 46) (ku 12))] [kp [2,3,4,6,7,8,9,10,11,12,47] [6,51,70,79,86,94,105,126,142,156]]) (.cond (tm 47) (.reg [om 48 11,om 49
 12,od 50 (.bsl true 3 1 [(tm 49)]),od 51 (.app false 3 1 (tm 48) (tm 50)),om 11 51] [kp [2,3,4,6,7,8,9,10,11,12] [6,51,70,79,86,94,105,126,142,156]]) .skip))) (.reg [om 40 12,od 41 (.bin .add (tm 40) (ki 1)),
 om 12 41] [kp [2,3,4,6,7,8,9,10,11,12] [6,51,70,79,86,94,105,126,142,156]]))) [kp [2,3,4,6,7,8,9,10,11,12] [6,51,70,79,86,94,105,126,142,156]]
def Oe:IC:=.loop q2S
abbrev q2T:IC:=(.seq (.reg [od 3 (.box true (tm 0)),od 4 (.box true (tm 1)),od 6 (.alloc false [(.int .u8 0),(.slice none 0 0),(.int .i64 0),(.int .i64 0)])] [kp [2,3,4,6] [6,70,79,86,94,105,126,142,156]]) (.seq (.reg [om 17 2,od
 18 (le 0 17),om 7 18] [kp [2,3,4,6,7] [6,70,79,86,94,105,126,142,156]]) (.seq (.reg [od 19 (fa 1 4),od 20 (.iadrA 3 1 (tm 19) (ki 0)),od 21 (ld 1 20),od 22 (.conv .i64 (tm 21)),om 23 7,od 24 (.bin .rem (tm 22) (tm
 23)),od 25 (fa 1 4),od 26 (.iadrA 3 1 (tm 25) (ki 1)),od 27 (ld 1 26),od 28 (.conv .i64 (tm 27)),om 29 7,od 30 (.bin .rem (tm 28) (tm 29)),od 31 (fa 1 4),od 32 (.iadrA 3 1 (tm 31) (ki 2)),od 33 (ld 1 32),od 34 (.conv .i64
 (tm 33)),om 35 7,od 36 (.bin .rem (tm 34) (tm 35)),om 8 24,om 9 30,om 10 36] [kp [2,3,4,6,7,8,9,10] [6,70,79,86,94,105,126,142,156]]) (.seq (.reg [od 11 (.mv kN)] [.nl 11 51 3 1,kp [2,3,4,6,7,8,9,10,11]
 [6,51,70,79,86,94,105,126,142,156]]) (.seq (.seq (.reg [od 12 (.mv (ki 0))] [kp [2,3,4,6,7,8,9,10,11,12] [6,51,70,79,86,94,105,126,142,156]]) (.block 0 Oe)) (.seq (.reg [od 52 (fa 0 4),od 53
 (ld 1 52),od 54 (.bin .rem (tm 53) (ku 9)),od 55 (.conv .i64 (tm 54)),om 13 55] [kp [3,4,6,8,9,10,11,13] [6,51,70,79,86,94,105,126,142,156]]) (.seq (.seq (.reg [od 56 (fa 4 3),od 57 (ld 1 56)] [kp [4,6,8,9,
 10,11,13,57] [6,51,70,79,86,94,105,126,142,156]]) (.cond (tm 57) (.reg [od 58 (fa 0 4),od 59 (ld 1 58),od 60 (.bin .rem (tm 59) (ku 13)),od 61 (.conv .i64 (tm 60)),om 13 61] [kp [4,6,8,9,10,11,13] [6,51,70,
 79,86,94,105,126,142,156]]) .skip)) (.seq (.block 2 (.seq (.reg [om 63 13,od 64 (.bin .lss (tm 63) (ki 6)),om 62 64] [kp [4,6,8,9,10,11,13,62] [6,51,70,79,86,94,105,126,142,156]]) (.cond (tm 62) (.seq (.reg
 [om 65 13,od 66 (.conv .u8 (tm 65)),od 67 (.bin .add (ku 5) (tm 66)),om 68 8,om 69 9,od 70 (.bsl false 3 1 [(tm 68),(tm 69)]),od 71 (.build [(1,(tm 67)),(1,(tm 70)),(1,(ki 0)),(1,(ki 0))]),od 14 (.alloc false [(.int
 .u8 0),(.slice none 0 0),(.int .i64 0),(.int .i64 0)]),on (.store 4 (tm 14) (tm 71))] [kp [4,6,10,14] [6,14,70,79,86,94,105,126,142,156]]) (.seq (.seq (.reg [od 72 (fa 0 4),od 73 (ld 1 72),od 74 (.bin .geq (tm 73)
 (ku 128))] [kp [6,10,14,74] [6,14,70,79,86,94,105,126,142,156]]) (.cond (tm 74) (.reg [od 75 (fa 1 14),od 76 (ld 1 75),om 77 10,od 78 (.bsl true 3 1 [(tm 77)]),od 79 (.app false 3 1 (tm 76) (tm 78)),od 80 (fa 1
 14),on (.store 1 (tm 80) (tm 79))] [kp [6,14] [6,14,70,79,86,94,105,126,142,156]]) .skip)) (.seq (.reg [od 81 (lG 4 14),on (.store 4 (tm 6) (tm 81))] [kp [6] [6,70,79,86,94,105,126,142,156]]) .ret))) (.seq (.reg
 [om 83 13,od 84 (.bin .eql (tm 83) (ki 6)),om 82 84] [kp [4,6,8,9,10,11,13,82] [6,51,70,79,86,94,105,126,142,156]]) (.cond (tm 82) (.seq (.reg [om 85 8,od 86 (.bsl false 3 1 [(tm 85)]),od 87 (.build [(1,(ku
 4)),(1,(tm 86)),(1,(ki 0)),(1,(ki 0))]),on (.store 4 (tm 6) (tm 87))] [kp [6] [6,70,79,86,94,105,126,142,156]]) .ret) (.seq (.reg [om 89 13,od 90 (.bin .eql (tm 89) (ki 7)),om 88 90] [kp [4,6,8,9,10,11,13,
 88] [6,51,70,79,86,94,105,126,142,156]]) (.cond (tm 88) (.seq (.reg [om 91 8,om 92 9,om 93 10,od 94 (.bsl false 3 1 [(tm 91),(tm 92),(tm 93)]),od 95 (.build [(1,(ku 11)),(1,(tm 94)),(1,(ki 0)),(1,(ki 0))]),on
 (.store 4 (tm 6) (tm 95))] [kp [6] [6,70,79,86,94,105,126,142,156]]) .ret) (.seq (.reg [om 97 13,od 98 (.bin .eql (tm 97) (ki 9)),om 99 98,oF 100 (.mv (tm 13)) 99,oF 101 (.bin .eql (tm 100) (ki 10)) 99,od 102 (.pick
 (tm 99) kT (tm 101)),om 96 102] [kp [4,6,8,9,11,13,96] [6,51,70,79,86,94,105,126,142,156]]) (.cond (tm 96) (.seq (.reg [om 103 8,om 104 9,od 105 (.bsl false 3 1 [(tm 103),(tm 104)]),od 106 (.build [(1,(ku 12)),
 (1,(tm 105)),(1,(ki 0)),(1,(ki 0))]),on (.store 4 (tm 6) (tm 106))] [kp [6] [6,70,79,86,94,105,126,142,156]]) .ret) (.seq (.reg [om 108 13,od 109 (.bin .gtr (tm 108) (ki 10)),om 110 109,oT 111 (.mv (tm 11)) 110,oT
 112 (le 0 111) 110,oT 113 (.bin .gtr (tm 112) (ki 0)) 110,od 114 (.pick (tm 110) (tm 113) kF),om 107 114] [kp [4,6,8,11,107] [6,51,70,79,86,94,105,126,142,156]]) (.cond (tm 107) (.seq (.reg [od 115 (fa 1 4),od 116
 (.iadrA 3 1 (tm 115) (ki 0)),od 117 (ld 1 116),od 118 (.conv .i64 (tm 117)),om 119 11,od 120 (le 0 119),od 121 (.bin .rem (tm 118) (tm 120)),om 15 121] [kp [6,11,15] [6,51,70,79,86,94,105,126,142,156]]) (.seq (.reg
 [om 122 11,om 123 15,od 124 (ia 1 122 123),od 125 (ld 1 124),od 126 (.bsl false 3 1 [(tm 125)]),od 127 (.build [(1,(ku 13)),(1,(tm 126)),(1,(ki 0)),(1,(ki 0))]),od 16 (.alloc false [(.int .u8 0),(.slice none 0 0),
 (.int .i64 0),(.int .i64 0)]),on (.store 4 (tm 16) (tm 127))] [kp [6,11,15,16] [6,16,51,70,79,86,94,105,126,142,156]]) (.seq (.seq (.reg [om 128 11,od 129 (le 0 128),od 130 (.bin .gtr (tm 129) (ki 1))] [kp [6,11,
 15,16,130] [6,16,51,70,79,86,94,105,126,142,156]]) (.cond (tm 130) (.reg [od 131 (fa 1 16),od 132 (.ldR 16 1 false (tm 131)),om 133 11,om 134 15,od 135 (.bin .add (tm 134) (ki 1)),om 136 11,od 137 (le 0 136),od
 138 (.bin .rem (tm 135) (tm 137)),od 139 (ia 1 133 138),od 140 (.ldR 51 1 false (tm 139)),od 141 (.bsl true 3 1 [(tm 140)]),od 142 (.app false 3 1 (tm 132) (tm 141)),od 143 (fa 1 16),on (.stR 16 1 (tm 143) (tm 142))] [kp [6,
 16] [6,16,70,79,86,94,105,126,142,156]]) .skip)) (.seq (.reg [od 144 (lG 4 16),on (.store 4 (tm 6) (tm 144))] [kp [6] [6,70,79,86,94,105,126,142,156]]) .ret)))) (.seq (.reg [od 146 (fa 0 4),od 147 (ld 1 146),od
 148 (.bin .gtr (tm 147) (ku 240)),om 145 148] [kp [4,6,8,145] [6,70,79,86,94,105,126,142,156]]) (.cond (tm 145) (.seq (.reg [od 149 (fa 1 4),od 150 (.iadrA 3 1 (tm 149) (ki 0)),od 151 (ld 1 150),od 152 (.bin .rem (tm
 151) (ku 2)),od 153 (.bin .add (ku 1) (tm 152)),od 154 (.build [(1,(tm 153)),(1,kN),(1,(ki 0)),(1,(ki 0))]),on (.store 4 (tm 6) (tm 154))] [kp [6] [6,70,79,86,94,105,126,142,156]]) .ret) .skip))))))))))))) (.seq
 (.reg [om 155 8,od 156 (.bsl false 3 1 [(tm 155)]),od 157 (.build [(1,(ku 3)),(1,(tm 156)),(1,(ki 0)),(1,(ki 0))]),on (.store 4 (tm 6) (tm 157))] [kp [6] [6,70,79,86,94,105,126,142,156]]) .ret)))))))))
theorem W7 (h:∀ K:St→Prop,K=run P Γ Oe Q→run P Γ q2S (Am K Q) s):run P Γ Oe Q s:=Ae h
def B1:List RV:=[.cell 6 4 true]
/- probecard/probecardlaw03.name (function 66) -/
abbrev q54:IC:=(.seq (.reg [od 2 (.mv (.const (sV [])))] [kp [0] []]) (.seq (.reg [om 3 0,od 4 (.bin .quo (tm 3) (ki 10)),od 5 (.bin .add (ki 48) (tm 4)),od 6 (.conv .u8 (tm 5)),om 7 0,od 8 (.bin .rem (tm 7) (ki 10)),od 9 (.bin .add (ki 48)
 (tm 8)),od 10 (.conv .u8 (tm 9)),od 11 (.bsl true 5 1 [(ku 110),(tm 6),(tm 10)]),od 12 (.bytesStr (tm 11)),om 2 12] [kp [2] []]) .ret))
def q55:List RV:=[.tmp 2]
end
end Go.Lg
namespace Go.Lg
open Go Go.Proofs
theorem qAF:Ao Tryz.prog 16 q53 178 1 He=true:=by kernel_rfl
theorem q7x:Ao Tryz.prog 65 q2T 158 3 B1=true:=by kernel_rfl
theorem qAG:Ao Tryz.prog 66 q54 13 1 q55=true:=by kernel_rfl
end Go.Lg
namespace Go.Lg
open Go Go.Proofs
variable {Γ:Tables}
structure Gd where
 k:Int
 a:Int
 b:Int
 d:Int
def tGd (g:Gd):List T:=[tK g.k,tK g.a,tK g.b,tK g.d]
structure CD where
 i:Int
 f:Int
 d0:Int
 d1:Int
 bus:Bool
 mem:Bool
 p0:Int
 p1:Int
 p2:Int
 p3:Int
 gates:Sl Gd
 outs:Sl Int
def Nu (x:CD):List T:=[tK x.i,tK x.f,tK x.d0,tK x.d1,tB x.bus,tB x.mem,tK x.p0,tK x.p1,tK x.p2,tK x.p3,.sl (Ar tGd x.gates.l) x.gates.cap x.gates.nl,.sl (Ac tK x.outs.l) x.outs.cap x.outs.nl]
def Byt (n:Int):Prop:=0≤n∧n≤255
def qCZ (g:Gd):Prop:=Byt g.k∧Byt g.a∧Byt g.b∧Byt g.d
def q1F (i:Nat):List UInt8:=[110,UInt8.ofNat (48+i / 10),UInt8.ofNat (48+i % 10)]
theorem qHC (i:Nat) (hi:i<100):A3 Tryz.prog Γ 66 [tI i] (tS (q1F i)):=by
 refine A7 qAG rfl ?_
 have h1:(i:Int).tdiv 10=((i / 10:Nat):Int):=by rw [Int.tdiv_eq_ediv_of_nonneg (by omega)]; omega
 have h2:(i:Int).tmod 10=((i % 10:Nat):Int):=by rw [Int.tmod_eq_emod_of_nonneg (by omega)]; omega
 have h3:i / 10<10:=by omega
 have h4:i % 10<10:=by omega
 generalize hq:i / 10=q at *
 generalize hr:i % 10=r at *
 have e1:(48+(q:Int)).toNat=48+q:=by omega
 have e2:(48+(r:Int)).toNat=48+r:=by omega
 simp (disch:=omega) [q54,sV,h1,h2,A4,Bm,O9]
 simp [q55,q1F,hq,hr,tS,sV,e1,e2]
def q6s (nodes:List Nd):List Int:=Ky [12] nodes 0
def qDb (bus:Bool) (g:Gd) (a b d:Int) (t:List Int):Nd :=
 let kind:=if bus then g.k.tmod 13 else g.k.tmod 9
 if kind<6 then ⟨5+kind,if 128≤g.k then ⟨[a,b,d],none,none⟩ else ⟨[a,b],none,none⟩,0,0⟩
 else if kind=6 then ⟨4,⟨[a],none,none⟩,0,0⟩
 else if kind=7 then ⟨11,⟨[a,b,d],none,none⟩,0,0⟩
 else if kind=9∨kind=10 then ⟨12,⟨[a,b],none,none⟩,0,0⟩
 else if 10<kind∧0<t.length then
  let k:=g.a.tmod t.length
  ⟨13,if 1<t.length then ⟨[t.getD k.toNat 0,t.getD ((k+1).tmod t.length).toNat 0],none,none⟩ else ⟨[t.getD k.toNat 0],none,none⟩,0,0⟩
 else if 240<g.k then ⟨1+g.a.tmod 2,⟨[],some 0,some true⟩,0,0⟩
 else ⟨3,⟨[a],none,none⟩,0,0⟩
def q6t (bus:Bool) (g:Gd) (nodes:List Nd):Nd:=qDb bus g (g.a.tmod nodes.length) (g.b.tmod nodes.length) (g.d.tmod nodes.length) (q6s nodes)
theorem qBk {Q:AX→St→Prop} (nodes:List Nd) (cap:Option Nat) (nl:Option Bool) (hl:nodes.length≤100) (a3 a4 a8 a9 a10:T) (r6:List T)
  (h0:Q (.exit 0) ⟨[(2,.t (.sl (Ar Dn nodes) cap nl)),(3,.t a3),(4,.t a4),(6,.lp 6 0 0),(7,.t (tI nodes.length)),(8,.t a8),(9,.t a9),(10,.t a10),(11,.ls 51 0 (q6s nodes).length none),(12,.t (tI nodes.length)),(39,.t (tB false))],[(6,.bx (r6.map AV.t)),(51,.sl 3 1 (Av (q6s nodes)))]⟩):∀ (k i:Nat),k+i=nodes.length →
  run Tryz.prog Γ Oe Q ⟨[(2,.t (.sl (Ar Dn nodes) cap nl)),(3,.t a3),(4,.t a4),(6,.lp 6 0 0),(7,.t (tI nodes.length)),(8,.t a8),(9,.t a9),(10,.t a10),(11,.ls 51 0 (q6s (nodes.take i)).length none),(12,.t (tI i))],[(6,.bx (r6.map AV.t)),(51,.sl 3 1 (Av (q6s (nodes.take i))))]⟩
 | 0,i,h=>by
  refine W7 fun K hK=>?_
  have h2:¬ i<nodes.length:=by omega
  have h3:i=nodes.length:=by omega
  simp [h2]
  subst h3
  simpa using h0
 | k+1,i,h=>by
  refine W7 fun K hK=>?_
  have h2:i<nodes.length:=by omega
  have ht:nodes.take (i+1)=nodes.take i++[nodes[i]]:=by rw [List.take_add_one]; simp [h2]
  have hlen:=Xe [12] (nodes.take i) 0
  have htl:(nodes.take i).length=i:=by simp; omega
  have hal:q6s (nodes.take (i+1))=if nodes[i].k=12 then q6s (nodes.take i)++[(i:Int)] else q6s (nodes.take i):=by
   simp only [q6s]
   rw [ht,q6m,htl]
   simp only [Ky,Nat.zero_add,List.contains_cons,List.contains_nil,Bool.or_false,qK1,decide_eq_true_eq]
   split <;> simp
  have ih:=qBk nodes cap nl hl a3 a4 a8 a9 a10 r6 h0 k (i+1) (by omega)
  rw [hal] at ih
  simp only [q6s] at ih ⊢
  by_cases h5:nodes[i].k=12
  ·rw [if_pos h5] at ih
   have hw:Cm 1 [[tI (i:Int)]]:=by intro e he; simp at he; subst he; rfl
   simp (disch:=omega) [h2,Aa,E5 Nd.d,Bf,Dn,B6,h5,A4,A0,A6,hw]
   rw [hK]
   simp at ih
   rw [Be (f:=tI) (x:=(i:Int))]
   exact ⟨by omega,ih⟩
  ·rw [if_neg h5] at ih
   simp (disch:=omega) [h2,Aa,E5 Nd.d,Bf,Dn,B6,h5,A4]
   rw [hK]
   simpa using ih
theorem D1 {a:Int} {n:Nat} (h0:0≤a) (h1:0<n):0≤a.tmod n∧a.tmod n<n:=by
 rw [Int.tmod_eq_emod_of_nonneg h0]
 exact ⟨Int.emod_nonneg _ (by omega),Int.emod_lt_of_pos _ (by omega)⟩
theorem Cb {ty s:Nat} {es:List (List T)}:U8 (.sl ty s es)=∀ e ∈ es,∀ t ∈ e,Au t=true:=rfl
set_option maxHeartbeats 4000000 in
theorem qHD (x:CD) (g:Gd) (hg:qCZ g) (nodes:List Nd) (cap:Option Nat) (nl:Option Bool) (h0:1≤nodes.length) (h1:nodes.length≤100) :
  A3 Tryz.prog Γ 65 [.agg (Nu x),.agg (tGd g),.sl (Ar Dn nodes) cap nl] (.agg (Dn (q6t x.bus g nodes))):=by
 refine A7 q7x rfl ?_
 obtain ⟨⟨hk0,hk1⟩,⟨ha0,ha1⟩,⟨hb0,hb1⟩,⟨hd0,hd1⟩⟩:=hg
 have hn0:¬ (nodes.length:Int)=0:=by omega
 have hn1:(nodes.length:Int) ≠ 0:=by omega
 have hne:¬ nodes=[]:=fun e=>by subst e; simp at h0
 have hlp:=fun Q a3 a4 a8 a9 a10 r6 h0=>qBk (Γ:=Γ) (Q:=Q) nodes cap nl h1 a3 a4 a8 a9 a10 r6 h0 nodes.length 0 (by omega)
 have ht:=Xe [12] nodes 0
 simp only [q6s,List.take_zero,Ky,List.length_nil,Cd] at hlp
 simp (disch:=omega) [q2T,Nu,tGd,Aa,A4,hn0]
 refine ⟨hne,hlp _ _ _ _ _ _ [_,_,_,_] ?_⟩
 clear hlp
 unfold q6t
 simp only [q6s]
 generalize Ky [12] nodes 0=t at *
 have m13:0≤g.k.tmod 13∧g.k.tmod 13<13:=D1 (n:=13) hk0 (by omega)
 have m9:0≤g.k.tmod 9∧g.k.tmod 9<9:=D1 (n:=9) hk0 (by omega)
 have ma:0≤g.a.tmod 2∧g.a.tmod 2<2:=D1 (n:=2) ha0 (by omega)
 generalize g.a.tmod nodes.length=a
 generalize g.b.tmod nodes.length=b
 generalize g.d.tmod nodes.length=d
 unfold qDb
 cases x.bus
 ·generalize hkk:g.k.tmod 9=kk at *
  by_cases k1:kk<6
  ·by_cases k2:128≤g.k
   ·simp (disch:=omega) [hkk,k1,k2,A4,Bm,Bj,B1,Dn,B6,Ac,Cm,Ai,Cb]
   ·simp (disch:=omega) [hkk,k1,k2,A4,Bm,Bj,B1,Dn,B6,Ac,Cm,Ai,Cb]
  by_cases k3:kk=6
  ·simp (disch:=omega) [hkk,k1,k3,A4,Bm,Bj,B1,Dn,B6,Ac,Cm,Ai,Cb]
  by_cases k4:kk=7
  ·simp (disch:=omega) [hkk,k1,k4,A4,Bm,Bj,B1,Dn,B6,Ac,Cm,Ai,Cb]
  have k5:kk=8:=by omega
  by_cases k6:240<g.k
  ·simp (disch:=omega) [hkk,k5,k6,A4,Bm,Bj,B1,Dn,B6,Ac,Cm,Ai,Cb]
  ·simp (disch:=omega) [hkk,k5,k6,A4,Bm,Bj,B1,Dn,B6,Ac,Cm,Ai,Cb]
 ·generalize hkk:g.k.tmod 13=kk at *
  by_cases k1:kk<6
  ·by_cases k2:128≤g.k
   ·simp (disch:=omega) [hkk,k1,k2,A4,Bm,Bj,B1,Dn,B6,Ac,Cm,Ai,Cb]
   ·simp (disch:=omega) [hkk,k1,k2,A4,Bm,Bj,B1,Dn,B6,Ac,Cm,Ai,Cb]
  by_cases k3:kk=6
  ·simp (disch:=omega) [hkk,k1,k3,A4,Bm,Bj,B1,Dn,B6,Ac,Cm,Ai,Cb]
  by_cases k4:kk=7
  ·simp (disch:=omega) [hkk,k1,k4,A4,Bm,Bj,B1,Dn,B6,Ac,Cm,Ai,Cb]
  by_cases k8:kk=9
  ·simp (disch:=omega) [hkk,k8,A4,Bm,Bj,B1,Dn,B6,Ac,Cm,Ai,Cb]
  by_cases k9:kk=10
  ·simp (disch:=omega) [hkk,k9,A4,Bm,Bj,B1,Dn,B6,Ac,Cm,Ai,Cb]
  by_cases k10:10<kk∧0<t.length
  ·obtain ⟨k11,k10⟩:=k10
   have htn:¬ (t.length:Int)=0:=by omega
   have htne:¬ t=[]:=fun e=>by subst e; simp at k10
   have htp:(0:Int)<t.length:=by omega
   have mt:=D1 (n:=t.length) ha0 k10
   generalize hq:g.a.tmod t.length=q at *
   have mt2:=D1 (a:=q+1) (n:=t.length) (by omega) k10
   have hq0:q.toNat<t.length:=by omega
   generalize hq2:(q+1).tmod t.length=q2 at *
   have hq20:q2.toNat<t.length:=by omega
   have e1:=By (f:=tI) 0 hq0
   have e2:=By (f:=tI) 0 hq20
   by_cases k12:1<t.length
   ·have k12':(1:Int)<t.length:=by omega
    simp (disch:=omega) [hkk,k1,k3,k4,k8,k9,k11,k10,htp,htn,k12,k12',hq,hq2,e1,e2,hq0,hq20,mt.1,mt.2,mt2.1,mt2.2,htne,A0,A6,A4,Bm,Bj,Dn,B6,Ai,Cb,B1]
    simp [Cm,Ac]
   ·have k12':¬ (1:Int)<t.length:=by omega
    simp (disch:=omega) [hkk,k1,k3,k4,k8,k9,k11,k10,htp,htn,k12,k12',hq,hq2,e1,e2,hq0,hq20,mt.1,mt.2,mt2.1,mt2.2,htne,A0,A6,A4,Bm,Bj,Dn,B6,Ai,Cb,B1]
    simp [Cm,Ac]
  ·by_cases k11:10<kk
   ·have k10':t=[]:=List.eq_nil_of_length_eq_zero (by omega)
    subst k10'
    by_cases k6:240<g.k
    ·simp (disch:=omega) [hkk,k1,k3,k4,k8,k9,k11,k6,A4,Bm,Bj,B1,Dn,B6,Ac,Cm,Ai,Cb]
    ·simp (disch:=omega) [hkk,k1,k3,k4,k8,k9,k11,k6,A4,Bm,Bj,B1,Dn,B6,Ac,Cm,Ai,Cb]
   ·have k5:kk=8:=by omega
    by_cases k6:240<g.k
    ·simp (disch:=omega) [hkk,k5,k6,A4,Bm,Bj,B1,Dn,B6,Ac,Cm,Ai,Cb]
    ·simp (disch:=omega) [hkk,k5,k6,A4,Bm,Bj,B1,Dn,B6,Ac,Cm,Ai,Cb]
def q2y:T:=.sl [] (some 0) (some true)
def Tj (nodes:List Nd) (names:List (List UInt8)) (m:T) (outs:List Int):List (Nat × B9) :=
 [(2,.bx [.t q2y,.t q2y,.t q2y,.t q2y]),(3,.bx [.ls 25 0 nodes.length none,.ls 144 0 names.length none,.t m,.ls 168 0 outs.length none]),(25,.sl 45 4 (Ar Dn nodes)),(144,.sl 9 1 (Ac tS names)),(168,.sl 3 1 (Av outs))]
def q94:Nd:=⟨0,⟨[],some 0,some true⟩,0,0⟩
def q7y (l:Int):Nd:=⟨14,⟨[l],some 1,some false⟩,0,0⟩
def q5w (b:Int):Nd:=⟨15,⟨[],some 0,some true⟩,0,b⟩
theorem qBl {Q:AX→St→Prop} (x:CD) (hx:Byt x.i) (R:List Nd)
  (h0:Q (.exit 0) ⟨[(1,.t (.ip (Nu x) 0)),(2,.lp 2 0 0),(3,.lp 3 0 0),(4,.t (tI (x.i.tmod 4+1))),(18,.t (tB false))],Tj R [] q2y []⟩):∀ (k:Nat) (i:Int) (ns:List Nd),k+i=x.i.tmod 4+1→ns++List.replicate k q94=R→ns.length+k≤100 →
  run Tryz.prog Γ U9 Q ⟨[(1,.t (.ip (Nu x) 0)),(2,.lp 2 0 0),(3,.lp 3 0 0),(4,.t (tI i))],Tj ns [] q2y []⟩
 | 0,i,ns,h,hR,hl=>by
  refine q01 fun K hK=>?_
  have m4:0≤x.i.tmod 4∧x.i.tmod 4<4:=D1 (n:=4) hx.1 (by omega)
  have h2:¬ i≤x.i.tmod 4:=by omega
  have h3:i=x.i.tmod 4+1:=by omega
  simp only [List.replicate_zero,List.append_nil] at hR
  subst hR
  simp (disch:=omega) [h2,Nu,Tj,A4,Bm]
  subst h3
  simpa [Nu,Tj] using h0
 | k+1,i,ns,h,hR,hl=>by
  refine q01 fun K hK=>?_
  have m4:0≤x.i.tmod 4∧x.i.tmod 4<4:=D1 (n:=4) hx.1 (by omega)
  have h2:i≤x.i.tmod 4:=by omega
  have ih:=qBl x hx R h0 k (i+1) (ns++[q94]) (by omega) (by rw [← hR]; simp [List.replicate_succ]) (by simp; omega)
  have q:Ar Dn ns++[[tK 0,.sl [] (some 0) (some true),tI 0,tI 0]]=Ar Dn (ns++[q94]):=q18 (f:=Dn) (x:=q94)
  have hw4:Cm 4 [[tK 0,.sl [] (some 0) (some true),tI 0,tI 0]]:=by intro e he; simp at he; subst he; rfl
  have ht:(Ar Dn ns).take ns.length=Ar Dn ns:=List.take_of_length_le (by simp [Ar])
  simp (disch:=omega) [h2,Nu,Tj,A4,Bm,Aa,hw4,Bf,ht,q]
  rw [hK]
  simp [Nu,Tj] at ih
  exact ⟨by omega,ih⟩
theorem qG5 {Q:AX→St→Prop} (x:CD) (hx:Byt x.f) (first:Int) (R:List Nd)
  (h0:Q (.exit 2) ⟨[(1,.t (.ip (Nu x) 0)),(2,.lp 2 0 0),(3,.lp 3 0 0),(5,.t (tI first)),(6,.t (tI (x.f.tmod 3))),(7,.t (tI (x.f.tmod 3))),(36,.t (tB false))],Tj R [] q2y []⟩):∀ (k:Nat) (i:Int) (ns:List Nd),k+i=x.f.tmod 3→ns++List.replicate k (q7y 0)=R→ns.length+k≤100 →
  run Tryz.prog Γ Ua Q ⟨[(1,.t (.ip (Nu x) 0)),(2,.lp 2 0 0),(3,.lp 3 0 0),(5,.t (tI first)),(6,.t (tI (x.f.tmod 3))),(7,.t (tI i))],Tj ns [] q2y []⟩
 | 0,i,ns,h,hR,hl=>by
  refine q02 fun K hK=>?_
  have m3:0≤x.f.tmod 3∧x.f.tmod 3<3:=D1 (n:=3) hx.1 (by omega)
  have h2:¬ i<x.f.tmod 3:=by omega
  have h3:i=x.f.tmod 3:=by omega
  simp only [List.replicate_zero,List.append_nil] at hR
  subst hR
  simp (disch:=omega) [h2,Nu,Tj,A4,Bm]
  subst h3
  simpa [Nu,Tj] using h0
 | k+1,i,ns,h,hR,hl=>by
  refine q02 fun K hK=>?_
  have m3:0≤x.f.tmod 3∧x.f.tmod 3<3:=D1 (n:=3) hx.1 (by omega)
  have h2:i<x.f.tmod 3:=by omega
  have ih:=qG5 x hx first R h0 k (i+1) (ns++[q7y 0]) (by omega) (by rw [← hR]; simp [List.replicate_succ]) (by simp; omega)
  have q:Ar Dn ns++[[tK 14,.sl [[tI 0]] (some 1) (some false),tI 0,tI 0]]=Ar Dn (ns++[q7y 0]):=q18 (f:=Dn) (x:=q7y 0)
  have hw4:Cm 4 [[tK 14,.sl [[tI 0]] (some 1) (some false),tI 0,tI 0]]:=by intro e he; simp at he; subst he; rfl
  have ht:(Ar Dn ns).take ns.length=Ar Dn ns:=List.take_of_length_le (by simp [Ar])
  simp (disch:=omega) [h2,Nu,Tj,A4,Bm,Aa,hw4,Bf,ht,q]
  rw [hK]
  simp [Nu,Tj] at ih
  exact ⟨by omega,ih⟩
def Tm (bus:Bool):List Gd→List Nd→List Nd
 | [],ns=>ns
 | g::l,ns=>Tm bus l (ns++[q6t bus g ns])
theorem qK9 {l:List Gd}:Cm 4 (Ar tGd l):=q3F fun _=>rfl
def Gd.z:Gd:=⟨0,0,0,0⟩
theorem qDc {Q:AX→St→Prop} (x:CD) (hx:∀ g ∈ x.gates.l,qCZ g) (first dffs:Int) (R:List Nd)
  (h0:Q (.exit 4) ⟨[(1,.t (.ip (Nu x) 0)),(2,.lp 2 0 0),(3,.lp 3 0 0),(5,.t (tI first)),(6,.t (tI dffs)),(8,.t (tI (min x.gates.l.length 8:Nat))),(63,.t (tB false))],Tj R [] q2y []⟩):∀ (k i:Nat) (ns:List Nd),k+i=min x.gates.l.length 8→Tm x.bus ((x.gates.l.take 8).drop i) ns=R→1≤ns.length→ns.length+k≤100 →
  run Tryz.prog Γ Ub Q ⟨[(1,.t (.ip (Nu x) 0)),(2,.lp 2 0 0),(3,.lp 3 0 0),(5,.t (tI first)),(6,.t (tI dffs)),(8,.t (tI i))],Tj ns [] q2y []⟩
 | 0,i,ns,h,hR,hl1,hl=>by
  refine q03 fun K hK=>?_
  rw [List.drop_of_length_le (by simp; omega)] at hR
  simp only [Tm] at hR
  subst hR
  have hi:i=min x.gates.l.length 8:=by omega
  by_cases h2:i<x.gates.l.length
  ·have h3:¬ (i:Int)<8:=by omega
   have h3':¬ i<8:=by omega
   simp (disch:=omega) [h2,h3,h3',Nu,Tj,Aa]
   subst hi
   simpa [Nu,Tj] using h0
  ·simp (disch:=omega) [h2,Nu,Tj,Aa]
   subst hi
   simpa [Nu,Tj] using h0
 | k+1,i,ns,h,hR,hl1,hl=>by
  refine q03 fun K hK=>?_
  have h2:i<x.gates.l.length:=by omega
  have h3:i<8:=by omega
  have h3':(i:Int)<8:=by omega
  rw [List.drop_eq_getElem_cons (by simp; omega)] at hR
  simp only [Tm,List.getElem_take] at hR
  have ih:=qDc x hx first dffs R h0 k (i+1) (ns++[q6t x.bus x.gates.l[i] ns]) (by omega) hR (by simp) (by simp; omega)
  have hg:=qHD (Γ:=Γ) x x.gates.l[i] (hx _ (List.getElem_mem h2)) ns none none hl1 (by omega)
  generalize q6t x.bus x.gates.l[i] ns=gn at *
  have q:Ar Dn ns++[Dn gn]=Ar Dn (ns++[gn]):=q18 (f:=Dn) (x:=gn)
  have hw4:Cm 4 [Dn gn]:=by intro e he; simp at he; subst he; rfl
  have ht:(Ar Dn ns).take ns.length=Ar Dn ns:=List.take_of_length_le (by simp [Ar])
  have hget:=E5 (f:=tGd) Gd.z h2
  simp (disch:=omega) [h2,h3,h3',Nu,Tj,A4,Aa,hget,qK9,tGd]
  refine A1 hg (by simp [Ai,Nu,ht,tGd]) ?_
  simp [Dn] at q hw4
  simp (disch:=omega) [Dn,A4,Aa,hw4,Bf,ht,q]
  rw [hK]
  simp [Nu,Tj] at ih
  exact ⟨rfl,by omega,ih⟩
def ddN (x:CD) (i:Nat):Int:=if i=0 then x.d0 else x.d1
def W8 (ns:List Nd) (j:Nat) (v:Int):List Nd:=ns.set j ⟨(ns.getD j Nd.d).k,⟨[v],some 1,some false⟩,(ns.getD j Nd.d).mem,(ns.getD j Nd.d).bit⟩
def q3R (x:CD) (first:Nat):Nat→Nat→List Nd→List Nd
 | 0,_,ns=>ns
 | k+1,i,ns=>q3R x first k (i+1) (W8 ns (first+i) ((ddN x i).tmod ns.length))
theorem Pn {ns:List Nd} {j:Nat} {v:Int}:(W8 ns j v).length=ns.length:=by simp [W8]
theorem q7z {x:CD} {f:Nat}:∀ {k i:Nat} {ns:List Nd},(q3R x f k i ns).length=ns.length
 | 0,_,_=>rfl
 | k+1,i,ns=>by simp only [q3R]; rw [q7z,Pn]
theorem qME {ns:List Nd} {j:Nat} {v:Int} (hj:j<ns.length):(Ar Dn ns).set j (((Ar Dn ns)[j]?.getD []).take 1++T.sl [[tI v]] (some 1) (some false)::((Ar Dn ns)[j]?.getD []).drop 2)=Ar Dn (W8 ns j v):=by
 rw [E5 (f:=Dn) Nd.d hj]
 unfold W8 Ar
 rw [List.map_set]
 rfl
theorem qG6 {Q:AX→St→Prop} (x:CD) (h0':Byt x.d0) (h1':Byt x.d1) (first dn n:Nat) (hdn:dn≤2) (hn:1≤n∧n≤100) (hf:first+dn≤n) (R:List Nd)
  (h0:Q (.exit 6) ⟨[(1,.t (.ip (Nu x) 0)),(2,.lp 2 0 0),(3,.lp 3 0 0),(5,.t (tI first)),(6,.t (tI dn)),(9,.t (tI n)),(10,.t (tI dn)),(85,.t (tB false))],Tj R [] q2y []⟩):∀ (k i:Nat) (ns:List Nd),k+i=dn→q3R x first k i ns=R→ns.length=n →
  run Tryz.prog Γ Uc Q ⟨[(1,.t (.ip (Nu x) 0)),(2,.lp 2 0 0),(3,.lp 3 0 0),(5,.t (tI first)),(6,.t (tI dn)),(9,.t (tI n)),(10,.t (tI i))],Tj ns [] q2y []⟩
 | 0,i,ns,h,hR,hl=>by
  refine q04 fun K hK=>?_
  simp only [q3R] at hR
  subst hR
  have h2:¬ i<dn:=by omega
  have h3:i=dn:=by omega
  simp (disch:=omega) [h2,Nu,Tj]
  subst h3
  simpa [Nu,Tj] using h0
 | k+1,i,ns,h,hR,hl=>by
  refine q04 fun K hK=>?_
  have h2:i<dn:=by omega
  simp only [q3R] at hR
  have ih:=qG6 x h0' h1' first dn n hdn hn hf R h0 k (i+1) _ (by omega) hR (by rw [Pn]; exact hl)
  have hi:i=0∨i=1:=by omega
  have hj:first+i<ns.length:=by omega
  have hn0:¬ (n:Int)=0:=by omega
  have hget:=E5 (f:=Dn) Nd.d hj
  obtain ⟨h01,h02⟩:=h0'
  obtain ⟨h11,h12⟩:=h1'
  have hs:=fun v=>qME (v:=v) hj
  have hn':¬ n=0:=by omega
  have hfi:first+i<n:=by omega
  rcases hi with rfl | rfl
  ·have hdd:ddN x 0=x.d0:=rfl
   have h2':(0:Int)<dn:=by omega
   rw [hdd,hl] at ih
   simp only [Nat.add_zero] at hs hfi ih
   simp (disch:=omega) [h2,h2',Nu,Tj,A4,Aa,Bf,hn0,hl,hs,hn',hfi]
   rw [hK]
   simp [Nu,Tj,Pn,hl] at ih
   exact ih
  ·have hdd:ddN x 1=x.d1:=rfl
   have h2':(1:Int)<dn:=by omega
   rw [hdd,hl] at ih
   have hfn:((first:Int)+1).toNat=first+1:=by omega
   have hfi':(first:Int)+1<n:=by omega
   simp (disch:=omega) [h2,h2',Nu,Tj,A4,Aa,Bf,hn0,hl,hs,hn',hfi,hfn,hfi']
   rw [hK]
   simp [Nu,Tj,Pn,hl] at ih
   exact ⟨by omega,ih⟩
theorem qDd {Q:AX→St→Prop} (x:CD) (n:Nat) (hn:n≤100) (ns:List Nd) (m:T) (R:List (List UInt8))
  (h0:Q (.exit 8) ⟨[(1,.t (.ip (Nu x) 0)),(2,.lp 2 0 0),(3,.lp 3 0 0),(9,.t (tI n)),(11,.t (tI n)),(136,.t (tB false))],Tj ns R m []⟩):∀ (k i:Nat) (nms:List (List UInt8)),k+i=n→nms++(List.range' i k).map q1F=R→nms.length=i →
  run Tryz.prog Γ Ud Q ⟨[(1,.t (.ip (Nu x) 0)),(2,.lp 2 0 0),(3,.lp 3 0 0),(9,.t (tI n)),(11,.t (tI i))],Tj ns nms m []⟩
 | 0,i,nms,h,hR,hl=>by
  refine q05 fun K hK=>?_
  simp only [List.range'_zero,List.map_nil,List.append_nil] at hR
  subst hR
  have h2:¬ i<n:=by omega
  have h3:i=n:=by omega
  simp (disch:=omega) [h2,Nu,Tj]
  subst h3
  simpa [Nu,Tj] using h0
 | k+1,i,nms,h,hR,hl=>by
  refine q05 fun K hK=>?_
  have h2:i<n:=by omega
  rw [List.range'_succ,List.map_cons] at hR
  have ih:=qDd x n hn ns m R h0 k (i+1) (nms++[q1F i]) (by omega) (by rw [← hR]; simp) (by simp; omega)
  have e:=qHC (Γ:=Γ) i (by omega)
  have q:Ac tS nms++[[tS (q1F i)]]=Ac tS (nms++[q1F i]):=Be
  have ht:(Ac tS nms).take i=Ac tS nms:=List.take_of_length_le (by simp [Ac]; omega)
  generalize q1F i=nm at *
  have hw:Cm 1 [[tS nm]]:=by intro e he; simp at he; subst he; rfl
  simp (disch:=omega) [h2,Nu,Tj,A4,hl]
  refine A1 e rfl ?_
  simp only [tS,sV] at q hw
  simp (disch:=omega) [tS,sV,A4,A0,hw,A6,ht,q,hl]
  rw [hK]
  simp [Nu,Tj,hl] at ih
  exact ⟨by omega,ih⟩
theorem qG7 {Q:AX→St→Prop} (x:CD) (hx:∀ b ∈ x.outs.l,Byt b) (n:Nat) (hn:1≤n∧n≤100) (ns:List Nd) (nms:List (List UInt8)) (m:T) (R:List Int)
  (h0:Q (.exit 10) ⟨[(1,.t (.ip (Nu x) 0)),(2,.lp 2 0 0),(3,.lp 3 0 0),(9,.t (tI n)),(12,.t (tI (min x.outs.l.length 3:Nat))),(154,.t (tB false))],Tj ns nms m R⟩):∀ (k i:Nat) (os:List Int),k+i=min x.outs.l.length 3→os++((x.outs.l.take 3).drop i).map (fun b=>b.tmod n)=R→os.length=i →
  run Tryz.prog Γ Qk Q ⟨[(1,.t (.ip (Nu x) 0)),(2,.lp 2 0 0),(3,.lp 3 0 0),(9,.t (tI n)),(12,.t (tI i))],Tj ns nms m os⟩
 | 0,i,os,h,hR,hl=>by
  refine Yi fun K hK=>?_
  rw [List.drop_of_length_le (by simp; omega)] at hR
  simp only [List.map_nil,List.append_nil] at hR
  subst hR
  have hi:i=min x.outs.l.length 3:=by omega
  by_cases h2:i<x.outs.l.length
  ·have h3:¬ (i:Int)<3:=by omega
   have h3':¬ i<3:=by omega
   simp (disch:=omega) [h2,h3,h3',Nu,Tj,A0]
   subst hi
   simpa [Nu,Tj] using h0
  ·simp (disch:=omega) [h2,Nu,Tj,A0]
   subst hi
   simpa [Nu,Tj] using h0
 | k+1,i,os,h,hR,hl=>by
  refine Yi fun K hK=>?_
  have h2:i<x.outs.l.length:=by omega
  have h3:i<3:=by omega
  have h3':(i:Int)<3:=by omega
  rw [List.drop_eq_getElem_cons (by simp; omega)] at hR
  simp only [List.map_cons,List.getElem_take] at hR
  have hb:=hx _ (List.getElem_mem h2)
  obtain ⟨hb0,hb1⟩:=hb
  have hget:=By (f:=tK) 0 h2
  have hg2:x.outs.l[i]?.getD 0=x.outs.l[i]:=by simp [h2]
  rw [hg2] at hget
  generalize x.outs.l[i]=b at *
  have hn0:¬ (n:Int)=0:=by omega
  have hn0':¬ n=0:=by omega
  have ih:=qG7 x hx n hn ns nms m R h0 k (i+1) (os++[b.tmod n]) (by omega) (by rw [← hR]; simp) (by simp; omega)
  have q:Ac tI os++[[tI (b.tmod n)]]=Ac tI (os++[b.tmod n]):=Be
  have ht:(Ac tI os).take i=Ac tI os:=List.take_of_length_le (by simp [Ac]; omega)
  have hw:Cm 1 [[tI (b.tmod n)]]:=by intro e he; simp at he; subst he; rfl
  simp (disch:=omega) [h2,h3,h3',Nu,Tj,A4,A0,A6,hget,hn0,hn0',hw,ht,q,hl]
  rw [hK]
  simp [Nu,Tj,hl] at ih
  exact ⟨by omega,ih⟩
def J4 (x:CD):List Nd:=List.replicate (x.i.tmod 4+1).toNat q94
def G8 (x:CD):List Nd:=J4 x++List.replicate (x.f.tmod 3).toNat (q7y 0)
def F9 (x:CD):List Nd:=if x.mem then G8 x++[q5w 0,q5w 1] else G8 x
def C6 (x:CD):List Nd:=Tm x.bus (x.gates.l.take 8) (F9 x)
def Hf (x:CD):List Nd:=q3R x (J4 x).length (x.f.tmod 3).toNat 0 (C6 x)
def qB6 (x:CD) (n:Int):List Mm:=if x.mem then [⟨⟨[x.p0.tmod n],some 1,some false⟩,⟨[x.p1.tmod n,x.p2.tmod n],some 2,some false⟩,x.p3.tmod n⟩] else []
def ofC (x:CD):B0 :=
 ⟨⟨Hf x,none,none⟩,⟨(List.range' 0 (C6 x).length).map q1F,none,none⟩,⟨qB6 x (C6 x).length,some (if x.mem then 1 else 0),some (!x.mem)⟩,⟨(x.outs.l.take 3).map (fun b=>b.tmod (C6 x).length)++[((C6 x).length:Int) - 1],none,none⟩⟩
structure q80 (x:CD):Prop where
 i:Byt x.i
 f:Byt x.f
 d0:Byt x.d0
 d1:Byt x.d1
 p0:Byt x.p0
 p1:Byt x.p1
 p2:Byt x.p2
 p3:Byt x.p3
 gates:∀ g ∈ x.gates.l,qCZ g
 outs:∀ b ∈ x.outs.l,Byt b
theorem q24 {bus:Bool}:∀ {l:List Gd} {ns:List Nd},(Tm bus l ns).length=ns.length+l.length
 | [],ns=>rfl
 | g::l,ns=>by simp only [Tm]; rw [q24]; simp; omega
set_option maxHeartbeats 4000000 in
theorem qKA (x:CD) (hx:q80 x):Ab Tryz.prog Γ 16 [.agg (Nu x)] (.agg (tC (ofC x))):=by
 refine Aq qAF rfl ?_
 have m4:0≤x.i.tmod 4∧x.i.tmod 4<4:=D1 (n:=4) hx.i.1 (by omega)
 have m3:0≤x.f.tmod 3∧x.f.tmod 3<3:=D1 (n:=3) hx.f.1 (by omega)
 have l1:(J4 x).length=(x.i.tmod 4+1).toNat:=by simp [J4]
 have l2:(G8 x).length=(x.i.tmod 4+1).toNat+(x.f.tmod 3).toNat:=by simp [G8,J4]
 have l3:(G8 x).length≤(F9 x).length∧(F9 x).length≤8:=by unfold F9; split <;> simp <;> omega
 have l4:(C6 x).length=(F9 x).length+min 8 x.gates.l.length:=by unfold C6; rw [q24]; simp
 have l5:(Hf x).length=(C6 x).length:=q7z
 have e1:=fun Q h0=>qBl (Γ:=Γ) (Q:=Q) x hx.i (J4 x) h0 (x.i.tmod 4+1).toNat 0 [] (by omega) rfl (by simp; omega)
 have e2:=fun Q h0=>qG5 (Γ:=Γ) (Q:=Q) x hx.f (J4 x).length (G8 x) h0 (x.f.tmod 3).toNat 0 (J4 x) (by omega) rfl (by omega)
 have e3:=fun Q h0=>qDc (Γ:=Γ) (Q:=Q) x hx.gates (J4 x).length (x.f.tmod 3) (C6 x) h0 (min x.gates.l.length 8) 0 (F9 x) (by omega) rfl (by omega) (by omega)
 have e4:=fun Q h0=>qG6 (Γ:=Γ) (Q:=Q) x hx.d0 hx.d1 (J4 x).length (x.f.tmod 3).toNat (C6 x).length (by omega) (by omega) (by omega) (Hf x) h0 (x.f.tmod 3).toNat 0 (C6 x) (by omega) rfl rfl
 have e5:=fun Q m h0=>qDd (Γ:=Γ) (Q:=Q) x (C6 x).length (by omega) (Hf x) m _ h0 (C6 x).length 0 [] (by omega) rfl rfl
 have e6:=fun Q nms m h0=>qG7 (Γ:=Γ) (Q:=Q) x hx.outs (C6 x).length (by omega) (Hf x) nms m _ h0 (min x.outs.l.length 3) 0 [] (by omega) rfl rfl
 have hc:((x.f.tmod 3).toNat:Int)=x.f.tmod 3:=by omega
 rw [hc] at e4
 have hk1:=fun {s:Nat} {e:List (List T)} {n:Nat} (h:e.length≤n)=>List.take_of_length_le h
 have a33:∀ {os:List Int},Ac tI os++[[tI (((C6 x).length:Int) - 1)]]=Ac tI (os++[((C6 x).length:Int) - 1]):=Be
 have hw1:Cm 1 [[tI (((C6 x).length:Int) - 1)]]:=by intro e he; simp at he; subst he; rfl
 have hol:((x.outs.l.take 3).map (fun b=>b.tmod ((C6 x).length:Int))).length=min 3 x.outs.l.length:=by simp
 have hnl:((List.range' 0 (C6 x).length).map q1F).length=(C6 x).length:=by simp
 simp only [List.nil_append,List.drop_zero] at e5 e6
 generalize hN:C6 x=N4 at *
 generalize hO:(x.outs.l.take 3).map (fun b=>b.tmod (N4.length:Int))=O at *
 generalize hNm:(List.range' 0 N4.length).map q1F=Nm at *
 simp (config:={ maxSteps:=2000000 }) [q53,Nu]
 refine e1 _ ?_
 simp (config:={ maxSteps:=2000000 }) (disch:=omega) [Nu,Tj,A4,Bm,Aa]
 refine e2 _ ?_
 cases hm:x.mem
 ·have h3:F9 x=G8 x:=by simp [F9,hm]
  rw [h3] at e3 l3 l4
  simp only [Nu,Tj,hm] at e3 e4 e5 e6
  simp (config:={ maxSteps:=2000000 }) (disch:=omega) [Nu,Tj,A4,Bm,Aa,A0,q3G,Bf,A6,hm]
  refine e3 _ ?_
  simp (config:={ maxSteps:=2000000 }) (disch:=omega) [Nu,Tj,A4,Bm,Aa,A0,q3G,Bf,A6,hm]
  refine e4 _ ?_
  simp (config:={ maxSteps:=2000000 }) (disch:=omega) [Nu,Tj,A4,Bm,Aa,A0,q3G,Bf,A6,hm]
  refine e5 _ _ ?_
  simp (config:={ maxSteps:=2000000 }) (disch:=omega) [Nu,Tj,A4,Bm,Aa,A0,q3G,Bf,A6,hm]
  refine e6 _ _ _ ?_
  have ht:(Ac tI O).take O.length=Ac tI O:=List.take_of_length_le (by simp [Ac])
  simp (config:={ maxSteps:=2000000 }) (disch:=omega) [Nu,Tj,A4,Bm,Aa,A0,q3G,Bf,A6,hm,ht,hw1,a33,He,Ai,q2y]
  have ht2:(Ac tI (O++[(N4.length:Int) - 1])).take (O.length+1)=Ac tI (O++[(N4.length:Int) - 1]):=List.take_of_length_le (by simp [Ac])
  refine ⟨by omega,?_⟩
  rw [ht2]
  simp [tC,ofC,qB6,hm,A5,A8,Ad,B6,hN,hO,hNm,Ar]
 ·have h3:F9 x=G8 x++[q5w 0,q5w 1]:=by simp [F9,hm]
  have l3':(F9 x).length=(G8 x).length+2:=by rw [h3]; simp
  have q:Ar Dn (G8 x)++[[tK 15,.sl [] (some 0) (some true),tI 0,tI 0],[tK 15,.sl [] (some 0) (some true),tI 0,tI 1]]=Ar Dn (F9 x):=by rw [h3]; simp [Ar,q5w,Dn,B6,Ac]
  have hw4:Cm 4 [[tK 15,.sl [] (some 0) (some true),tI 0,tI 0],[tK 15,.sl [] (some 0) (some true),tI 0,tI 1]]:=by intro e he; simp at he; rcases he with rfl | rfl <;> rfl
  have ht0:(Ar Dn (G8 x)).take (G8 x).length=Ar Dn (G8 x):=List.take_of_length_le (by simp [Ar])
  have ht:(Ac tI O).take O.length=Ac tI O:=List.take_of_length_le (by simp [Ac])
  have hn0:¬ (N4.length:Int)=0:=by omega
  have hn0':¬ N4=[]:=fun e=>by rw [e] at l4; simp at l4; omega
  obtain ⟨b00,b01⟩:=hx.p0
  obtain ⟨b10,b11⟩:=hx.p1
  obtain ⟨b20,b21⟩:=hx.p2
  obtain ⟨b30,b31⟩:=hx.p3
  simp only [Nu,Tj,hm] at e3 e4 e5 e6
  simp (config:={ maxSteps:=2000000 }) (disch:=omega) [Nu,Tj,A4,Bm,Aa,A0,Bf,A6,hm,ht,ht0,hw1,hw4,q,hn0,hn0',a33,He,Ai,q2y]
  refine ⟨by omega,?_⟩
  rw [← l3']
  refine e3 _ ?_
  simp (config:={ maxSteps:=2000000 }) (disch:=omega) [Nu,Tj,A4,Bm,Aa,A0,Bf,A6,hm,ht,ht0,hw1,hw4,q,hn0,hn0',a33,He,Ai,q2y]
  refine e4 _ ?_
  simp (config:={ maxSteps:=2000000 }) (disch:=omega) [Nu,Tj,A4,Bm,Aa,A0,Bf,A6,hm,ht,ht0,hw1,hw4,q,hn0,hn0',a33,He,Ai,q2y]
  refine e5 _ _ ?_
  simp (config:={ maxSteps:=2000000 }) (disch:=omega) [Nu,Tj,A4,Bm,Aa,A0,Bf,A6,hm,ht,ht0,hw1,hw4,q,hn0,hn0',a33,He,Ai,q2y]
  refine e6 _ _ _ ?_
  simp (config:={ maxSteps:=2000000 }) (disch:=omega) [Nu,Tj,A4,Bm,Aa,A0,Bf,A6,hm,ht,ht0,hw1,hw4,q,hn0,hn0',a33,He,Ai,q2y]
  have ht2:(Ac tI (O++[(N4.length:Int) - 1])).take (O.length+1)=Ac tI (O++[(N4.length:Int) - 1]):=List.take_of_length_le (by simp [Ac])
  refine ⟨by omega,?_⟩
  rw [ht2]
  simp [tC,ofC,qB6,hm,A5,A8,Ad,B6,hN,hO,hNm,Ar,tMm,Ac]
def q5x (x:Nd):Prop:=(0≤x.k∧x.k≤255)∧x.inn.l.length≤1000000000
theorem qIR {bus:Bool} {g:Gd} {a b d:Int} {t:List Int} (hg:qCZ g):q5x (qDb bus g a b d t):=by
 have m13:0≤g.k.tmod 13∧g.k.tmod 13<13:=D1 (n:=13) hg.1.1 (by omega)
 have m9:0≤g.k.tmod 9∧g.k.tmod 9<9:=D1 (n:=9) hg.1.1 (by omega)
 have ma:0≤g.a.tmod 2∧g.a.tmod 2<2:=D1 (n:=2) hg.2.1.1 (by omega)
 have hk:0≤(if bus then g.k.tmod 13 else g.k.tmod 9)∧(if bus then g.k.tmod 13 else g.k.tmod 9)<13:=by cases bus <;> simp <;> omega
 unfold qDb
 simp only
 generalize (if bus=true then g.k.tmod 13 else g.k.tmod 9)=kk at *
 unfold q5x
 split
 ·refine ⟨⟨by simp; omega,by simp; omega⟩,?_⟩
  simp only; split <;> simp
 split
 ·simp
 split
 ·simp
 split
 ·simp
 split
 ·simp only; split <;> simp
 split
 ·simp; omega
 ·simp
theorem qBm {bus:Bool}:∀ {l:List Gd} {ns:List Nd},(∀ g ∈ l,qCZ g)→(∀ x ∈ ns,q5x x)→∀ x ∈ Tm bus l ns,q5x x
 | [],ns,_,h=>h
 | g::l,ns,hg,h=>by
  simp only [Tm]
  refine qBm (fun y hy=>hg y (List.mem_cons_of_mem _ hy)) fun y hy=>?_
  rcases List.mem_append.1 hy with hy | hy
  ·exact h y hy
  ·simp at hy; subst hy; exact qIR (hg g List.mem_cons_self)
theorem qIS {ns:List Nd} {j:Nat} {v:Int} (h:∀ x ∈ ns,q5x x):∀ x ∈ W8 ns j v,q5x x:=by
 intro x hx
 unfold W8 at hx
 rcases List.mem_or_eq_of_mem_set hx with hx | rfl
 ·exact h x hx
 ·refine ⟨?_,by simp⟩
  simp only [List.getD_eq_getElem?_getD]
  by_cases hj:j<ns.length
  ·simp only [List.getElem?_eq_getElem hj,Option.getD_some]
   exact (h _ (List.getElem_mem hj)).1
  ·simp [List.getElem?_eq_none (Nat.le_of_not_lt hj),Nd.d]
theorem qDe {c:CD} {f:Nat}:∀ {k i:Nat} {ns:List Nd},(∀ x ∈ ns,q5x x)→∀ x ∈ q3R c f k i ns,q5x x
 | 0,_,_,h=>h
 | k+1,i,ns,h=>by simp only [q3R]; exact qDe (qIS h)
theorem qHE {x:CD} (hx:q80 x):∀ n ∈ Hf x,q5x n:=by
 have h1:∀ n ∈ J4 x,q5x n:=fun n hn=>by rw [(List.mem_replicate.1 hn).2]; simp [q5x,q94]
 have h2:∀ n ∈ G8 x,q5x n:=fun n hn=>by
  rcases List.mem_append.1 hn with hn | hn
  ·exact h1 n hn
  ·rw [(List.mem_replicate.1 hn).2]; simp [q5x,q7y]
 have h3:∀ n ∈ F9 x,q5x n:=by
  unfold F9
  split
  ·intro n hn
   rcases List.mem_append.1 hn with hn | hn
   ·exact h2 n hn
   ·simp at hn; rcases hn with rfl | rfl <;> simp [q5x,q5w]
  ·exact h2
 exact qDe (qBm (fun g hg=>hx.gates g (List.mem_of_mem_take hg)) h3)
theorem q5y {x:CD} (hx:q80 x):1≤(C6 x).length∧(C6 x).length≤16:=by
 have m4:0≤x.i.tmod 4∧x.i.tmod 4<4:=D1 (n:=4) hx.i.1 (by omega)
 have m3:0≤x.f.tmod 3∧x.f.tmod 3<3:=D1 (n:=3) hx.f.1 (by omega)
 have l2:(G8 x).length=(x.i.tmod 4+1).toNat+(x.f.tmod 3).toNat:=by simp [G8,J4]
 have l3:(G8 x).length≤(F9 x).length∧(F9 x).length≤8:=by unfold F9; split <;> simp <;> omega
 have l4:(C6 x).length=(F9 x).length+min 8 x.gates.l.length:=by unfold C6; rw [q24]; simp
 omega
theorem q5z {x:CD} (hx:q80 x):(Hf x).length=(C6 x).length:=q7z
theorem qIT {x:CD} (hx:q80 x):COk (ofC x):=by
 have l:=q5y hx
 have l5:=q5z hx
 have hn:=qHE hx
 refine ⟨⟨?_,?_,?_,?_,fun n h=>(hn n h).1,fun n h=>(hn n h).2,?_⟩,?_⟩
 ·simp only [ofC]; omega
 ·simp [ofC]; omega
 ·simp only [ofC,qB6]; split <;> simp
 ·simp [ofC]; omega
 ·intro m hm
  simp only [ofC,qB6] at hm
  split at hm
  ·simp at hm; subst hm; simp
  ·cases hm
 ·intro s hs b hb
  simp only [ofC] at hs
  obtain ⟨i,hi,rfl⟩:=List.mem_map.1 hs
  have:=(List.mem_range'_1.1 hi).2
  have h1:i / 10<10:=by omega
  have h2:i % 10<10:=by omega
  have key:∀ q:Nat,q<10→UInt8.ofNat (48+q)<128:=by decide
  simp only [q1F,List.mem_cons,List.not_mem_nil,or_false] at hb
  rcases hb with rfl | rfl | rfl
  ·decide
  ·exact key _ h1
  ·exact key _ h2
end Go.Lg
namespace Go.Lg
open Go Go.Proofs Go.Proofs.YtnhgdofpomioeaaGreatDoor
def G0 (g:Nat):Option (List T):=if g=0 then some qH3 else none
theorem qPD:GOk G0:=rfl
theorem qO7:Tryz.prog.globalNamed "probecard/logic.fanins" = some 0:=by kernel_rfl
theorem qMF:(Tryz.prog.globals[0]?).map (·.type)=some 251:=by kernel_rfl
theorem qMG:Tryz.prog.cellsOf 3=1:=by kernel_rfl
theorem qIU:Tryz.prog.cellsOf 4=1:=by kernel_rfl
theorem q3S:Tryz.prog.cellsOf 5=1:=by kernel_rfl
theorem qG8:Tryz.prog.cellsOf 22=2:=by kernel_rfl
theorem qG9:Tryz.prog.cellsOf 23=4:=by kernel_rfl
theorem qKB:Tryz.prog.cellsOf 24=1:=by kernel_rfl
theorem q9Q:Tryz.prog.cellsOf 25=1:=by kernel_rfl
theorem qKC:Tryz.prog.cellsOf 27=12:=by kernel_rfl
theorem qDf:Tryz.prog.cellsOf 112=3:=by kernel_rfl
theorem qDg:Tryz.prog.cellsOf 114=4:=by kernel_rfl
theorem qIV:Tryz.prog.cellsOf 250=2:=by kernel_rfl
theorem qIW:Tryz.prog.cellsOf 251=32:=by kernel_rfl
theorem qHF {W:World} (h:laidMet Tryz.prog [("probecard/logic.fanins",Rows.laid_probecard_logic_fanins)] W):∀ j,j<32→W.cell? ⟨0,j,none⟩=(qA3.flatMap fun x=>[Value.int .i64 x.1,Value.int .i64 x.2])[j]? := by
 obtain ⟨ps,⟨g',t',cs,fuel,p,q,hg',ht',hvar,hd,_,_⟩,_⟩:=h
 obtain rfl:=Option.some.inj (qO7.symm.trans hg')
 obtain rfl:=Option.some.inj (qMF.symm.trans ht')
 have hc:=qEx (l:=qA3) Tryz.underlying251 Tryz.underlying250 Tryz.underlying3 qMG qIV qIW hd
 intro j hj
 have:=World.var?_cell qO7 hvar j
 rw [this,← hc]
 simp
theorem qMH {W:World} (h:laidMet Tryz.prog [("probecard/logic.fanins",Rows.laid_probecard_logic_fanins)] W):Gl G0 W (Old W):=by
 have hc:=qHF h
 intro g cs hg
 unfold G0 at hg
 split at hg
 case isFalse=>cases hg
 rename_i h0; subst h0
 simp only [Option.some.injEq] at hg
 subst hg
 have hlen:(qA3.flatMap fun x=>[Value.int .i64 x.1,Value.int .i64 x.2]).length=32:=rfl
 have hfc:qH3=(qA3.flatMap fun x=>[Value.int .i64 x.1,Value.int .i64 x.2]).map T.v:=rfl
 have hfl:qH3.length=32:=rfl
 refine .ip qH3 0 0 0 (fun j=>(qA3.flatMap fun x=>[Value.int .i64 x.1,Value.int .i64 x.2])[j]?.getD .nilFunc) ?_ ?_ ?_ ?_
 ·intro j hj
  rw [Nat.zero_add,hc j (by omega)]
  rw [List.getElem?_eq_getElem (by omega)]; rfl
 ·intro j t ht
  rw [hfc,List.getElem?_map,Option.map_eq_some_iff] at ht
  obtain ⟨v,hv,rfl⟩:=ht
  simp only [hv,Option.getD_some]
  exact .v v
 ·intro j t ht
  rw [hfc,List.getElem?_map,Option.map_eq_some_iff] at ht
  obtain ⟨v,hv,rfl⟩:=ht
  have hm:=List.mem_of_getElem? hv
  obtain ⟨x,_,hx⟩:=List.mem_flatMap.1 hm
  simp at hx
  rcases hx with rfl | rfl <;> rfl
 ·have:=hc 0 (by omega)
  rw [List.getElem?_eq_getElem (by omega)] at this
  exact qG1 this
theorem qMI {n:Int} (h:(Lit.int .u8 n).wf=true):Byt n:=by
 simp [Lit.wf,IntKind.min,IntKind.max,IntKind.signed,IntKind.bits] at h
 exact ⟨h.1,by omega⟩
theorem qDh:Rd Tryz.prog 5 fun ts=>∃ n,ts=[tK n]∧Byt n:=(qM9 Tryz.underlying5).mono fun ts ⟨n,h,hw⟩=>⟨n,h,qMI hw⟩
theorem q6u {α:Type} {f:α→List T} {Q:α→Prop}:∀ {es:List (List T)},(∀ x ∈ es,∃ a,x=f a∧Q a)→∃ l:List α,es=l.map f∧∀ a ∈ l,Q a
 | [],_=>⟨[],rfl,by simp⟩
 | e::es,h=>by
  obtain ⟨a,ha,hq⟩:=h e List.mem_cons_self
  obtain ⟨l,hl,hql⟩:=q6u fun x hx=>h x (List.mem_cons_of_mem _ hx)
  exact ⟨a::l,by rw [ha,hl]; rfl,fun b hb=>by rcases List.mem_cons.1 hb with rfl | hb; exact hq; exact hql b hb⟩
theorem qP2:Rd Tryz.prog 114 fun ts=>∃ g,ts=tGd g∧qCZ g:=by
 refine (q17 (l:=[(1,fun ts=>∃ n,ts=[tK n]∧Byt n),(3,q8V (List.replicate 3 (1,fun ts=>∃ n,ts=[tK n]∧Byt n)))]) Tryz.underlying114 qDg (.cons rfl q3S qDh (.cons rfl qDf (qA2 Tryz.underlying112 q3S qDf qDh) (.nil _)))).mono fun ts h=>?_
 obtain ⟨_,_,rfl,⟨k,rfl,hk⟩,_,_,rfl,⟨_,_,rfl,⟨a,rfl,ha⟩,_,_,rfl,⟨b,rfl,hb⟩,_,_,rfl,⟨d,rfl,hd⟩,rfl⟩,rfl⟩:=h
 exact ⟨⟨k,a,b,d⟩,rfl,hk,ha,hb,hd⟩
theorem qP3:Rd Tryz.prog 27 fun ts=>∃ x,ts=Nu x∧q80 x:=by
 refine (q17 (l:=[(1,fun ts=>∃ n,ts=[tK n]∧Byt n),(1,fun ts=>∃ n,ts=[tK n]∧Byt n),(2,q8V (List.replicate 2 (1,fun ts=>∃ n,ts=[tK n]∧Byt n))),(1,fun ts=>∃ b,ts=[tB b]),(1,fun ts=>∃ b,ts=[tB b]),(4,q8V (List.replicate 4 (1,fun ts=>∃ n,ts=[tK n]∧Byt n))),(1,_),(1,_)]) Tryz.underlying27 qKC
  (.cons rfl q3S qDh (.cons rfl q3S qDh (.cons rfl qG8 (qA2 Tryz.underlying22 q3S qG8 qDh) (.cons rfl qIU (qG2 Tryz.underlying4) (.cons rfl qIU (qG2 Tryz.underlying4) (.cons rfl qG9 (qA2 Tryz.underlying23 q3S qG9 qDh)
   (.cons rfl qKB (q6f Tryz.underlying24 qDg (by decide) qP2) (.cons rfl q9Q (q6f Tryz.underlying25 q3S (by decide) qDh) (.nil _)))))))))).mono fun ts h=>?_
 obtain ⟨_,_,rfl,⟨i,rfl,hi⟩,_,_,rfl,⟨f,rfl,hf⟩,_,_,rfl,⟨_,_,rfl,⟨d0,rfl,hd0⟩,_,_,rfl,⟨d1,rfl,hd1⟩,rfl⟩,_,_,rfl,⟨bus,rfl⟩,_,_,rfl,⟨mem,rfl⟩,_,_,rfl,
  ⟨_,_,rfl,⟨p0,rfl,h0⟩,_,_,rfl,⟨p1,rfl,h1⟩,_,_,rfl,⟨p2,rfl,h2⟩,_,_,rfl,⟨p3,rfl,h3⟩,rfl⟩,_,_,rfl,⟨es,cap,nl,rfl,_,hes⟩,_,_,rfl,⟨os,cap2,nl2,rfl,_,hos⟩,rfl⟩:=h
 obtain ⟨gs,rfl,hgs⟩:=q6u (f:=tGd) (Q:=qCZ) fun x hx=>(hes x hx).1
 obtain ⟨ol,rfl,hol⟩:=q6u (f:=fun n=>[tK n]) (Q:=Byt) fun x hx=>(hos x hx).1
 exact ⟨⟨i,f,d0,d1,bus,mem,p0,p1,p2,p3,⟨gs,cap,nl⟩,⟨ol,cap2,nl2⟩⟩,rfl,⟨hi,hf,hd0,hd1,h0,h1,h2,h3,hgs,hol⟩⟩
end Go.Lg
namespace Go.Proofs.YtnhgdofpomioeaaGreatDoor
open Go Go.Lg Go.ChangeShapes Go.WideShapes Go.ChangeAt Go.RowKit
theorem own:ownKnob Tryz.prog.godebug=none:=by kernel_rfl
theorem qOr:laidOutB Tryz.prog=true:=by kernel_rfl
theorem qOs {H:Type} {enc:TypeId × Value→H} {W:World} {base:Nat} {v:Value} {d:DataW H} {p:List MemPlace} (hval:Value.okWide Tryz.prog W .any base 27 v) (h:DataW.Trod enc Tryz.prog W 0 (fun _=>true) true 27 v d p):∃ x,q80 x∧TR W (Old W) (.agg (Nu x)) v:=by
 simp only [Value.okWide,Tryz.underlying27] at hval
 obtain ⟨cs,rfl,_,_⟩:=hval
 obtain ⟨fuel,hf⟩:=h
 obtain ⟨ts,⟨x,rfl,hx⟩,htr,ho⟩:=qP3 H enc W true fuel _ _ hf
 exact ⟨x,hx,qIK htr ho⟩
noncomputable def qBn (os:Os):World :=
 { World.holding Tryz.prog os ⟨#[],#[],[]⟩ with heap:=(World.holding Tryz.prog os ⟨#[],#[],[]⟩).heap.modify 0 fun
   | .cells _ t frozen=>.cells (qA3.flatMap fun x=>[Value.int .i64 x.1,Value.int .i64 x.2]).toArray t frozen
   | o=>o }
def c0:Value:=.agg #[.int .u8 0,.int .u8 0,.int .u8 0,.int .u8 0,.bool false,.bool false,.int .u8 0,.int .u8 0,.int .u8 0,.int .u8 0,.slice none 0 0,.slice none 0 0]
def d0 {H:Type}:DataW H:=.agg [.lit (.int .u8 0),.lit (.int .u8 0),.agg [.lit (.int .u8 0),.lit (.int .u8 0)],.lit (.bool false),.lit (.bool false),.agg [.lit (.int .u8 0),.lit (.int .u8 0),.lit (.int .u8 0),.lit (.int .u8 0)],.nil,.nil]
theorem q25 {P:Program} {x:String × DataW Unit} {l:List (String × DataW Unit)} {w:World} (h:laidMet P (x::l) w):laidMet P l w:=by
 obtain ⟨ps,hv,hn,hm⟩:=h
 obtain ⟨n,d⟩:=x
 obtain ⟨g,t,cs,fuel,p,q,h1,h2,h3,h4,h5,rfl⟩:=hv
 exact ⟨q,h5,(List.nodup_append.1 hn).2.1,fun b off hq=>hm b off (List.mem_append_right _ hq)⟩
theorem qP4 {W:World} (h:laidMetH Tryz.prog [("math/bits.deBruijn32tab",Rows.laid_math_bits_deBruijn32tab),("math/bits.deBruijn64tab",Rows.laid_math_bits_deBruijn64tab),("internal/strconv.uint64pow10",Rows.laid_internal_strconv_uint64pow10),("probecard/logic.fanins",Rows.laid_probecard_logic_fanins)] W):Gl G0 W (Old W):=by
 rw [MakeChecks.laidMetH_plain _ _ _ (by kernel_rfl)] at h
 exact qMH (q25 (q25 (q25 h)))
noncomputable def qMJ (os:Os):World :=
 { qBn os with heap:=(((qBn os).heap.modify 1 fun
   | .cells _ t frozen=>.cells ([.int .u64 1,.int .u64 10,.int .u64 100,.int .u64 1000,.int .u64 10000,.int .u64 100000,.int .u64 1000000,.int .u64 10000000,.int .u64 100000000,.int .u64 1000000000,.int .u64 10000000000,.int .u64 100000000000,.int .u64 1000000000000,.int .u64 10000000000000,.int .u64 100000000000000,.int .u64 1000000000000000,.int .u64 10000000000000000,.int .u64 100000000000000000,.int .u64 1000000000000000000,.int .u64 10000000000000000000]:List Value).toArray t frozen
   | o=>o).modify 2 fun
   | .cells _ t frozen=>.cells ([.int .u8 0,.int .u8 1,.int .u8 28,.int .u8 2,.int .u8 29,.int .u8 14,.int .u8 24,.int .u8 3,.int .u8 30,.int .u8 22,.int .u8 20,.int .u8 15,.int .u8 25,.int .u8 17,.int .u8 4,.int .u8 8,.int .u8 31,.int .u8 27,.int .u8 13,.int .u8 23,.int .u8 21,.int .u8 19,.int .u8 16,.int .u8 7,.int .u8 26,.int .u8 12,.int .u8 18,.int .u8 6,.int .u8 11,.int .u8 5,.int .u8 10,.int .u8 9]:List Value).toArray t frozen
   | o=>o).modify 3 fun
   | .cells _ t frozen=>.cells ([.int .u8 0,.int .u8 1,.int .u8 56,.int .u8 2,.int .u8 57,.int .u8 49,.int .u8 28,.int .u8 3,.int .u8 61,.int .u8 58,.int .u8 42,.int .u8 50,.int .u8 38,.int .u8 29,.int .u8 17,.int .u8 4,.int .u8 62,.int .u8 47,.int .u8 59,.int .u8 36,.int .u8 45,.int .u8 43,.int .u8 51,.int .u8 22,.int .u8 53,.int .u8 39,.int .u8 33,.int .u8 30,.int .u8 24,.int .u8 18,.int .u8 12,.int .u8 5,.int .u8 63,.int .u8 55,.int .u8 48,.int .u8 27,.int .u8 60,.int .u8 41,.int .u8 37,.int .u8 16,.int .u8 46,.int .u8 35,.int .u8 44,.int .u8 21,.int .u8 52,.int .u8 32,.int .u8 23,.int .u8 11,.int .u8 54,.int .u8 26,.int .u8 40,.int .u8 15,.int .u8 34,.int .u8 20,.int .u8 31,.int .u8 10,.int .u8 25,.int .u8 14,.int .u8 19,.int .u8 9,.int .u8 13,.int .u8 8,.int .u8 7,.int .u8 6]:List Value).toArray t frozen
   | o=>o }
end Go.Proofs.YtnhgdofpomioeaaGreatDoor
namespace Go.Lg
open Go Go.Proofs
def E8 (v:Int):Int:=if v<2 then v else 2
def Dw (v:Int):Int:=if 3<v then 2 else v
def I4 (v:Int):Bool:=decide (v≤1)
def qCa (a b:Int):Bool:=decide (Dw a=Dw b∨Dw a=2)
def Xg (v:Int):Int:=if v≤1 then 1 - v else 2
def J5 (low high:Int):Int→List Int→Int
 | out,[]=>out
 | out,v::l=>if v=low then low else if v ≠ high then J5 low high 2 l else J5 low high out l
def qIX (a b:Int):Int:=if a=b then 0 else 1
def q1G:Int→List Int→Int
 | out,[]=>out
 | out,v::l=>if v≤1 then q1G (qIX out v) l else 2
def qAH (s a b:Int):Int:=if s=0 then E8 a else if s=1 then E8 b else if a=b then E8 a else 2
def qB7 (e d:Int):Int:=if e=0 then 3 else if e=1 then E8 d else 2
def q81 (l:List Int):Bool:=l.contains 0 && l.contains 1
def qDi (v:Int):Bool:=decide (Dw v=2)
def qHG (v:Int):Bool:=decide (v ≠ 3)
def q6v (l:List Int):Int:=match l.findIdx? qHG with
 | none=>3
 | some i=>if q81 l=true∨l.any qDi=true then 2 else l.getD i 0
def G1 (k:Int) (l:List Int):Int :=
 if k=1 then 0 else if k=2 then 1 else if k=3 then E8 (l.getD 0 0) else if k=4 then Xg (l.getD 0 0) else
 if k=5 then J5 0 1 1 l else if k=6 then Xg (J5 0 1 1 l) else if k=7 then J5 1 0 0 l else if k=8 then Xg (J5 1 0 0 l) else
 if k=9 then q1G 0 l else if k=10 then Xg (q1G 0 l) else if k=11 then qAH (l.getD 0 0) (l.getD 1 0) (l.getD 2 0) else
 if k=12 then qB7 (l.getD 0 0) (l.getD 1 0) else if k=13 then q6v l else 2
def q82 (k:Int) (n:Nat):Bool:=decide ((n:Int)<(Vs k).1∨(Vs k).2<(n:Int))
def Yj (k:Int) (l:List Int):Int:=if q82 k l.length=true then 2 else G1 k l
theorem qBo (R:Int→Int→Prop) {k:Int} {l m:List Int} (h1:k=1→R (0) (0)) (h2:k=2→R (1) (1)) (h3:k=3→R (E8 (l.getD 0 0)) (E8 (m.getD 0 0))) (h4:k=4→R (Xg (l.getD 0 0)) (Xg (m.getD 0 0))) (h5:k=5→R (J5 0 1 1 l) (J5 0 1 1 m)) (h6:k=6→R (Xg (J5 0 1 1 l)) (Xg (J5 0 1 1 m))) (h7:k=7→R (J5 1 0 0 l) (J5 1 0 0 m)) (h8:k=8→R (Xg (J5 1 0 0 l)) (Xg (J5 1 0 0 m))) (h9:k=9→R (q1G 0 l) (q1G 0 m)) (h10:k=10→R (Xg (q1G 0 l)) (Xg (q1G 0 m))) (h11:k=11→R (qAH (l.getD 0 0) (l.getD 1 0) (l.getD 2 0)) (qAH (m.getD 0 0) (m.getD 1 0) (m.getD 2 0))) (h12:k=12→R (qB7 (l.getD 0 0) (l.getD 1 0)) (qB7 (m.getD 0 0) (m.getD 1 0))) (h13:k=13→R (q6v l) (q6v m)) (h0:k<1∨13<k→R 2 2):R (G1 k l) (G1 k m):=by
 by_cases e1:k=1
 ·subst e1; exact h1 rfl
 by_cases e2:k=2
 ·subst e2; exact h2 rfl
 by_cases e3:k=3
 ·subst e3; exact h3 rfl
 by_cases e4:k=4
 ·subst e4; exact h4 rfl
 by_cases e5:k=5
 ·subst e5; exact h5 rfl
 by_cases e6:k=6
 ·subst e6; exact h6 rfl
 by_cases e7:k=7
 ·subst e7; exact h7 rfl
 by_cases e8:k=8
 ·subst e8; exact h8 rfl
 by_cases e9:k=9
 ·subst e9; exact h9 rfl
 by_cases e10:k=10
 ·subst e10; exact h10 rfl
 by_cases e11:k=11
 ·subst e11; exact h11 rfl
 by_cases e12:k=12
 ·subst e12; exact h12 rfl
 by_cases e13:k=13
 ·subst e13; exact h13 rfl
 unfold G1
 rw [if_neg e1,if_neg e2,if_neg e3,if_neg e4,if_neg e5,if_neg e6,if_neg e7,if_neg e8,if_neg e9,if_neg e10,if_neg e11,if_neg e12,if_neg e13]
 rw [if_neg e1,if_neg e2,if_neg e3,if_neg e4,if_neg e5,if_neg e6,if_neg e7,if_neg e8,if_neg e9,if_neg e10,if_neg e11,if_neg e12,if_neg e13]
 exact h0 (by omega)
def V4 (v:Int):Prop:=0≤v∧v≤3
theorem q6w {v:Int} (h:V4 v):V4 (E8 v):=by unfold E8 V4 at *; split <;> omega
theorem qCb {v:Int} (h:V4 v):V4 (Xg v):=by unfold Xg V4 at *; split <;> omega
theorem Yk {low high:Int}:∀ {l:List Int} {out:Int},out=2∨out=high→J5 low high out l=if low ∈ l then low else if out=high∧∀ v ∈ l,v=high then high else 2
 | [],out,h=>by
  simp only [J5,List.not_mem_nil,if_false]
  by_cases ho:out=high
  ·simp [ho]
  ·simp [ho]; omega
 | v::l,out,h=>by
  simp only [J5]
  by_cases h1:v=low
  ·subst h1; simp
  have h1':¬ low=v:=fun e=>h1 e.symm
  by_cases h2:v=high
  ·subst h2
   rw [if_neg h1,if_neg (by simp),Yk h]
   simp [h1']
  ·rw [if_neg h1,if_pos h2,Yk (.inl rfl)]
   by_cases hl:low ∈ l
   ·simp [hl]
   ·have:¬ (out=high∧∀ u ∈ v::l,u=high):=fun ⟨_,h⟩=>h2 (h v List.mem_cons_self)
    have hlv:¬ low ∈ v::l:=by simp [h1',hl]
    rw [if_neg hl,if_neg hlv,if_neg this]
    split
    ·rename_i h3; exact h3.1.symm
    ·rfl
theorem qF6:∀ {l:List Int} {out:Int},V4 out→(∀ v ∈ l,V4 v)→V4 (q1G out l)
 | [],out,h,_=>h
 | v::l,out,h,hl=>by
  simp only [q1G]
  split
  ·exact qF6 (by unfold qIX; split <;> simp [V4]) fun u hu=>hl u (List.mem_cons_of_mem _ hu)
  ·simp [V4]
theorem Tn {l:List Int} (h:∀ v ∈ l,V4 v) (i:Nat):V4 (l.getD i 0):=by
 rw [List.getD_eq_getElem?_getD]
 by_cases hi:i<l.length
 ·rw [List.getElem?_eq_getElem hi]; exact h _ (List.getElem_mem hi)
 ·rw [List.getElem?_eq_none (Nat.le_of_not_lt hi)]; simp [V4]
theorem qKD {k:Int} {l:List Int} (h:∀ v ∈ l,V4 v):V4 (Yj k l):=by
 have g:=Tn h
 have d1:V4 (J5 0 1 1 l):=by rw [Yk (.inr rfl)]; split; simp [V4]; split <;> simp [V4]
 have d2:V4 (J5 1 0 0 l):=by rw [Yk (.inr rfl)]; split; simp [V4]; split <;> simp [V4]
 have x:=qF6 (out:=0) (by simp [V4]) h
 unfold Yj
 by_cases hw:q82 k l.length=true
 ·rw [if_pos hw]; simp [V4]
 rw [if_neg hw]
 refine qBo (fun a _=>V4 a) (l:=l) (m:=l) (fun _=>by simp [V4]) (fun _=>by simp [V4]) (fun _=>q6w (g 0)) (fun _=>qCb (g 0)) (fun _=>d1) (fun _=>qCb d1) (fun _=>d2) (fun _=>qCb d2) (fun _=>x) (fun _=>qCb x) (fun _=>?_) (fun _=>?_) (fun _=>?_) (fun _=>by simp [V4])
 ·unfold qAH; split
  ·exact q6w (g 1)
  split
  ·exact q6w (g 2)
  split
  ·exact q6w (g 1)
  ·simp [V4]
 ·unfold qB7; split
  ·simp [V4]
  split
  ·exact q6w (g 1)
  ·simp [V4]
 ·unfold q6v; split
  ·simp [V4]
  split
  ·simp [V4]
  ·exact g _
def Og (a b:Int):Prop:=a=b∨a=2
def Yl (l m:List Int):Prop:=l.length=m.length∧∀ i,Og (l.getD i 0) (m.getD i 0)
theorem Og.refl (a:Int):Og a a:=.inl rfl
theorem G9 {a b:Int} (h:Og a b):Og (E8 a) (E8 b):=by
 rcases h with rfl | rfl
 ·exact .inl rfl
 ·exact .inr (by simp [E8])
theorem q4S {a b:Int} (h:Og a b):Og (Xg a) (Xg b):=by
 rcases h with rfl | rfl
 ·exact .inl rfl
 ·exact .inr (by simp [Xg])
theorem Yl.cons {a b:Int} {l m:List Int} (h:Yl (a::l) (b::m)):Og a b∧Yl l m :=
 ⟨by simpa using h.2 0,by simpa using h.1,fun i=>by simpa using h.2 (i+1)⟩
theorem Xs {low high:Int}:∀ {l m:List Int} {o p:Int},Yl l m→Og o p→o=2∨o=high→p=2∨p=high→low ≠ 2→high ≠ 2→Og (J5 low high o l) (J5 low high p m)
 | [],[],o,p,_,h,_,_,_,_=>h
 | [],_::_,_,_,h,_,_,_,_,_=>by have:=h.1; simp at this
 | _::_,[],_,_,h,_,_,_,_,_=>by have:=h.1; simp at this
 | a::l,b::m,o,p,h,hop,h1,h2,hl,hh=>by
  obtain ⟨hab,hlm⟩:=h.cons
  simp only [J5]
  rcases hab with rfl | rfl
  ·split
   ·exact .inl rfl
   split
   ·exact Xs hlm (.inl rfl) (.inl rfl) (.inl rfl) hl hh
   ·exact Xs hlm hop h1 h2 hl hh
  ·have e1:¬ (2:Int)=low:=fun e=>hl e.symm
   have e2:¬ (2:Int)=high:=fun e=>hh e.symm
   rw [if_neg e1,if_pos e2]
   split
   ·rename_i hb
    rw [Yk (.inl rfl)]
    split
    ·exact .inl rfl
    ·rename_i hm
     rw [if_neg (by rintro ⟨he,_⟩; exact e2 he)]
     exact .inr rfl
   split
   ·exact Xs hlm (.inl rfl) (.inl rfl) (.inl rfl) hl hh
   ·exact Xs hlm (.inr rfl) (.inl rfl) h2 hl hh
theorem qBp:∀ {l m:List Int} {o:Int},Yl l m→Og (q1G o l) (q1G o m)
 | [],[],o,_=>.inl rfl
 | [],_::_,_,h=>by have:=h.1; simp at this
 | _::_,[],_,h=>by have:=h.1; simp at this
 | a::l,b::m,o,h=>by
  obtain ⟨hab,hlm⟩:=h.cons
  simp only [q1G]
  rcases hab with rfl | rfl
  ·split
   ·exact qBp hlm
   ·exact .inl rfl
  ·exact .inr (by simp)
theorem Yl.eq:∀ {l m:List Int},Yl l m→(2:Int) ∉ l→l=m
 | [],[],_,_=>rfl
 | [],_::_,h,_=>by have:=h.1; simp at this
 | _::_,[],h,_=>by have:=h.1; simp at this
 | a::l,b::m,h,h2=>by
  obtain ⟨hab,hlm⟩:=h.cons
  rcases hab with rfl | rfl
  ·rw [Yl.eq hlm fun hm=>h2 (List.mem_cons_of_mem _ hm)]
  ·exact absurd List.mem_cons_self h2
theorem qHH {l m:List Int} (h:Yl l m):Og (q6v l) (q6v m):=by
 by_cases h2:(2:Int) ∈ l
 ·right
  unfold q6v
  split
  ·rename_i hn
   rw [List.findIdx?_eq_none_iff] at hn
   have:=hn 2 h2
   simp [qHG] at this
  ·have:l.any qDi=true:=List.any_eq_true.2 ⟨2,h2,by simp [qDi,Dw]⟩
   rw [if_pos (.inr this)]
 ·rw [h.eq h2]; exact .inl rfl
theorem qF7 {k:Int} {l m:List Int} (h:Yl l m):Og (Yj k l) (Yj k m):=by
 have d1:Og (J5 0 1 1 l) (J5 0 1 1 m):=Xs h (.inl rfl) (.inr rfl) (.inr rfl) (by omega) (by omega)
 have d2:Og (J5 1 0 0 l) (J5 1 0 0 m):=Xs h (.inl rfl) (.inr rfl) (.inr rfl) (by omega) (by omega)
 have x:=qBp (o:=0) h
 have g:=h.2
 unfold Yj
 rw [h.1]
 by_cases hw:q82 k m.length=true
 ·rw [if_pos hw,if_pos hw]; exact .inl rfl
 rw [if_neg hw,if_neg hw]
 refine qBo Og (fun _=>.inl rfl) (fun _=>.inl rfl) (fun _=>G9 (g 0)) (fun _=>q4S (g 0)) (fun _=>d1) (fun _=>q4S d1) (fun _=>d2) (fun _=>q4S d2) (fun _=>x) (fun _=>q4S x) (fun _=>?_) (fun _=>?_) (fun _=>qHH h) (fun _=>.inl rfl)
 ·have g0:=g 0; have g1:=g 1; have g2:=g 2
  generalize l.getD 0 0=a at *; generalize l.getD 1 0=b at *; generalize l.getD 2 0=c at *
  generalize m.getD 0 0=a' at *; generalize m.getD 1 0=b' at *; generalize m.getD 2 0=c' at *
  unfold qAH
  rcases g0 with rfl | rfl
  ·split
   ·exact G9 g1
   split
   ·exact G9 g2
   split
   ·rename_i hbc; subst hbc
    rcases g1 with rfl | rfl
    ·rcases g2 with rfl | rfl
     ·simp [Og.refl]
     ·exact .inr (by simp [E8])
    ·exact .inr (by simp [E8])
   ·exact .inr rfl
  ·rw [if_neg (by omega),if_neg (by omega)]
   split
   ·rename_i hbc; subst hbc
    rcases g1 with rfl | rfl
    ·rcases g2 with rfl | rfl
     ·left; simp
     ·exact .inr (by simp [E8])
    ·exact .inr (by simp [E8])
   ·exact .inr rfl
 ·have g0:=g 0; have g1:=g 1
  generalize l.getD 0 0=a at *; generalize l.getD 1 0=b at *
  generalize m.getD 0 0=a' at *; generalize m.getD 1 0=b' at *
  unfold qB7
  rcases g0 with rfl | rfl
  ·split
   ·exact .inl rfl
   split
   ·exact G9 g1
   ·exact .inl rfl
  ·exact .inr (by simp)
def To (i:Nat) (r:Ns):Nat:=r.countP fun p=>decide (p.1=(i:Int))
theorem qIY {i:Nat} {r q:Ns}:To i (r++q)=To i r+To i q:=by simp [To]
theorem qF8 {rows:List Ns} {n m i:Nat} {p:Int × Int} (hn:n<rows.length):To i ((I1 rows n p).getD m [])=To i (rows.getD m [])+if m=n∧p.1=(i:Int) then 1 else 0:=by
 unfold I1
 simp only [List.getD_eq_getElem?_getD,List.getElem?_set]
 by_cases h:n=m
 ·subst h
  simp only [hn,if_true,Option.getD_some,qIY,true_and]
  congr 1
  by_cases h2:p.1=(i:Int) <;> simp [To,h2]
 ·have h':¬ m=n:=fun e=>h e.symm
  simp [h,h']
theorem q8c (c:B0) (j i m:Nat):∀ (l:List Int) (k:Nat) (rows:List Ns),rows.length=c.nodes.l.length→(∀ p ∈ l,0≤p∧p<c.nodes.l.length)→(Ju c j l k rows).length=c.nodes.l.length∧To i ((Ju c j l k rows).getD m [])=To i (rows.getD m [])+if j=i then l.count (m:Int) else 0
 | [],k,rows,hl,_=>⟨hl,by simp [Ju]⟩
 | n::l,k,rows,hl,hp=>by
  have hn:=hp n List.mem_cons_self
  have ho:Qj c n=false:=by simp [Qj]; omega
  simp only [Ju,ho,Bool.false_eq_true,if_false]
  obtain ⟨h1,h2⟩:=q8c c j i m l (k+1) (I1 rows n.toNat (j,k)) (by rw [q5p]; exact hl) (fun p h=>hp p (List.mem_cons_of_mem _ h))
  refine ⟨h1,?_⟩
  rw [h2,qF8 (by omega)]
  by_cases hji:j=i
  ·subst hji
   simp only [and_true,if_true,List.count_cons]
   by_cases hm:(m:Int)=n
   ·have h5:m=n.toNat:=by omega
    have h6:(n == (m:Int))=true:=by rw [hm]; simp
    rw [if_pos h5,h6]
    simp only [if_true]; omega
   ·have h5:¬ m=n.toNat:=by omega
    have h6:(n == (m:Int))=false:=by simp; omega
    rw [if_neg h5,h6]
    simp only [Bool.false_eq_true,if_false]; omega
  ·have:¬ ((j:Int)=i):=by omega
   simp [hji,this]
theorem q6x (c:B0) (i m:Nat):∀ (l:List Nd) (s:Nat) (rows:List Ns),rows.length=c.nodes.l.length→(∀ x ∈ l,∀ p ∈ x.inn.l,0≤p∧p<c.nodes.l.length) →
  To i ((H6 c l s rows).getD m [])=To i (rows.getD m [])+if s≤i then ((l.map fun x=>x.inn.l.count (m:Int)).getD (i - s) 0) else 0
 | [],s,rows,hl,_=>by simp [H6]
 | x::l,s,rows,hl,hp=>by
  obtain ⟨h1,h2⟩:=q8c c s i m x.inn.l 0 rows hl (hp x List.mem_cons_self)
  simp only [H6]
  rw [q6x c i m l (s+1) _ h1 (fun y hy=>hp y (List.mem_cons_of_mem _ hy)),h2]
  by_cases hsi:s=i
  ·subst hsi
   have:¬ s+1≤s:=by omega
   simp [this]
  ·by_cases hlt:s≤i
   ·have e:i - s=(i - (s+1))+1:=by omega
    have h3:s+1≤i:=by omega
    simp [hsi,hlt,h3,e]
   ·have h3:¬ s+1≤i:=by omega
    simp [hsi,hlt,h3]
def I5 (c:B0) (i:Nat):List Int:=(c.nodes.l.getD i Nd.d).inn.l
theorem q83 (c:B0) (hp:∀ x ∈ c.nodes.l,∀ p ∈ x.inn.l,0≤p∧p<c.nodes.l.length) (i m:Nat) (hi:i<c.nodes.l.length):To i (Gq c m)=(I5 c i).count (m:Int):=by
 unfold Gq F5
 rw [q6x c i m c.nodes.l 0 _ (by simp) hp]
 have h0:To i ((List.replicate c.nodes.l.length ([]:Ns)).getD m [])=0:=by
  simp only [List.getD_eq_getElem?_getD,List.getElem?_replicate]
  split <;> rfl
 rw [h0]
 simp [I5,hi]
theorem qGA (c:B0) {i:Nat} (hi:i<c.nodes.l.length):(c.nodes.l.map Dp).getD i 0=if E6 (Az c i) then ((I5 c i).length:Int) else 0:=by
 simp [Az,I5,Dp,hi]
theorem q84 {N M:Nat} {c:B0} {n:Nat}:∀ {r:Ns} {s:LS},s.left.length=N→(∀ p ∈ r,∃ i:Nat,i<N∧p.1=i)→(∀ i:Nat,i<N→s.left.getD i 0≤0→(i:Int) ∈ s.rdy) →
  (∃ e,(r.foldl (E7 c n) s).rdy=s.rdy++e)∧(r.foldl (E7 c n) s).left.length=N∧(∀ i:Nat,i<N→(r.foldl (E7 c n) s).left.getD i 0=s.left.getD i 0 - if E6 (Az c i) then (To i r:Int) else 0)∧(∀ i:Nat,i<N→(r.foldl (E7 c n) s).left.getD i 0≤0→(i:Int) ∈ (r.foldl (E7 c n) s).rdy)
 | [],s,hl,_,hb=>⟨⟨[],by simp⟩,hl,fun i hi=>by simp [To],hb⟩
 | (p1,p2)::r,s,hl,hr,hb=>by
  obtain ⟨j,hj,he⟩:=hr (p1,p2) List.mem_cons_self
  simp only at he; subst he
  have key:(∃ e,(E7 c n s (j,p2)).rdy=s.rdy++e)∧(E7 c n s (j,p2)).left.length=N∧(∀ i:Nat,i<N→(E7 c n s (j,p2)).left.getD i 0=s.left.getD i 0 - if E6 (Az c i) then (if j=i then 1 else 0:Int) else 0)∧(∀ i:Nat,i<N→(E7 c n s (j,p2)).left.getD i 0≤0→(i:Int) ∈ (E7 c n s (j,p2)).rdy):=by
   unfold E7
   simp only [Int.toNat_natCast]
   by_cases hc:E6 (Az c j)=true
   ·simp only [hc,if_true]
    refine ⟨?_,by simp [hl],fun i hi=>?_,fun i hi h0=>?_⟩
    ·split
     ·exact ⟨_,rfl⟩
     ·exact ⟨[],by simp⟩
    ·rw [I3 (by omega)]
     by_cases hij:i=j
     ·subst hij; simp [hc]
     ·have:¬ j=i:=fun e=>hij e.symm
      simp [hij,this]
    ·rw [I3 (by omega)] at h0
     by_cases hij:i=j
     ·subst hij
      simp only [if_true] at h0
      by_cases h1:s.left.getD i 0 - 1=0
      ·rw [if_pos h1]; simp
      ·rw [if_neg h1]
       exact hb i hi (by omega)
     ·simp only [hij,if_false] at h0
      have:=hb i hi h0
      split
      ·exact List.mem_append_left _ this
      ·exact this
   ·simp only [hc]
    refine ⟨⟨[],by simp⟩,hl,fun i hi=>?_,hb⟩
    by_cases hij:j=i
    ·subst hij; simp [hc]
    ·simp [hij]
  obtain ⟨⟨e1,h1⟩,h2,h3,h4⟩:=key
  obtain ⟨⟨e2,g1⟩,g2,g3,g4⟩:=q84 (M:=M) (n:=n) (r:=r) h2 (fun q hq=>hr q (List.mem_cons_of_mem _ hq)) h4
  simp only [List.foldl_cons]
  refine ⟨⟨e1++e2,by rw [g1,h1,List.append_assoc]⟩,g2,fun i hi=>?_,g4⟩
  rw [g3 i hi,h3 i hi]
  by_cases hc:E6 (Az c i)=true
  ·simp only [hc,if_true]
   have:To i ((↑j,p2)::r)=To i r+if j=i then 1 else 0:=by
    by_cases hij:j=i
    ·subst hij; simp [To]
    ·have:¬ ((j:Int)=i):=by omega
     simp [To,hij,this]
   rw [this]
   split <;> omega
  ·simp [hc]
structure JI (c:B0) (d:Nat) (s:LS):Prop where
 li:∃ M,LI c.nodes.l.length M s
 le:d≤s.rdy.length
 a:∀ i:Nat,i<c.nodes.l.length→s.left.getD i 0=(c.nodes.l.map Dp).getD i 0 - if E6 (Az c i) then (((s.rdy.take d).map fun x=>(I5 c i).count x).sum:Int) else 0
 b:∀ i:Nat,i<c.nodes.l.length→s.left.getD i 0≤0→(i:Int) ∈ s.rdy
theorem JI.next {c:B0} (hp:∀ x ∈ c.nodes.l,∀ p ∈ x.inn.l,0≤p∧p<c.nodes.l.length) {d:Nat} {s:LS} (h:JI c d s) (hd:d<s.rdy.length):JI c (d+1) ((Gq c (s.rdy.getD d 0).toNat).foldl (E7 c (s.rdy.getD d 0).toNat) s):=by
 obtain ⟨M,hli⟩:=h.li
 have hg:s.rdy.getD d 0=s.rdy[d]:=by simp [hd]
 rw [hg]
 obtain ⟨n,hn,he,_⟩:=hli.rd _ (List.getElem_mem hd)
 rw [he]
 simp only [Int.toNat_natCast]
 have hr:∀ p ∈ Gq c n,∃ i:Nat,i<c.nodes.l.length∧p.1=i:=by
  intro p hpp
  have hl:=Zy c
  have e:Gq c n=(F5 c)[n]'(by omega):=by simp [Gq,List.getD,List.getElem?_eq_getElem (show n<(F5 c).length by omega)]
  rw [e] at hpp
  exact q5r c _ (List.getElem_mem _) p hpp
 obtain ⟨⟨e,h1⟩,h2,h3,h4⟩:=q84 (M:=M) (c:=c) (n:=n) (r:=Gq c n) hli.ll hr h.b
 refine ⟨⟨_,hli.fold hr⟩,by rw [h1]; simp; omega,fun i hi=>?_,h4⟩
 rw [h3 i hi,h.a i hi,h1]
 by_cases hc:E6 (Az c i)=true
 ·simp only [hc,if_true]
  have ht:(s.rdy++e).take (d+1)=s.rdy.take d++[(n:Int)]:=by
   rw [List.take_append_of_le_length (by omega),List.take_add_one,List.getElem?_eq_getElem hd,he]
   rfl
  rw [ht,q83 c hp i n hi]
  simp
  omega
 ·simp [hc]
theorem qAI {c:B0} (hp:∀ x ∈ c.nodes.l,∀ p ∈ x.inn.l,0≤p∧p<c.nodes.l.length):∀ (f d:Nat) (s:LS),JI c d s→c.nodes.l.length<f+d→JI c (N5 c f d s).1 (N5 c f d s).2∧(N5 c f d s).2.rdy.length≤(N5 c f d s).1
 | 0,d,s,h,hf=>by
  obtain ⟨M,hli⟩:=h.li
  have:=hli.len
  exact ⟨h,by simp only [N5]; omega⟩
 | f+1,d,s,h,hf=>by
  simp only [N5]
  split
  ·rename_i hd
   exact qAI hp f (d+1) _ (h.next hp hd) (by omega)
  ·exact ⟨h,by simp only; omega⟩
theorem qBq:∀ (L R:List Int),(∀ p ∈ L,p ∈ R)→L.length≤(R.map fun x=>L.count x).sum
 | [],R,_=>by simp
 | p::L,R,h=>by
  have ih:=qBq L R fun q hq=>h q (List.mem_cons_of_mem _ hq)
  have hpR:=h p List.mem_cons_self
  have key:∀ R:List Int,(R.map fun x=>(p::L).count x).sum=(R.map fun x=>L.count x).sum+R.count p:=by
   intro R
   induction R with
   | nil=>rfl
   | cons a R ihR =>
    simp only [List.map_cons,List.sum_cons]
    rw [ihR,List.count_cons,List.count_cons]
    by_cases hpa:p=a
    ·subst hpa; simp only [BEq.rfl,if_true]; omega
    ·have h1:(p == a)=false:=by simpa using hpa
     have h2:(a == p)=false:=by simpa using fun e=>hpa e.symm
     rw [h1,h2]; simp only [Bool.false_eq_true,if_false]; omega
  rw [key]
  have:=List.count_pos_iff.2 hpR
  simp only [List.length_cons]; omega
theorem q3T:∀ (l:List Nd) (s i:Nat),s≤i→i<s+l.length→(l.map Dp).getD (i - s) 0≤0→(i:Int) ∈ Ds l s
 | [],s,i,h1,h2,_=>by simp at h2; omega
 | x::l,s,i,h1,h2,h3=>by
  simp only [List.length_cons] at h2
  by_cases hsi:i=s
  ·subst hsi
   simp only [Nat.sub_self,List.map_cons,List.getD_cons_zero] at h3
   have h4:0≤Dp x:=by unfold Dp; split <;> omega
   have h5:Dp x=0:=by omega
   simp [Ds,h5]
  ·have e:i - s=(i - (s+1))+1:=by omega
   rw [e,List.map_cons,List.getD_cons_succ] at h3
   have:=q3T l (s+1) i (by omega) (by omega) h3
   simp only [Ds]
   split
   ·exact List.mem_cons_of_mem _ this
   ·exact this
theorem qDj (c:B0) (h16:∀ x ∈ c.nodes.l,x.inn.l.length≤16) (hp:∀ x ∈ c.nodes.l,∀ p ∈ x.inn.l,0≤p∧p<c.nodes.l.length) (ht:∀ i:Nat,i<c.nodes.l.length→E6 (Az c i)=true→∀ p ∈ I5 c i,p<i):¬ (Oq c).1<c.nodes.l.length:=by
 have h0:JI c 0 (I2 c):=by
  refine ⟨⟨0,?_⟩,by simp,fun i hi=>?_,fun i hi h=>?_⟩
  ·obtain ⟨r1,r2⟩:=q5s c.nodes.l 0
   refine ⟨by simp [I2],by simp [I2],?_,r2,fun i=>?_,fun i=>?_⟩
   ·intro j hj
    obtain ⟨a,_,h2,h3,h4⟩:=r1 j hj
    exact ⟨a,by omega,h3,by simp only [I2]; simp only [Nat.sub_zero] at h4; omega⟩
   ·simp only [I2,List.getD_eq_getElem?_getD,List.getElem?_replicate]
    split <;> simp
   ·simp only [I2]
    by_cases hi:i<c.nodes.l.length
    ·have:=h16 _ (List.getElem_mem hi)
     simp [hi,Dp]
     split <;> omega
    ·simp [hi]
  ·simp [I2]
  ·simp only [I2] at h
   exact q3T c.nodes.l 0 i (by omega) (by omega) (by simpa using h)
 obtain ⟨hJ,hle⟩:=qAI hp (c.nodes.l.length+1) 0 (I2 c) h0 (by omega)
 show ¬ (N5 c (c.nodes.l.length+1) 0 (I2 c)).1<c.nodes.l.length
 generalize (N5 c (c.nodes.l.length+1) 0 (I2 c)).1=d at *
 generalize (N5 c (c.nodes.l.length+1) 0 (I2 c)).2=s at *
 have all:∀ i:Nat,i<c.nodes.l.length→(i:Int) ∈ s.rdy:=by
  intro i
  induction i using Nat.strongRecOn with
  | ind i ih =>
   intro hi
   refine hJ.b i hi ?_
   rw [hJ.a i hi,qGA c hi]
   by_cases hc:E6 (Az c i)=true
   ·simp only [hc,if_true]
    rw [List.take_of_length_le hle]
    have hm:I5 c i ∈ c.nodes.l.map fun x=>x.inn.l:=by
     simp only [I5,List.getD_eq_getElem?_getD,List.getElem?_eq_getElem hi,Option.getD_some]
     exact List.mem_map_of_mem (List.getElem_mem hi)
    obtain ⟨y,hy,hye⟩:=List.mem_map.1 hm
    have:=qBq (I5 c i) s.rdy fun p hpp=>by
     have h1:=ht i hi hc p hpp
     have h2:=(hp y hy p (by rw [hye]; exact hpp)).1
     obtain ⟨j,rfl⟩:∃ j:Nat,p=j:=⟨p.toNat,by omega⟩
     exact ih j (by omega) (by omega)
    omega
   ·simp [hc]
 have hnd:((List.range c.nodes.l.length).map fun i:Nat=>(i:Int)).Nodup:=by
  rw [List.nodup_iff_pairwise_ne,List.pairwise_map]
  exact (List.nodup_iff_pairwise_ne.1 List.nodup_range).imp fun h e=>h (by omega)
 have hsub:((List.range c.nodes.l.length).map fun i:Nat=>(i:Int)) ⊆ s.rdy:=by
  intro x hx
  obtain ⟨i,hi,rfl⟩:=List.mem_map.1 hx
  exact all i (List.mem_range.1 hi)
 have:=List.Nodup.length_le_of_subset hnd hsub
 simp at this
 omega
theorem q3U (p:Int) (L:List Int):∀ R:List Int,(R.map fun x=>(p::L).count x).sum=(R.map fun x=>L.count x).sum+R.count p
 | []=>rfl
 | a::R=>by
  simp only [List.map_cons,List.sum_cons]
  rw [q3U p L R,List.count_cons,List.count_cons]
  by_cases hpa:p=a
  ·subst hpa; simp only [BEq.rfl,if_true]; omega
  ·have h1:(p == a)=false:=by simpa using hpa
   have h2:(a == p)=false:=by simpa using fun e=>hpa e.symm
   rw [h1,h2]; simp only [Bool.false_eq_true,if_false]; omega
theorem q6y:∀ (L R:List Int),R.Nodup→(R.map fun x=>L.count x).sum≤L.length
 | [],R,_=>by
  have:∀ R:List Int,(R.map fun x=>([]:List Int).count x).sum=0:=by
   intro R
   induction R with
   | nil=>rfl
   | cons a R ih=>rw [List.map_cons,List.sum_cons,ih,List.count_nil]
  rw [this]; omega
 | p::L,R,h=>by
  have ih:=q6y L R h
  have h1:=List.nodup_iff_count.1 h p
  rw [q3U]
  simp only [List.length_cons]; omega
theorem qIZ {N n:Nat} {c:B0}:∀ {r:Ns} {s:LS},s.out.length=N→s.left.length=N→(∀ p ∈ r,∃ i:Nat,i<N∧p.1=i)→(∀ i:Nat,i<N→E6 (Az c i)=true→(To i r:Int)≤s.left.getD i 0)→s.left.getD n 0≤0 →
  (∀ i:Nat,i<N→s.left.getD i 0≤0→(r.foldl (E7 c n) s).out.getD i 0=s.out.getD i 0)∧(∀ i:Nat,i<N→s.out.getD i 0≤(r.foldl (E7 c n) s).out.getD i 0)∧(∀ i:Nat,i<N→E6 (Az c i)=true→0<To i r→s.out.getD n 0+1≤(r.foldl (E7 c n) s).out.getD i 0)
 | [],s,ho,hl,_,_,_=>⟨fun _ _ _=>rfl,fun _ _=>Int.le_refl _,fun i _ _ h=>by simp [To] at h⟩
 | (p1,p2)::r,s,ho,hl,hr,hc,hn=>by
  obtain ⟨j,hj,he⟩:=hr (p1,p2) List.mem_cons_self
  simp only at he; subst he
  have cnt:∀ i:Nat,To i ((↑j,p2)::r)=To i r+if j=i then 1 else 0:=fun i=>by
   by_cases hij:j=i
   ·subst hij; simp [To]
   ·have:¬ ((j:Int)=i):=by omega
    simp [To,hij,this]
  simp only [List.foldl_cons]
  by_cases hcj:E6 (Az c j)=true
  case neg =>
   have hs:E7 c n s (↑j,p2)=s:=by unfold E7; simp [hcj]
   rw [hs]
   obtain ⟨a1,a2,a3⟩:=qIZ (n:=n) (c:=c) (r:=r) ho hl (fun p hp=>hr p (List.mem_cons_of_mem _ hp)) (fun i hi hci=>by have:=hc i hi hci; rw [cnt] at this; omega) hn
   refine ⟨a1,a2,fun i hi hci h=>a3 i hi hci ?_⟩
   rw [cnt] at h
   have:¬ j=i:=fun e=>hcj (e ▸ hci)
   simpa [this] using h
  have hj1:=hc j hj hcj
  rw [cnt,if_pos rfl] at hj1
  have hnj:¬ n=j:=fun e=>by subst e; omega
  have so:∀ i:Nat,(E7 c n s (↑j,p2)).out.getD i 0=if i=j then max (s.out.getD j 0) (s.out.getD n 0+1) else s.out.getD i 0:=fun i=>by
   unfold E7
   simp only [Int.toNat_natCast,hcj,if_true]
   rw [I3 (by omega)]
  have sl:∀ i:Nat,(E7 c n s (↑j,p2)).left.getD i 0=if i=j then s.left.getD j 0 - 1 else s.left.getD i 0:=fun i=>by
   unfold E7
   simp only [Int.toNat_natCast,hcj,if_true]
   rw [I3 (by omega)]
  have lo:(E7 c n s (↑j,p2)).out.length=N:=by unfold E7; simp [hcj,ho]
  have ll:(E7 c n s (↑j,p2)).left.length=N:=by unfold E7; simp [hcj,hl]
  obtain ⟨a1,a2,a3⟩:=qIZ (n:=n) (c:=c) (r:=r) lo ll (fun p hp=>hr p (List.mem_cons_of_mem _ hp)) (fun i hi hci=>by
   have:=hc i hi hci
   rw [cnt] at this
   rw [sl]
   by_cases hij:i=j
   ·subst hij; simp only [if_true] at this ⊢; omega
   ·have h':¬ j=i:=fun e=>hij e.symm
    simp only [hij,h',if_false] at this ⊢; omega) (by rw [sl,if_neg hnj]; exact hn)
  refine ⟨fun i hi h0=>?_,fun i hi=>?_,fun i hi hci h=>?_⟩
  ·have hij:¬ i=j:=fun e=>by subst e; omega
   rw [a1 i hi (by rw [sl,if_neg hij]; exact h0),so,if_neg hij]
  ·have:=a2 i hi
   rw [so] at this
   split at this
   ·rename_i e; subst e; omega
   ·exact this
  ·by_cases hij:i=j
   ·subst hij
    have:=a2 i hi
    rw [so,if_pos rfl] at this
    omega
   ·have h':¬ j=i:=fun e=>hij e.symm
    rw [cnt,if_neg h'] at h
    have:=a3 i hi hci (by omega)
    rw [so,if_neg hnj] at this
    exact this
def KI (c:B0) (d:Nat) (s:LS):Prop:=∀ i:Nat,i<c.nodes.l.length→E6 (Az c i)=true→∀ q:Nat,(q:Int) ∈ I5 c i→(q:Int) ∈ s.rdy.take d→s.out.getD q 0+1≤s.out.getD i 0
theorem KI.next {c:B0} (hp:∀ x ∈ c.nodes.l,∀ p ∈ x.inn.l,0≤p∧p<c.nodes.l.length) {d:Nat} {s:LS} (h:JI c d s) (hk:KI c d s) (hd:d<s.rdy.length):KI c (d+1) ((Gq c (s.rdy.getD d 0).toNat).foldl (E7 c (s.rdy.getD d 0).toNat) s):=by
 obtain ⟨M,hli⟩:=h.li
 have hg:s.rdy.getD d 0=s.rdy[d]:=by simp [hd]
 rw [hg]
 obtain ⟨n,hn,he,hn0⟩:=hli.rd _ (List.getElem_mem hd)
 rw [he]
 simp only [Int.toNat_natCast]
 have hr:∀ p ∈ Gq c n,∃ i:Nat,i<c.nodes.l.length∧p.1=i:=by
  intro p hpp
  have hl:=Zy c
  have e:Gq c n=(F5 c)[n]'(by omega):=by simp [Gq,List.getD,List.getElem?_eq_getElem (show n<(F5 c).length by omega)]
  rw [e] at hpp
  exact q5r c _ (List.getElem_mem _) p hpp
 have htk:s.rdy.take (d+1)=s.rdy.take d++[(n:Int)]:=by
  rw [List.take_add_one,List.getElem?_eq_getElem hd,he]; rfl
 have hnd:(s.rdy.take (d+1)).Nodup:=hli.nd.sublist (List.take_sublist _ _)
 have hcnt:∀ i:Nat,i<c.nodes.l.length→E6 (Az c i)=true→(To i (Gq c n):Int)≤s.left.getD i 0:=by
  intro i hi hci
  have:=q6y (I5 c i) _ hnd
  rw [htk] at this
  simp only [List.map_append,List.sum_append,List.map_cons,List.map_nil,List.sum_cons,List.sum_nil] at this
  rw [h.a i hi,qGA c hi,q83 c hp i n hi]
  simp only [hci,if_true]
  omega
 obtain ⟨⟨e,h1⟩,_,_,_⟩:=q84 (M:=M) (c:=c) (n:=n) (r:=Gq c n) hli.ll hr h.b
 obtain ⟨a1,a2,a3⟩:=qIZ (n:=n) (c:=c) hli.lo hli.ll hr hcnt hn0
 intro i hi hci q hq hqt
 rw [h1,List.take_append_of_le_length (by omega),htk] at hqt
 rcases List.mem_append.1 hqt with hqt | hqt
 ·obtain ⟨q',hq1,hq2,hq3⟩:=hli.rd _ (List.mem_of_mem_take hqt)
  have:q=q':=by omega
  subst this
  rw [a1 q hq1 hq3]
  have h4:=hk i hi hci q hq hqt
  have h5:=a2 i hi
  omega
 ·have:q=n:=by simp at hqt; omega
  subst this
  rw [a1 q hn hn0]
  refine a3 i hi hci ?_
  rw [q83 c hp i q hi]
  exact List.count_pos_iff.2 hq
theorem qGB {c:B0} (hp:∀ x ∈ c.nodes.l,∀ p ∈ x.inn.l,0≤p∧p<c.nodes.l.length):∀ (f d:Nat) (s:LS),JI c d s→KI c d s→KI c (N5 c f d s).1 (N5 c f d s).2
 | 0,d,s,_,hk=>hk
 | f+1,d,s,h,hk=>by
  simp only [N5]
  split
  ·rename_i hd
   exact qGB hp f (d+1) _ (h.next hp hd) (hk.next hp h hd)
  ·exact hk
theorem qKE (c:B0) (h16:∀ x ∈ c.nodes.l,x.inn.l.length≤16):JI c 0 (I2 c):=by
 refine ⟨⟨0,qDZ c h16⟩,by simp,fun i hi=>?_,fun i hi h=>?_⟩
 ·simp [I2]
 ·simp only [I2] at h
  exact q3T c.nodes.l 0 i (by omega) (by omega) (by simpa using h)
theorem qDk {c:B0} (h:Dz c=0):∀ x ∈ c.nodes.l,∀ p ∈ x.inn.l,0≤p∧p<c.nodes.l.length:=by
 intro x hx
 have h4:=(Ih h).2.2.1 x hx
 unfold Dq at h4
 split at h4
 ·cases h4
 split at h4
 ·cases h4
 split at h4
 ·cases h4
 rename_i h6
 exact q4P (by simpa using h6)
def O0 (c:B0) (i:Nat):Int:=(Oq c).2.out.getD i 0
theorem Po {c:B0} (h:Eh c=0):Dz c=0∧¬ (Oq c).1<c.nodes.l.length:=by
 unfold Eh at h
 split at h
 ·rename_i h1; exact absurd h h1
 split at h
 ·cases h
 ·rename_i h1 h2; exact ⟨by simpa using h1,h2⟩
theorem qF9 {c:B0} (h:Eh c=0):(Oq c).2.out.length=c.nodes.l.length∧(∀ i,0≤O0 c i)∧∀ i:Nat,i<c.nodes.l.length→E6 (Az c i)=true→∀ p ∈ I5 c i,(0≤p∧p<c.nodes.l.length)∧O0 c p.toNat<O0 c i:=by
 obtain ⟨hs,hd⟩:=Po h
 have hp:=qDk hs
 have h16:=(Ih hs).2.1
 have h0:=qKE c h16
 obtain ⟨hJ,hle⟩:=qAI hp (c.nodes.l.length+1) 0 (I2 c) h0 (by omega)
 have hK:=qGB hp (c.nodes.l.length+1) 0 (I2 c) h0 (fun i _ _ q _ hq=>by simp at hq)
 obtain ⟨M,hli⟩:=hJ.li
 refine ⟨hli.lo,fun i=>(hli.bo i).1,fun i hi hc p hpi=>?_⟩
 have hin:0≤p∧p<c.nodes.l.length:=by
  simp only [I5,List.getD_eq_getElem?_getD,List.getElem?_eq_getElem hi,Option.getD_some] at hpi
  exact hp _ (List.getElem_mem hi) p hpi
 refine ⟨hin,?_⟩
 have hpe:p=(p.toNat:Int):=by omega
 have hall:p ∈ (Oq c).2.rdy.take (Oq c).1:=by
  have hle':(Oq c).2.rdy.length≤(Oq c).1:=hle
  rw [List.take_of_length_le hle']
  by_cases hm:p ∈ (Oq c).2.rdy
  ·exact hm
  exfalso
  have:=qBh (N:=c.nodes.l.length) (List.nodup_cons.2 ⟨hm,hli.nd⟩) fun j hj=>by
   rcases List.mem_cons.1 hj with rfl | hj
   ·exact ⟨j.toNat,by omega,by omega⟩
   ·obtain ⟨i,h1,h2,_⟩:=hli.rd j hj; exact ⟨i,h1,h2⟩
  have h3:=hJ.le
  simp only [List.length_cons] at this
  have:(Oq c).1≤(Oq c).2.rdy.length:=h3
  have:(N5 c (c.nodes.l.length+1) 0 (I2 c)).2=(Oq c).2:=rfl
  simp only [this] at *
  omega
 have:=hK i hi hc p.toNat (by rw [← hpe]; exact hpi) (by rw [← hpe]; exact hall)
 show (Oq c).2.out.getD p.toNat 0<(Oq c).2.out.getD i 0
 have e:(N5 c (c.nodes.l.length+1) 0 (I2 c)).2=(Oq c).2:=rfl
 rw [e] at this
 omega
theorem qKF {c:B0} (h:Eh c=0) {Q:Nat→Prop} (hq:∀ i:Nat,i<c.nodes.l.length→(E6 (Az c i)=true→∀ p ∈ I5 c i,(0≤p∧p<c.nodes.l.length)∧Q p.toNat)→Q i):∀ i:Nat,i<c.nodes.l.length→Q i:=by
 obtain ⟨_,h0,h1⟩:=qF9 h
 have:∀ (k:Nat) (i:Nat),i<c.nodes.l.length→(O0 c i).toNat=k→Q i:=by
  intro k
  induction k using Nat.strongRecOn with
  | ind k ih =>
   intro i hi hk
   refine hq i hi fun hc p hp=>?_
   obtain ⟨h2,h3⟩:=h1 i hi hc p hp
   have:=h0 p.toNat
   exact ⟨h2,ih (O0 c p.toNat).toNat (by omega) p.toNat (by omega) rfl⟩
 exact fun i hi=>this _ i hi rfl
end Go.Lg
