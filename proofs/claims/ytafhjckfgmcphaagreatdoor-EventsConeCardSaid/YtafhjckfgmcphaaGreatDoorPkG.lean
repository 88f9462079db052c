/- EventsEvals: the law. Conditions: none. -/
import Derived.Test.YtafhjckfgmcphaaGreatDoorPkF
import Derived.Test.YtafhjckfgmcphaaGreatDoorPkC
import Derived.Test.YtafhjckfgmcphaaGreatDoorProg
import Derived.KernelRfl
set_option linter.unusedSimpArgs false
set_option linter.unusedVariables false
set_option maxRecDepth 100000
namespace Go.Lg
open Go Go.Proofs
variable {Γ:Tables}
def R9 (l:List Int) (b:List Bool):List Bool:=l.foldl (fun b i=>b.set i.toNat true) b
theorem q5b:∀ {l:List Int} {b:List Bool},(R9 l b).length=b.length
 | [],b=>rfl
 | i::l,b=>by
  show(R9 l (b.set i.toNat true)).length=_
  rw[q5b];simp
theorem qBJ:∀ {l:List Int} {b:List Bool} {m:Int},(∀ i∈l,0<=i)->0<=m->m<b.length->(R9 l b).getD m.toNat false=(b.getD m.toNat false||decide (m∈l))
 | [],b,m,_,_,_=>by simp[R9]
 | i::l,b,m,hl,h0,h1=>by
  have hi:=hl i xqh
  show(R9 l (b.set i.toNat true)).getD m.toNat false=_
  rw[qBJ (fun j hj=>hl j (xqf _ hj)) h0 (by simpa using h1)]
  simp only[xqe,xzb,xqv]
  by_cases e:m=i
  ·subst e
   have:m.toNat<b.length:=by omega
   simp[this]
  ·have:¬ i.toNat=m.toNat:=by omega
   simp[this,e]
end Go.Lg
namespace Go.Lg
open Go
section
variable {P:Program} {Γ:Tables} {Q:AX->St->Prop} {s:St}
/- probecard/probecardlaw08.EventsCone (function 8) -/
abbrev qMm:IC:=.gh (.seq (.seq (.reg [om 51 15,om 52 12,od 53 (le 0 52),od 54 (.bin .lss (tm 51) (tm 53))] [kp [7,11,12,13,14,15,54] [7,89]]) (.cond (tm 54) .skip (.exit 0))) (.seq (.block 1 (.seq (.seq (.reg [om 57 12,om 58 15,od 59
 (ia 1 57 58),od 60 (ld 1 59),od 61 (.bin .lss (tm 60) (ki 0)),om 62 61,oF 63 (.mv (tm 12)) 62,oF 64 (.mv (tm 15)) 62,oF 65 (ia 1 63 64) 62,oF 66 (ld 1 65) 62,oF 67 (fa 0 7) 62,oF 68 (ld 1 67) 62,oF 69 (le 0 68) 62,oF 70
 (.bin .geq (tm 66) (tm 69)) 62,od 71 (.pick (tm 62) kT (tm 70))] [kp [7,11,12,13,14,15,71] [7,89]]) (.cond (tm 71) (.seq (.reg [od 6 (.mv kF)] [kp [6] []]) .ret) .skip)) (.seq (.reg [od 72 (fa 0 7),od 73 (ld 1 72),om 74
 12,om 75 15,od 76 (ia 1 74 75),od 77 (ld 1 76),od 78 (ia 4 73 77),od 79 (fa 0 78),od 80 (ld 1 79),od 81 (.call 14 [(tm 80)]),od 82 (.un .not (tm 81))] [kp [7,11,12,13,14,15,82] [7,89]]) (.cond (tm 82) (.reg [om 83
 14,om 84 12,om 85 15,od 86 (ia 1 84 85),od 87 (ld 1 86),od 88 (.bsl true 3 1 [(tm 87)]),od 89 (.app false 3 1 (tm 83) (tm 88)),om 14 89] [kp [7,11,12,13,14,15] [7,89]]) .skip)))) (.reg [om 55 15,od 56 (.bin .add (tm
 55) (ki 1)),om 15 56] [kp [7,11,12,13,14,15] [7,89]]))) [kp [7,11,12,13,14,15] [7,89]]
def qMV:IC:=.loop qMm
abbrev qMn:IC:=.gh (.seq (.seq (.reg [om 100 19,om 101 16,od 102 (le 0 101),od 103 (.bin .lss (tm 100) (tm 102))] [kp [11,12,13,16,17,18,19,103] [99]]) (.cond (tm 103) .skip (.exit 2))) (.seq (.block 3 (.seq (.seq (.reg [om 106 16,om
 107 19,od 108 (ia 1 106 107),od 109 (ld 1 108),od 110 (.bin .lss (tm 109) (ki 0)),om 111 110,oF 112 (.mv (tm 16)) 111,oF 113 (.mv (tm 19)) 111,oF 114 (ia 1 112 113) 111,oF 115 (ld 1 114) 111,oF 116 (.mv (tm 18)) 111,oF
 117 (le 0 116) 111,oF 118 (.bin .geq (tm 115) (tm 117)) 111,od 119 (.pick (tm 111) kT (tm 118))] [kp [11,12,13,16,17,18,19,119] [99]]) (.cond (tm 119) (.seq (.reg [od 6 (.mv kF)] [kp [6] []]) .ret) .skip)) (.reg [om 120
 18,om 121 16,om 122 19,od 123 (ia 1 121 122),od 124 (ld 1 123),od 125 (ia 1 120 124),on (.store 1 (tm 125) kT)] [kp [11,12,13,16,17,18,19] [99]]))) (.reg [om 104 19,od 105 (.bin .add (tm 104) (ki 1)),om 19 105] [kp
 [11,12,13,16,17,18,19] [99]]))) [kp [11,12,13,16,17,18,19] [99]]
def qMW:IC:=.loop qMn
abbrev qMo:IC:=.gh (.seq (.seq (.reg [om 126 20,om 127 12,od 128 (le 0 127),od 129 (.bin .lss (tm 126) (tm 128))] [kp [11,12,13,17,18,20,129] [99]]) (.cond (tm 129) .skip (.exit 4))) (.seq (.block 5 (.seq (.reg [om 132 18,om 133 12,om
 134 20,od 135 (ia 1 133 134),od 136 (ld 1 135),od 137 (ia 1 132 136),od 138 (ld 1 137),od 139 (.un .not (tm 138))] [kp [11,12,13,17,18,20,139] [99]]) (.cond (tm 139) (.seq (.reg [od 6 (.mv kF)] [kp [6] []]) .ret)
 .skip))) (.reg [om 130 20,od 131 (.bin .add (tm 130) (ki 1)),om 20 131] [kp [11,12,13,17,18,20] [99]]))) [kp [11,12,13,17,18,20] [99]]
def qMX:IC:=.loop qMo
abbrev qMp:IC:=(.seq (.reg [od 3 (.box false (tm 0)),od 4 (.box true (tm 1)),od 5 (.box true (tm 2)),od 6 (.mv kF)] [kp [3,4,5] [3]]) (.seq (.reg [od 21 (fa 5 3),on (.store 1 (tm 21) kF)] [kp [3,4,5] [3]]) (.seq (.reg [od 22 (lG 12 3),od
 23 (.call 10 [(tm 22)]),od 7 (.alloc false [(.slice none 0 0),(.slice none 0 0),(.slice none 0 0),(.slice none 0 0)]),on (.store 4 (tm 7) (tm 23))] [kp [4,5,7] [7]]) (.seq (.reg [od 25 (lG 4 7),od 26 (.ncall 11 [(tm 25)]
 1000),om 24 26,od 27 (ex 24 0),od 28 (ex 24 1),om 8 27,om 9 28] [kp [4,5,7,8,9] [7,1031,1634]]) (.seq (.seq (.reg [om 29 9,od 30 (.bin .neq (tm 29) (ki 0)),om 31 30,oF 32 (.mv (tm 8)) 31,oF 33 (.isNilP true (tm 32))
 31,od 34 (.pick (tm 31) kT (tm 33))] [kp [4,5,7,8,34] [7,1031,1634]]) (.cond (tm 34) (.seq (.reg [od 6 (.mv kF)] [kp [6] []]) .ret) .skip)) (.seq (.reg [om 36 8,od 37 (lG 2 4),od 38 (lG 4 7),od 39 (.call 13 [(tm 37),(tm
 38)]),od 40 (.hcallW 12 [(tm 36),(tm 39)] 0),om 35 40,od 41 (ex 35 0),od 42 (ex 35 1),om 10 41,om 11 42] [kp [5,7,8,11] [7,1031,1634]]) (.seq (.reg [om 44 8,od 45 (lG 2 5),od 46 (lG 4 7),od 47 (.call 13 [(tm 45),(tm
 46)]),od 48 (.hcallW 12 [(tm 44),(tm 47)] 0),om 43 48,od 49 (ex 43 0),od 50 (ex 43 1),om 12 49,om 13 50] [kp [7,11,12,13] [7]]) (.seq (.reg [od 14 (.mv kN)] [.nl 14 89 3 1,kp [7,11,12,13,14] [7,89]]) (.seq (.seq
 (.reg [od 15 (.mv (ki 0))] [kp [7,11,12,13,14,15] [7,89]]) (.gh (.block 0 qMV) [.frz 89])) (.seq (.reg [od 91 (lG 4 7),om 92 14,od 93 (.call 31 [(tm 91),(tm 92)]),om 90 93,od 94 (ex 90 0),od 95 (ex 90
 1),om 16 94,om 17 95] [kp [7,11,12,13,16,17] [7]]) (.seq (.reg [od 96 (fa 0 7),od 97 (ld 1 96),od 98 (le 0 97),od 99 (.mk 4 1 [(.bool false)] (tm 98) (tm 98)),om 18 99] [kp [11,12,13,16,17,18] [99]]) (.seq (.seq
 (.reg [od 19 (.mv (ki 0))] [kp [11,12,13,16,17,18,19] [99]]) (.block 2 qMW)) (.seq (.seq (.reg [od 20 (.mv (ki 0))] [kp [11,12,13,17,18,20] [99]]) (.block 4 qMX)) (.seq (.reg [om 140 11,
 od 141 (.bin .eql (tm 140) (ki 0)),om 142 141,oT 143 (.mv (tm 13)) 142,oT 144 (.bin .eql (tm 143) (ki 0)) 142,od 145 (.pick (tm 142) (tm 144) kF),om 146 145,oT 147 (.mv (tm 17)) 146,oT 148 (.bin .eql (tm 147) (ki 0)) 146,od
 149 (.pick (tm 146) (tm 148) kF),om 150 149,oT 151 (.call 16 []) 150,od 152 (.pick (tm 150) (tm 151) kF),om 6 152] [kp [6] []]) .ret))))))))))))))
theorem qMf (h:∀ K:St->Prop,K=run P Γ qMV Q->run P Γ qMm (B0 K Q) s):run P Γ qMV Q s:=Am h
theorem qMg (h:∀ K:St->Prop,K=run P Γ qMW Q->run P Γ qMn (B0 K Q) s):run P Γ qMW Q s:=Am h
theorem qMh (h:∀ K:St->Prop,K=run P Γ qMX Q->run P Γ qMo (B0 K Q) s):run P Γ qMX Q s:=Am h
def qMq:List RV:=[.tmp 6]
end
end Go.Lg
namespace Go.Lg
open Go Go.Proofs
theorem qNG:Bc Tryz.prog 8 qMp 153 3 qMq=true:=by kernel_rfl
end Go.Lg
namespace Go.Lg
open Go Go.Proofs
variable {Γ:Tables}
theorem qNb (hΓ:GOk Γ) (c:Bg) (hc:NOk c) (l:List Int) (cap:Option Nat) (nl:Option Bool) (hll:l.length<=1000000) (hv:∀ k∈l,0<=k/\k<c.nodes.l.length):B9 Tryz.prog Γ 31 [.agg (tC c),.sl (Av l) cap nl] (.tup [.sl (Av (qMc (qNA (W2 c) l) 0)) (some (qMc (qNA (W2 c) l) 0).length) none,tI 0]):=by
 refine Cc qNR rfl ?_
 have hn2:=hc.n2
 have hr:=q7g hc.ok hc.lev
 have hp:∀ x∈c.nodes.l,∀ p∈x.inn.l,0<=p/\p<c.nodes.l.length:=fun x hx=>(hr.inn x hx).2
 have hout:l.any (Q2 c)=false:=by
  refine xz8.2 fun k hk=>?_
  have:=hv k hk
  simp only[Q2,xqu];omega
 have e1:=qNh (Γ:=Γ) hΓ c hc.ok (by omega) hc.lev l cap nl (by omega) hout
 have e2:=qNZ (Γ:=Γ) c (by omega) (fun x hx=>(hr.inn x hx).1)
 have hEl:=qNB (c:=c)
 have hrow:∀ i,(eOf (W2 c) i).length<=1000000:=fun i=>by
  by_cases hi:i<(W2 c).length
  ·have h1:eOf (W2 c) i=U9 c ((As c)[i]'(by rw[H5,<- hEl];exact hi)):=by
    unfold eOf
    have h2:(W2 c).getD i q6P=(W2 c)[i]:=by simp[xqe,hi]
    rw[h2]
    simp[W2,qIJ]
   have hb:=q3Z c (by omega) (fun x hx=>(hr.inn x hx).1) _ (xqj (by rw[H5,<- hEl];exact hi:i<(As c).length))
   rw[h1]
   have:(U9 c ((As c)[i]'(by rw[H5,<- hEl];exact hi))).length<=((As c)[i]'(by rw[H5,<- hEl];exact hi)).length:=by
    unfold U9
    rw[xq4]
    exact List.length_filter_le _ _
   omega
  ·unfold eOf
   rw[xqe,List.getElem?_eq_none (by omega)]
   simp[q6P]
 have e3:=qNa (Γ:=Γ) (W2 c) (by omega) (qNp hp) hrow l cap nl (fun k hk=>by rw[hEl];exact hv k hk) hll
 have e4:=qNn (Γ:=Γ) (qNA (W2 c) l) (by rw[qNV,hEl];omega) none none
 generalize qNA (W2 c) l=R at *
 simp[tC,A9,Ah,Ap,B8]at e1 e2
 simp[qFg,tEd]at e2 e3
 simp[qN6,tC,A9,Ah,Ap,B8,D9,C7,T.one,AV.one]
 refine B6 e1 rfl ?_
 simp
 refine B6 e2 rfl ?_
 simp
 refine B6 e3 rfl ?_
 simp
 refine B6 e4 rfl ?_
 simp[ret,qN7]
def frL (c:Bg) (L:List Int):List Int:=L.filter fun k=>!(By (Ad c k.toNat))
theorem qNz {Q:AX->St->Prop} (c:Bg) (hc:NOk c) (L:List Int) (lc:Option Nat) (ln:Option Bool) (hl:∀ i∈L,0<=i/\i<c.nodes.l.length) (hll:L.length<=1000000) (q11 q13:T) (R:List Int)
  (h0:Q (.exit 0) ⟨[(7,.lp 7 0 0),(11,.t q11),(12,.t (.sl (Av L) lc ln)),(13,.t q13),(14,.ls 89 0 R.length none),(15,.t (tI L.length)),(54,.t (tB false))],[(7,cB c),(89,.sl 3 1 (Av R))]⟩) :
  ∀ (k i:Nat) (acc:List Int),k+i=L.length->acc.length<=i->acc++frL c (L.drop i)=R ->
  run Tryz.prog Γ qMV Q ⟨[(7,.lp 7 0 0),(11,.t q11),(12,.t (.sl (Av L) lc ln)),(13,.t q13),(14,.ls 89 0 acc.length none),(15,.t (tI i))],[(7,cB c),(89,.sl 3 1 (Av acc))]⟩
 | 0,i,acc,h,ha,hR=>by
  refine qMf fun K hK=>?_
  have h2:i=L.length:=by omega
  subst h2
  rw[xzs]at hR
  have hR:acc=R:=by rw[<- hR];simp[frL]
  subst hR
  simp[cB,A9,Ah,Ap,B8]at h0
  simp[cB,A9,Ah,Ap,B8,A5]
  simpa using h0
 | k+1,i,acc,h,ha,hR=>by
  refine qMf fun K hK=>?_
  have h2:i<L.length:=by omega
  have e:=gE (f:=tI) 0 h2
  have e':=gE' (f:=tI) 0 h2
  rw[Bn h2]at e e'
  have hq:=hl _ (xqj h2)
  rw[xqq h2]at hR
  have ih:=fun acc=>qNz c hc L lc ln hl hll q11 q13 R h0 k (i+1) acc (by omega)
  generalize L[i]=x at *
  have w1:=Jm (i:=i) (by omega)
  have g1:¬ x<0:=by omega
  have g2:¬ (c.nodes.l.length:Int)<=x:=by omega
  have hg:=q5Q hq.1 hq.2
  have hg':=q9u hq.1 hq.2
  have hkk:(nd c x).k=Ad c x.toNat:=rfl
  have hcomb:=Z7 (Γ:=Γ) (Ad c x.toNat)
  have hcb2:decide (1<=Ad c x.toNat/\Ad c x.toNat<=13)=By (Ad c x.toNat):=rfl
  rw[hcb2]at hcomb
  by_cases hb:By (Ad c x.toNat)=true
  ·have hR2:acc++frL c (L.drop (i+1))=R:=by rw[<- hR];simp[frL,hb]
   have ih:=ih acc (by omega) hR2
   rw[hb]at hcomb
   simp[cB,A9,Ah,Ap,B8]at ih
   simp[cB,A9,Ah,Ap,B8,A5,Aa,Ab,h2,e,e',g1,g2,hg,hg',hq,E3,Bj,hkk]
   refine A4 hcomb rfl ?_
   simp[w1]
   rw[hK]
   simpa using ih
  ·have hb:By (Ad c x.toNat)=false:=by simpa using hb
   have hR2:(acc++[x])++frL c (L.drop (i+1))=R:=by rw[<- hR];simp[frL,hb]
   have ih:=ih (acc++[x]) (by simp;omega) hR2
   rw[hb]at hcomb
   have hE:Av acc++[[tI x]]=Av (acc++[x]):=Gy
   simp[cB,A9,Ah,Ap,B8]at ih
   simp[cB,A9,Ah,Ap,B8,A5,Aa,Ab,h2,e,e',g1,g2,hg,hg',hq,E3,Bj,hkk]
   refine A4 hcomb rfl ?_
   simp[A5,Aa,h2,e,e',w1,hE]
   refine⟨by omega,?_⟩
   rw[hK]
   simpa using ih
theorem qO0 {Q:AX->St->Prop} (l:List Int) (lc:Option Nat) (ln:Option Bool) (n:Nat) (hl:∀ i∈l,0<=i/\i<n) (hll:l.length<=1000000) (q11 q12 q13 q17:T)
  (h0:Q (.exit 2) ⟨[(11,.t q11),(12,.t q12),(13,.t q13),(16,.t (.sl (Av l) lc ln)),(17,.t q17),(18,.ls 99 0 n none),(19,.t (tI l.length)),(103,.t (tB false))],[(99,.sl 4 1 (An tB (R9 l (List.replicate n false))))]⟩) :
  ∀ (k i:Nat),k+i=l.length ->
  run Tryz.prog Γ qMW Q ⟨[(11,.t q11),(12,.t q12),(13,.t q13),(16,.t (.sl (Av l) lc ln)),(17,.t q17),(18,.ls 99 0 n none),(19,.t (tI i))],[(99,.sl 4 1 (An tB (R9 (l.take i) (List.replicate n false))))]⟩
 | 0,i,h=>by
  refine qMg fun K hK=>?_
  have h2:i=l.length:=by omega
  subst h2
  rw[xzn]
  simp[A5]
  simpa using h0
 | k+1,i,h=>by
  refine qMg fun K hK=>?_
  have h2:i<l.length:=by omega
  have e:=gE (f:=tI) 0 h2
  have e':=gE' (f:=tI) 0 h2
  have hq:=hl _ (xqj h2)
  rw[Bn h2]at e e'
  have hmk:R9 (l.take (i+1)) (List.replicate n false)=(R9 (l.take i) (List.replicate n false)).set (l[i]).toNat true:=by
   unfold R9
   rw[xz7,xqg h2,Option.toList_some,List.foldl_append]
   rfl
  have ih:=qO0 l lc ln n hl hll q11 q12 q13 q17 h0 k (i+1) (by omega)
  rw[hmk]at ih
  have hml:(R9 (l.take i) (List.replicate n false)).length=n:=by rw[q5b];simp
  generalize R9 (l.take i) (List.replicate n false)=cb at *
  generalize l[i]=x at *
  have w1:=Jm (i:=i) (by omega)
  have g1:¬ x<0:=by omega
  have g2:¬ (n:Int)<=x:=by omega
  have g3:x.toNat<n:=by omega
  have bs:(An tB cb).set x.toNat [tB true]=An tB (cb.set x.toNat true):=I8
  simp at ih
  simp[A5,Aa,h2,e,e',g1,g2,g3,hq,hml,bs,w1]
  rw[hK]
  simpa using ih
theorem qO1 {Q:AX->St->Prop} (L:List Int) (lc:Option Nat) (ln:Option Bool) (n:Nat) (hl:∀ i∈L,0<=i/\i<n) (hll:L.length<=1000000) (q11 q13 q17:T) (cb:List Bool) (hcb:cb.length=n) (hin:∀ i∈L,cb.getD i.toNat false=true)
  (h0:Q (.exit 4) ⟨[(11,.t q11),(12,.t (.sl (Av L) lc ln)),(13,.t q13),(17,.t q17),(18,.ls 99 0 n none),(20,.t (tI L.length)),(129,.t (tB false))],[(99,.sl 4 1 (An tB cb))]⟩) :
  ∀ (k i:Nat),k+i=L.length ->
  run Tryz.prog Γ qMX Q ⟨[(11,.t q11),(12,.t (.sl (Av L) lc ln)),(13,.t q13),(17,.t q17),(18,.ls 99 0 n none),(20,.t (tI i))],[(99,.sl 4 1 (An tB cb))]⟩
 | 0,i,h=>by
  refine qMh fun K hK=>?_
  have h2:i=L.length:=by omega
  subst h2
  simp[A5]
  simpa using h0
 | k+1,i,h=>by
  refine qMh fun K hK=>?_
  have h2:i<L.length:=by omega
  have e:=gE (f:=tI) 0 h2
  have e':=gE' (f:=tI) 0 h2
  have hq:=hl _ (xqj h2)
  have hm:=hin _ (xqj h2)
  rw[Bn h2]at e e'
  have ih:=qO1 L lc ln n hl hll q11 q13 q17 cb hcb hin h0 k (i+1) (by omega)
  generalize L[i]=x at *
  have g3:x.toNat<n:=by omega
  have b:=gE (f:=tB) false (l:=cb) (i:=x.toNat) (by omega)
  have b':=gE' (f:=tB) false (l:=cb) (i:=x.toNat) (by omega)
  rw[hm]at b b'
  have w1:=Jm (i:=i) (by omega)
  simp at ih
  simp[A5,Aa,h2,e,e',g3,hq,hcb,b,b',w1]
  rw[hK]
  simpa using ih
set_option maxHeartbeats 2000000 in
theorem qNv (hΓ:GOk Γ) (x:CD) (hx:q2Z x) (q:PD) (hq:qEN q) (b:PD) (hb:qEN b):B9 Tryz.prog Γ 8 [.agg (Ny x),.agg (tPD q),.agg (tPD b)] (tB true):=by
 refine Cc qNG rfl ?_
 have hx':=qFn hx
 have hc:=qJW hx' rfl
 have hk:=qJo hx' rfl
 have hof:=qHF (Γ:=Γ) (qFm x) hx'
 generalize Nz (qFm x)=c at *
 have enew:=qIK (Γ:=Γ) hΓ hc hk
 have hn1:=hc.n1
 have hn2:=hc.n2
 have hr:=q7g hc.ok hc.lev
 have hp:∀ x∈c.nodes.l,∀ p∈x.inn.l,0<=p/\p<c.nodes.l.length:=fun x hx=>(hr.inn x hx).2
 have hq1:=q9J (Γ:=Γ) q hq c hc.ok
 have hb1:=q9J (Γ:=Γ) b hb c hc.ok
 have hP:=qB4 hq c
 have hB:=qB4 hb c
 have a1:=q6d (Γ:=Γ) hΓ hc q5Z hP 0
 have a2:=q6d (Γ:=Γ) hΓ hc hP hB (Qg c (nP c (Nb c)) (nP c (M7 q c)))
 have hdr:∀ i∈Gs c.nodes.l.length (nP c (M7 q c)) (nP c (M7 b c)),0<=i/\i<c.nodes.l.length:=fun i hi=>by
  simp only[Gs,xzi,Q4]at hi;exact hi.1
 have hdl:(Gs c.nodes.l.length (nP c (M7 q c)) (nP c (M7 b c))).length<=1000000:=by
  unfold Gs
  refine Nat.le_trans (List.length_filter_le _ _) ?_
  rw[O0];omega
 have hlA:(nP c (Nb c)).length=c.nodes.l.length:=q4g
 have hlQ:(nP c (M7 q c)).length=c.nodes.l.length:=q4g
 have hlB:(nP c (M7 b c)).length=c.nodes.l.length:=q4g
 have hf1:qFV c (Y3 c (M7 q c).inn.l (M7 q c).st.l) (nP c (M7 q c)):=q4P hc.lev _ _
 have hf2:qFV c (Y3 c (M7 b c).inn.l (M7 b c).st.l) (nP c (M7 b c)):=q4P hc.lev _ _
 have hfr:∀ k∈frL c (Gs c.nodes.l.length (nP c (M7 q c)) (nP c (M7 b c))),0<=k/\k<c.nodes.l.length:=fun k hk=>hdr k ((xzi.1 hk).1)
 have hfl:(frL c (Gs c.nodes.l.length (nP c (M7 q c)) (nP c (M7 b c)))).length<=1000000:=Nat.le_trans (List.length_filter_le _ _) hdl
 have hcone:=qNu hc.lev hp hf1 hf2 (l:=frL c (Gs c.nodes.l.length (nP c (M7 q c)) (nP c (M7 b c)))) hfr (fun i hi hcb hne=>by
  refine xzi.2 ⟨?_,by simpa using hcb⟩
  simp only[Gs,xzi,Q4,xqu]
  exact⟨⟨by omega,by omega⟩,fun e=>hne (by simpa using e.symm)⟩)
 have hF:=fun cap nl=>qNb (Γ:=Γ) hΓ c hc (frL c (Gs c.nodes.l.length (nP c (M7 q c)) (nP c (M7 b c)))) cap nl hfl hfr
 have hRl:(qNA (W2 c) (frL c (Gs c.nodes.l.length (nP c (M7 q c)) (nP c (M7 b c))))).length=c.nodes.l.length:=by rw[qNV,qNB]
 have hdn:∀ i∈Gs c.nodes.l.length (nP c (M7 q c)) (nP c (M7 b c)),(qNA (W2 c) (frL c (Gs c.nodes.l.length (nP c (M7 q c)) (nP c (M7 b c))))).getD i.toNat false=true:=fun i hi=>by
  have h1:=hdr i hi
  simp only[Gs,xzi,Q4,xqu]at hi
  exact hcone i.toNat (by omega) fun e=>hi.2 e.symm
 have hl1:=fun Q q11 q13 lc ln g0=>qNz (Γ:=Γ) (Q:=Q) c hc (Gs c.nodes.l.length (nP c (M7 q c)) (nP c (M7 b c))) lc ln hdr hdl q11 q13 (frL c (Gs c.nodes.l.length (nP c (M7 q c)) (nP c (M7 b c)))) g0 (Gs c.nodes.l.length (nP c (M7 q c)) (nP c (M7 b c))).length 0 [] (by omega) (by simp) (by rw[xzt,List.nil_append])
 generalize frL c (Gs c.nodes.l.length (nP c (M7 q c)) (nP c (M7 b c)))=FR at *
 generalize qNA (W2 c) FR=RB at *
 have hcr:∀ k∈qMc RB 0,0<=k/\k<c.nodes.l.length:=fun k hk=>by
  obtain⟨h1,h2⟩:=qNe.1 hk
  refine⟨h1,?_⟩
  by_cases h3:k.toNat<RB.length
  ·omega
  ·rw[xqe,List.getElem?_eq_none (by omega)]at h2;cases h2
 have hcl:(qMc RB 0).length<=1000000:=by
  have:=qNW (l:=RB) (i:=0)
  omega
 have hl3:=fun Q q11 q12 q13 q17 lc ln g0=>qO0 (Γ:=Γ) (Q:=Q) (qMc RB 0) lc ln c.nodes.l.length hcr hcl q11 q12 q13 q17 g0 (qMc RB 0).length 0 (by omega)
 have hin:∀ i∈Gs c.nodes.l.length (nP c (M7 q c)) (nP c (M7 b c)),(R9 (qMc RB 0) (List.replicate c.nodes.l.length false)).getD i.toNat false=true:=fun i hi=>by
  have h1:=hdr i hi
  rw[qBJ (fun k hk=>(hcr k hk).1) h1.1 (by simpa using h1.2),qO3,Bool.false_or]
  simp only[xqu]
  exact qNe.2 ⟨h1.1,hdn i hi⟩
 have hl5:=fun Q q11 q13 q17 lc ln g0=>qO1 (Γ:=Γ) (Q:=Q) (Gs c.nodes.l.length (nP c (M7 q c)) (nP c (M7 b c))) lc ln c.nodes.l.length hdr hdl q11 q13 q17 (R9 (qMc RB 0) (List.replicate c.nodes.l.length false)) (by rw[q5b];simp) hin g0 (Gs c.nodes.l.length (nP c (M7 q c)) (nP c (M7 b c))).length 0 (by omega)
 have hz:An tB (List.replicate c.nodes.l.length false)=List.replicate c.nodes.l.length [tB false]:=by simp[An]
 simp only[List.take_zero]at hl3
 have hmk:R9 [] (List.replicate c.nodes.l.length false)=List.replicate c.nodes.l.length false:=rfl
 rw[hmk]at hl3
 generalize R9 (qMc RB 0) (List.replicate c.nodes.l.length false)=cb at *
 generalize qMc RB 0=CO at *
 have hpq:M7 q c=⟨⟨qHM q c,none,none⟩,⟨qHN q c,none,none⟩⟩:=rfl
 have hpb:M7 b c=⟨⟨qHM b c,none,none⟩,⟨qHN b c,none,none⟩⟩:=rfl
 generalize nP c (Nb c)=N0 at *
 generalize nP c (M7 q c)=N1 at *
 generalize nP c (M7 b c)=N2 at *
 generalize Gs c.nodes.l.length N1 N2=DL at *
 generalize Qg c N1 N2=EV at *
 generalize Qg c N0 N1=E1 at *
 generalize Gs c.nodes.l.length N0 N1=D1 at *
 rw[hpq]at hq1 a1
 rw[hpb]at hb1 a2
 have hix:List.idxOf 1634 [1031,1634]=1:=rfl
 simp[tC,A9,Ah,Ap,B8,tP,tV,tVs,tPD]at hq1 hb1 enew hF
 generalize Ks c=D at *
 simp[tP,tV,hS,Ax,A9,Ah,Ap,B8]at a1 a2
 simp[cB,A9,Ah,Ap,B8]at hl1
 simp[hz]at hl3 hl5
 simp[qMp,Ny,tPD,tV]
 refine B6 hof rfl ?_
 simp[tC,A9,Ah,Ap,B8]
 refine⟨_,_,Bf.arg1 rfl enew,?_⟩
 simp[Ax,A9,Ah,Ap,B8]
 refine A4 hq1 (by simp[Aj,Ag]) ?_
 simp
 refine⟨[1031,1634],by simp,.t (.tup [.sl (Av D1) (some D1.length) none,tI 0]),hS D c.nodes.l.length N1 E1,by simpa[hS,Ax,A9,Ah,Ap,B8,hix]using a1,by simp[Uk,Aw.sh,hS,Ax,A5,hlA,hlQ],?_⟩
 simp[hS,Ax,A9,Ah,Ap,B8,hix]
 refine A4 hb1 (by simp[Aj,Ag]) ?_
 simp
 refine⟨[1031,1634],by simp,.t (.tup [.sl (Av DL) (some DL.length) none,tI 0]),hS D c.nodes.l.length N2 EV,by simpa[hS,Ax,A9,Ah,Ap,B8,hix]using a2,by simp[Uk,Aw.sh,hS,Ax,A5,hlB,hlQ],?_⟩
 simp[hS,Ax,A9,Ah,Ap,B8,hix,Ab]
 refine hl1 _ _ _ _ _ ?_
 simp[St.freeze,del,Aw.closed,qDb rfl,qBD,q80,qCR]
 refine B6 (hF none none) (by simp[toT,Ag]) ?_
 simp[Ab]
 refine⟨by omega,?_⟩
 refine hl3 _ _ _ _ _ _ _ ?_
 simp
 refine hl5 _ _ _ _ _ _ ?_
 simp
 refine B6 (qA5 hΓ) rfl ?_
 simp[qMq,Aj]
end Go.Lg
