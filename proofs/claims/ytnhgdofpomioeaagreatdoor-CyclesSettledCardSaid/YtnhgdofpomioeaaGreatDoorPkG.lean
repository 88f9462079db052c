/- The expansion of a circuit: what stands in a frame; the closures that add a node and move a list. Conditions: none. -/
import Derived.Test.YtnhgdofpomioeaaGreatDoorPkF
import Derived.Test.YtnhgdofpomioeaaGreatDoorPkE
import Derived.Test.YtnhgdofpomioeaaGreatDoorPkC
import Derived.Test.YtnhgdofpomioeaaGreatDoorProg
import Derived.KernelRfl
set_option linter.unusedSimpArgs false
set_option linter.unusedVariables false
set_option maxRecDepth 100000
namespace Go.Lg
open Go Go.Proofs
variable {Γ:Tables}
def mvL (many:Nat) (f:Int) (l:List Int):List Int:=l.map fun k=>f*many+k
def mvS (many:Nat) (f:Int) (s:Sl Int):Sl Int:=⟨mvL many f s.l,some s.l.length,none⟩
theorem qCp {many:Nat} {f:Int} {l:List Int}:(mvL many f l).length=l.length:=by simp [mvL]
def nmU (f i:Nat):List UInt8:=q2b f++[46]++q2b i
def unN (many:Nat) (f:Nat) (x:Nd):Nd:=if x.k=14 then (if f=0 then ⟨0,⟨[],some 0,some true⟩,0,0⟩ else ⟨3,mvS many ((f:Int) - 1) x.inn,0,0⟩) else ⟨x.k,mvS many f x.inn,0,0⟩
theorem qGZ {Q:AX→St→Prop} (many:Nat) (f:Int) (l:Sl Int) (hl:l.l.length≤1000000) (hf:0≤f*many∧f*many≤1000000000) (hin:∀ k ∈ l.l,0≤k∧k≤1000000) (R:List Int)
  (h0:Q (.exit 0) ⟨[(0,.t (tI f)),(2,.t (.ip [tI many] 0)),(6,.ls 22 0 l.l.length none),(9,.t (B6 l)),(10,.t (tI l.l.length)),(11,.t (tI l.l.length)),(12,.t (tB false))],[(22,.sl 3 1 (Av R))]⟩) :
  ∀ (k i:Nat) (out:List Int),k+i=l.l.length→out.length=i→out++mvL many f (l.l.drop i)=R →
  run Tryz.prog Γ J6 Q ⟨[(0,.t (tI f)),(2,.t (.ip [tI many] 0)),(6,.ls 22 0 i none),(9,.t (B6 l)),(10,.t (tI l.l.length)),(11,.t (tI i))],[(22,.sl 3 1 (Av out))]⟩
 | 0,i,out,h,ho,hR=>by
  refine Re fun K hK=>?_
  have h2:i=l.l.length:=by omega
  subst h2
  rw [List.drop_length] at hR
  simp only [mvL,List.map_nil,List.append_nil] at hR
  subst hR
  simp [B6] at h0
  simp [B6]
  simpa using h0
 | k+1,i,out,h,ho,hR=>by
  refine Re fun K hK=>?_
  have h2:i<l.l.length:=by omega
  rw [List.drop_eq_getElem_cons h2] at hR
  simp only [mvL,List.map_cons] at hR
  have e1:=gE (f:=tI) 0 h2
  have e1':=gE' (f:=tI) 0 h2
  obtain ⟨q0,q1⟩:=hin _ (List.getElem_mem h2)
  rw [Bv h2] at e1 e1'
  generalize l.l[i]=q at *
  have ih:=qGZ many f l hl hf hin R h0 k (i+1) (out++[f*many+q]) (by omega) (by simp [ho]) (by rw [← hR]; simp [mvL])
  have vs:=Be (f:=tI) (l:=out) (x:=f*many+q)
  have vt:(Av out).take i=Av out:=by rw [← ho]; exact Ag
  generalize hm:f*(many:Int)=m at *
  have w1:=B5 (i:=i) (by omega)
  have w2:IntKind.i64.wrap m=m:=A4 (by omega) (by omega)
  have w3:IntKind.i64.wrap (m+q)=m+q:=A4 (by omega) (by omega)
  have h3:(i:Int)<l.l.length:=by omega
  simp [B6] at ih
  simp [B6,A0,A6,h2,h3,e1,e1',hm,w2,w3,vt,vs,ho,w1]
  refine ⟨by omega,?_⟩
  rw [hK]
  simpa using ih
theorem q2O (many:Nat) (f:Int) (l:Sl Int) (hl:l.l.length≤1000000) (hf:0≤f*many∧f*many≤1000000000) (hin:∀ k ∈ l.l,0≤k∧k≤1000000) :
  Ab Tryz.prog Γ 69 [tI f,B6 l,.ip [tI many] 0] (B6 (mvS many f l)):=by
 refine Aq q4r rfl ?_
 have g:=fun Q h0=>qGZ (Γ:=Γ) (Q:=Q) many f l hl hf hin (mvL many f l.l) h0 l.l.length 0 [] (by omega) rfl (by simp)
 have ml:(mvL many f l.l).length=l.l.length:=qCp
 have hc:=q6j (Γ:=Γ) (Av (mvL many f l.l)) none none A6
 have ht:(Av (mvL many f l.l)).take l.l.length=Av (mvL many f l.l):=by rw [← ml]; exact Ag
 rw [A0,ml] at hc
 unfold mvS
 generalize mvL many f l.l=R at *
 simp [B6,Cd] at g
 simp [Za,B6,A0]
 refine g _ ?_
 simp [St.freeze,B9.closed,Bl,frz1,frz0,Du,del,Ai,ht]
 refine A9 hc rfl ?_
 simp [Zb]
theorem q8z (f i:Nat) (hf:f<100) (hi:i<100):A3 Tryz.prog Γ 71 [tI f,tI i] (tS (nmU f i)):=by
 refine A7 q9G rfl ?_
 have e1:=qC2 (Γ:=Γ) f hf
 have e2:=qC2 (Γ:=Γ) i hi
 have l1:∀ j,(q2b j).length≤2:=fun j=>by unfold q2b; split <;> simp
 have l1f:=l1 f
 have l1i:=l1 i
 unfold nmU
 generalize q2b f=a at *
 generalize q2b i=b at *
 simp only [tS,sV] at e1 e2
 simp [q47,sV]
 refine A1 e1 rfl ?_
 simp
 refine ⟨by omega,?_⟩
 refine A1 e2 rfl ?_
 simp [q48,tS]
 refine ⟨by omega,?_⟩
 show Value.string (ByteArray.mk a.toArray++ByteArray.mk [46].toArray++ByteArray.mk b.toArray)=_
 rw [qGT,qGT]
 simp [sV]
theorem qGa (x:Nd) (s:List UInt8) (ns:List Nd) (ms:List (List UInt8)) (hl:ns.length=ms.length) (hn:ns.length≤1000000) (m o:T) :
  F6 Tryz.prog Γ 68 [(1000000,.bx [.ls 1000002 0 ns.length none,.ls 1000003 0 ms.length none,.t m,.t o]),(1000002,.sl 45 4 (Ar Dn ns)),(1000003,.sl 9 1 (Ac tS ms))]
   [.ag ((Dn x).map .t),.t (tS s),.lp 1000000 0 0] (.t (.tup [])) [(9,.sl 45 4 (Ar Dn (ns++[x]))),(14,.sl 9 1 (Ac tS (ms++[s]))),(1000000,.bx [.ls 9 0 (ns.length+1) none,.ls 14 0 (ms.length+1) none,.t m,.t o])]:=by
 refine Gy q4q rfl ?_
 have vs:=q18 (f:=Dn) (l:=ns) (x:=x)
 have vs2:=Be (f:=tS) (l:=ms) (x:=s)
 simp only [Dn,B6] at vs
 simp only [tS,sV] at vs2
 have hw1:Cm 4 [[tK x.k,.sl (Av x.inn.l) x.inn.cap x.inn.nl,tI x.mem,tI x.bit]]:=fun e he=>by simp at he; subst he; rfl
 have hw2:∀ t:T,Cm 1 [[t]]:=fun t e he=>by simp at he; subst he; rfl
 simp [Z7,Dn,B6,tS,sV,Aa,A0,hw1,hw2,vs,vs2]
 refine ⟨by omega,by omega,?_⟩
 simp [Z8,Dn,B6,tS,sV,hl]
 done
end Go.Lg
namespace Go.Lg
open Go
section
variable {P:Program} {Γ:Tables} {Q:AX→St→Prop} {s:St}
/- probecard/sims.Check (function 135) -/
abbrev q5W:IC:=(.seq (.reg [od 2 (.box true (tm 0)),od 3 (.box true (tm 1)),od 4 (.mv (ki 0))] [kp [2,3] []]) (.seq (.seq (.reg [od 6 (lG 4 2),od 7 (.call 19 [(tm 6)]),om 5 7] [kp [2,3,5] []]) (.seq (.reg [om 8 5,od 9 (.bin .neq (tm 8)
 (ki 0))] [kp [2,3,5,9] []]) (.cond (tm 9) (.seq (.reg [om 10 5,om 4 10] [kp [4] []]) .ret) .skip))) (.seq (.reg [od 11 (lG 4 2),od 12 (lG 2 3),od 13 (.call 105 [(tm 11),(tm 12)]),om 4 13] [kp [4] []]) .ret)))
def q5X:List RV:=[.tmp 4]
end
end Go.Lg
namespace Go.Lg
open Go Go.Proofs
theorem qAt:Ao Tryz.prog 135 q5W 14 2 q5X=true:=by kernel_rfl
end Go.Lg
namespace Go.Lg
open Go Go.Proofs
variable {Γ:Tables}
theorem qJQ (hΓ:GOk Γ) (c:B0) (hc:NOk c) (p:Pat) (hp:POk c p):A3 Tryz.prog Γ 135 [.agg (tC c),.agg (tP p)] (tI 0):=by
 refine A7 qAt rfl ?_
 have hil:=Ov c
 have hsl:=Di c
 have hn:=hc.n2
 have e1:=q5v (Γ:=Γ) hΓ c hc.ok
 have e2:=qHL (Γ:=Γ) c hc.ok p ⟨by rw [hp.i]; omega,by rw [hp.s]; omega⟩
 have h0:=qHO hc hp
 unfold qFC at h0
 rw [if_neg (by simp [hc.lev])] at h0
 rw [h0] at e2
 rw [hc.lev] at e1
 simp [tC,A5,A8,Ad,B6,tP,tV] at e1 e2
 simp [q5W,tC,A5,A8,Ad,B6,tP,tV]
 refine A1 e1 rfl ?_
 simp
 refine A1 e2 rfl ?_
 simp [q5X]
theorem q7S (hΓ:GOk Γ) (c:B0) (hc:NOk c) (ho:c.outs.l.length≤16) (n:Nat) (h1:1≤n) (h8:n≤8):Ab Tryz.prog Γ 67 [.agg (tC c),tI n] (tI 0):=by
 refine Aq q8I rfl ?_
 have hil:=Ov c
 have hsl:=Di c
 have hn:=hc.n2
 have e1:=qAg (Γ:=Γ) c hc.ok (by omega) (by omega)
 have e2:=qJQ (Γ:=Γ) hΓ c hc ⟨⟨List.replicate (Bg c).length 2,none,none⟩,⟨List.replicate (Af c).length 2,none,none⟩⟩ ⟨by simp,by simp,fun v hv=>by rw [List.eq_of_mem_replicate hv]; unfold V4; omega,fun v hv=>by rw [List.eq_of_mem_replicate hv]; unfold V4; omega⟩
 have e3:=Et (Γ:=Γ) c hc.ok
 have b1:n*c.nodes.l.length≤8*16:=Nat.mul_le_mul h8 hn
 have b2:n*(c.outs.l.length+(Af c).length)≤8*32:=Nat.mul_le_mul h8 (by omega)
 have c1:((n*c.nodes.l.length:Nat):Int)=(n:Int)*c.nodes.l.length:=by simp
 have c2:((n*(c.outs.l.length+(Af c).length):Nat):Int)=(n:Int)*((c.outs.l.length:Int)+(Af c).length):=by simp
 have w1:IntKind.i64.wrap ((n:Int)*c.nodes.l.length)=(n:Int)*c.nodes.l.length:=by rw [← c1]; exact A4 (by omega) (by omega)
 have w2:IntKind.i64.wrap ((n:Int)*c.nodes.l.length+(Af c).length)=(n:Int)*c.nodes.l.length+(Af c).length:=by rw [← c1]; exact A4 (by omega) (by omega)
 have w3:IntKind.i64.wrap ((c.outs.l.length:Int)+(Af c).length)=(c.outs.l.length:Int)+(Af c).length:=A4 (by omega) (by omega)
 have w4:IntKind.i64.wrap ((n:Int)*((c.outs.l.length:Int)+(Af c).length))=(n:Int)*((c.outs.l.length:Int)+(Af c).length):=by rw [← c2]; exact A4 (by omega) (by omega)
 have k1:¬ (n:Int)<1:=by omega
 have k2:¬ 1024<(n:Int):=by omega
 have k3:¬ 16384<(n:Int)*c.nodes.l.length+(Af c).length:=by rw [← c1]; omega
 have k4:¬ 16384<(n:Int)*((c.outs.l.length:Int)+(Af c).length):=by rw [← c2]; omega
 simp only [tP,tV] at e2
 simp [tC,A5,A8,Ad,B6] at e1 e2 e3
 simp [q2d,tC,A5,A8,Ad,B6]
 refine A9 e1 rfl ?_
 simp
 refine A1 e2 rfl ?_
 simp
 refine A9 e3 rfl ?_
 simp [A0,Aa,w1,w2,w3,w4,k1,k2,k3,k4,q2e]
def q9I (a st:List Int):Nat→Nat→List Nd→List Int
 | _,_,[]=>[]
 | i,k,x::xs=>if x.k=0 then a.getD i 0::q9I a st (i+1) k xs else if x.k=14 then st.getD k 0::q9I a st i (k+1) xs else q9I a st i k xs
def q30 (q:Int):List Nd→Nat
 | []=>0
 | x::xs=>(if x.k=q then 1 else 0)+q30 q xs
theorem qCq {q:Int}:∀ {l:List Nd} {i:Nat},(Ky [q] l i).length=q30 q l
 | [],_=>rfl
 | x::xs,i=>by
  simp only [Ky,q30]
  have ih:=qCq (q:=q) (l:=xs) (i:=i+1)
  by_cases h:x.k=q
  ·simp [h,ih]; omega
  ·have:[q].contains x.k=false:=by simpa using h
   simp [h,this,ih]
theorem q7T {a st:List Int}:∀ {l:List Nd} {i k:Nat},(q9I a st i k l).length=q30 0 l+q30 14 l
 | [],_,_=>rfl
 | x::xs,i,k=>by
  simp only [q9I,q30]
  by_cases h0:x.k=0
  ·have h14:¬ (0:Int)=14:=by omega
   simp [h0,q7T (l:=xs)]; omega
  ·by_cases h14:x.k=14
   ·simp [h0,h14,q7T (l:=xs)]; omega
   ·simp [h0,h14,q7T (l:=xs)]
theorem qCr {Q:AX→St→Prop} (c:B0) (hm:c.nodes.l.length≤16) (st:Sl Int) (a:Sl Int) (ins:List (Sl Int)) (ic:Option Nat) (il:Option Bool) (R:List Int)
  (ha:a.l.length=q30 0 c.nodes.l) (hs:st.l.length=q30 14 c.nodes.l)
  (h0:∀ i k:Nat,Q (.exit 1) ⟨[(1,.t (tV st)),(2,.t (.sl (Ac tV (a::ins)) ic il)),(6,.lp 6 0 0),(12,.ls 72 0 R.length none),(13,.t (tI i)),(14,.t (tI k)),(54,.t (A5 c.nodes)),(55,.t (tI c.nodes.l.length)),(56,.t (tI c.nodes.l.length)),(57,.t (tB false))],[(6,.bx [.t Ax,.t Ax]),(72,.sl 71 1 (Ap R))]⟩) :
  ∀ (q j i k:Nat) (out:List Int),q+j=c.nodes.l.length→out.length=i+k→i+q30 0 (c.nodes.l.drop j)=a.l.length→k+q30 14 (c.nodes.l.drop j)=st.l.length→out++q9I a.l st.l i k (c.nodes.l.drop j)=R →
  run Tryz.prog Γ Ku Q ⟨[(1,.t (tV st)),(2,.t (.sl (Ac tV (a::ins)) ic il)),(6,.lp 6 0 0),(12,.ls 72 0 out.length none),(13,.t (tI i)),(14,.t (tI k)),(54,.t (A5 c.nodes)),(55,.t (tI c.nodes.l.length)),(56,.t (tI j))],[(6,.bx [.t Ax,.t Ax]),(72,.sl 71 1 (Ap out))]⟩
 | 0,j,i,k,out,h,ho,hi,hk,hR=>by
  refine Sr fun K hK=>?_
  have h2:j=c.nodes.l.length:=by omega
  subst h2
  rw [List.drop_length] at hR
  simp only [q9I,List.append_nil] at hR
  subst hR
  have:=h0 i k
  simp [Ax,tV,A5] at this
  simp [Ax,tV,A5]
  simpa using this
 | q+1,j,i,k,out,h,ho,hi,hk,hR=>by
  refine Sr fun K hK=>?_
  have h2:j<c.nodes.l.length:=by omega
  rw [List.drop_eq_getElem_cons h2] at hi hk hR
  simp only [q30,q9I] at hi hk hR
  have e1:(Ar Dn c.nodes.l)[j]?.getD []=Dn c.nodes.l[j]:=by simp [Ar,h2]
  have e1':∀ h,(Ar Dn c.nodes.l)[j]'h=Dn c.nodes.l[j]:=fun h=>by simp [Ar]
  generalize c.nodes.l[j]=x at *
  obtain ⟨xk,xin,xm,xb⟩:=x
  simp only at hi hk hR
  simp only [Dn,B6] at e1 e1'
  have h3:(j:Int)<c.nodes.l.length:=by omega
  have w1:=B5 (i:=j) (by omega)
  have vt:(Ap out).take out.length=Ap out:=Cj
  have hle:q30 0 c.nodes.l≤16∧q30 14 c.nodes.l≤16:=by
   have:∀ (l:List Nd) (z:Int),q30 z l≤l.length:=fun l z=>by
    induction l with
    | nil=>simp [q30]
    | cons x xs ih=>simp only [q30,List.length_cons]; split <;> omega
   have a1:=this c.nodes.l 0
   have a2:=this c.nodes.l 14
   omega
  by_cases c0:xk=0
  ·rw [if_pos c0] at hi hR
   rw [if_neg (by omega)] at hk
   have hlt:i<a.l.length:=by omega
   have e2:=gE (f:=tK) 0 hlt
   have e2':=gE' (f:=tK) 0 hlt
   have ih:=qCr c hm st a ins ic il R ha hs h0 q (j+1) (i+1) k (out++[a.l.getD i 0]) (by omega) (by simp; omega) (by omega) (by omega) (by rw [← hR]; simp)
   have vs:=Pz (l:=out) (v:=a.l.getD i 0)
   generalize a.l.getD i 0=v at *
   have h4:(i:Int)<a.l.length:=by omega
   have w2:=B5 (i:=i) (by omega)
   simp [Ax,tV,A5,Gz] at ih
   simp [Ax,tV,A5,Aa,Bf,h2,h3,e1,e1',c0,Gz,A0,A6,hlt,h4,e2,e2',vt,vs,w2,w1]
   refine ⟨(A6:Cm 1 (Ac tV (a::ins))),by omega,?_⟩
   rw [hK]
   simpa using ih
  ·by_cases c14:xk=14
   ·rw [if_pos c14] at hk
    rw [if_neg c0] at hi
    rw [if_neg c0,if_pos c14] at hR
    have hlt:k<st.l.length:=by omega
    have e2:=gE (f:=tK) 0 hlt
    have e2':=gE' (f:=tK) 0 hlt
    have ih:=qCr c hm st a ins ic il R ha hs h0 q (j+1) i (k+1) (out++[st.l.getD k 0]) (by omega) (by simp; omega) (by omega) (by omega) (by rw [← hR]; simp)
    have vs:=Pz (l:=out) (v:=st.l.getD k 0)
    generalize st.l.getD k 0=v at *
    have h4:(k:Int)<st.l.length:=by omega
    have w2:=B5 (i:=k) (by omega)
    simp [Ax,tV,A5,Gz] at ih
    simp [Ax,tV,A5,Aa,Bf,h2,h3,e1,e1',c14,Gz,A0,A6,hlt,h4,e2,e2',vt,vs,w2,w1]
    refine ⟨by omega,?_⟩
    rw [hK]
    simpa using ih
   ·rw [if_neg c14] at hk
    rw [if_neg c0] at hi
    rw [if_neg c0,if_neg c14] at hR
    have ih:=qCr c hm st a ins ic il R ha hs h0 q (j+1) i k out (by omega) ho (by omega) (by omega) hR
    simp [Ax,tV,A5,Gz] at ih
    simp [Ax,tV,A5,Aa,Bf,h2,h3,e1,e1',c0,c14,w1,Gz]
    rw [hK]
    simpa using ih
theorem qJR {Q:AX→St→Prop} (ins:List (Sl Int)) (ic:Option Nat) (il:Option Bool) (hl:ins.length≤1000) (hx:∀ x ∈ ins,x.l.length≤1000000) (R:List Int)
  (h0:Q (.exit 4) ⟨[(6,.lp 6 0 0),(12,.ls 72 0 R.length none),(88,.t (.sl (Ac tV ins) ic il)),(89,.t (tI ins.length)),(90,.t (tI ins.length)),(91,.t (tB false))],[(6,.bx [.t Ax,.t Ax]),(72,.sl 71 1 (Ap R))]⟩) :
  ∀ (k i:Nat) (out:List Int),k+i=ins.length→out.length≤1000000+i*1000000→out++(ins.drop i).flatMap (·.l)=R →
  run Tryz.prog Γ Kv Q ⟨[(6,.lp 6 0 0),(12,.ls 72 0 out.length none),(88,.t (.sl (Ac tV ins) ic il)),(89,.t (tI ins.length)),(90,.t (tI i))],[(6,.bx [.t Ax,.t Ax]),(72,.sl 71 1 (Ap out))]⟩
 | 0,i,out,h,ho,hR=>by
  refine Ss fun K hK=>?_
  have h2:i=ins.length:=by omega
  subst h2
  rw [List.drop_length] at hR
  simp only [List.flatMap_nil,List.append_nil] at hR
  subst hR
  simp [Ax] at h0
  simp [Ax]
  simpa using h0
 | k+1,i,out,h,ho,hR=>by
  refine Ss fun K hK=>?_
  have h2:i<ins.length:=by omega
  rw [List.drop_eq_getElem_cons h2] at hR
  simp only [List.flatMap_cons] at hR
  have e1:=gE (f:=tV) Sl.z h2
  have e1':=gE' (f:=tV) Sl.z h2
  rw [show ins.getD i Sl.z=ins[i] by simp [List.getD_eq_getElem?_getD,h2]] at e1 e1'
  have hx1:=hx _ (List.getElem_mem h2)
  generalize ins[i]=x at *
  have ih:=qJR ins ic il hl hx R h0 k (i+1) (out++x.l) (by omega) (by simp; omega) (by rw [← hR]; simp)
  have vs:Ap out++Ap x.l=Ap (out++x.l):=q6g
  have vt:(Ap out).take out.length=Ap out:=Cj
  have h3:(i:Int)<ins.length:=by omega
  have w1:=B5 (i:=i) (by omega)
  simp only [tV] at e1 e1'
  simp [Ax] at ih
  simp [Ax,A0,A6,h2,h3,e1,e1',vs,vt,w1]
  refine ⟨by omega,?_⟩
  rw [hK]
  simpa using ih
theorem qHZ (x:Sl Int) (n:Nat) (h:x.l.length=n):Ab Tryz.prog Γ 99 [tV x,.ip [tI n] 0] (tB false):=by
 refine Aq q49 rfl ?_
 simp [X3,tV,A0,h,X5]
theorem qFg (v:Int):A3 Tryz.prog Γ 102 [tK v] (tB (decide (3<v))):=by
 refine A7 q2K rfl ?_
 simp [Su,Sv]
theorem qHa (v:Int):A3 Tryz.prog Γ 104 [tK v] (tB (decide (2<v))):=by
 refine A7 q4B rfl ?_
 simp [X8,X9]
theorem qCA {l:List Int} {b:Int} (h:∀ v ∈ l,v≤b):l.any (fun v=>decide (b<v))=false:=by
 rw [List.any_eq_false]
 intro v hv
 have:=h v hv
 simp; omega
theorem qHb (x:Sl Int) (hl:x.l.length≤1000000) (hv:∀ v ∈ x.l,V4 v):A3 Tryz.prog Γ 100 [tV x] (tB false):=by
 refine A7 q4A rfl ?_
 have e:=E0 (Γ:=Γ) x.l x.cap x.nl 102 [] (fun v=>decide (3<v)) (fun v _=>qFg v) (by omega)
 rw [qCA (fun v h=>(hv v h).2)] at e
 simp [X6,tV]
 refine A1 e rfl ?_
 simp [X7]
def qHc (c:B0) (st:List Int) (ins:List (Sl Int)):List Int:=q9I (ins.headD ⟨[],none,none⟩).l st 0 0 c.nodes.l++(ins.drop 1).flatMap (·.l)
theorem q6M {c:B0}:(Bg c).length=q30 0 c.nodes.l:=qCq
theorem q6N {c:B0}:(Af c).length=q30 14 c.nodes.l:=qCq
set_option maxHeartbeats 2000000 in
theorem qCs (hΓ:GOk Γ) (c:B0) (hc:NOk c) (ho:c.outs.l.length≤16) (st:Sl Int) (hs:st.l.length=(Af c).length) (hs2:∀ v ∈ st.l,0≤v∧v≤2) (ins:Sl (Sl Int)) (h1:1≤ins.l.length) (h8:ins.l.length≤8) (hv:qBK c ins.l) :
  Ab Tryz.prog Γ 32 [.agg (tC c),tV st,tW ins] (.tup [.agg [.sl (Ap (qHc c st.l ins.l)) (some (qHc c st.l ins.l).length) none,Ax],tI 0]):=by
 refine Aq q6I rfl ?_
 have hil:=Ov c
 have hsl:=Di c
 have hn:=hc.n2
 obtain ⟨il,ic,inl⟩:=ins
 simp only at h1 h8 hv
 obtain ⟨a,rest,rfl⟩:∃ a rest,il=a::rest:=by cases il with | nil=>simp at h1 | cons a r=>exact ⟨a,r,rfl⟩
 have e1:=q7S hΓ c hc ho (a::rest).length h1 h8
 have e2:=V6 (Γ:=Γ) c hc.ok
 have e3:=Et (Γ:=Γ) c hc.ok
 have e4:=q4X (Γ:=Γ) (a::rest) ic inl 99 [.ip [tI (Bg c).length] 0] (fun x hx=>.inl (qHZ x _ (hv x hx).1)) (by omega)
 have e5:=q4X (Γ:=Γ) (a::rest) ic inl 100 [] (fun x hx=>.inr (qHb x (by rw [(hv x hx).1]; omega) (hv x hx).2)) (by omega)
 have e6:=E0 (Γ:=Γ) st.l st.cap st.nl 104 [] (fun v=>decide (2<v)) (fun v _=>qHa v) (by omega)
 rw [qCA (fun v h=>(hs2 v h).2)] at e6
 have ha:=hv a List.mem_cons_self
 have g1:=fun Q h0=>qCr (Γ:=Γ) (Q:=Q) c hn st a rest ic inl (q9I a.l st.l 0 0 c.nodes.l) (by rw [ha.1,q6M]) (by rw [hs,q6N]) h0 c.nodes.l.length 0 0 0 [] (by omega) rfl (by rw [ha.1,q6M]; simp) (by rw [hs,q6N]; simp) (by simp)
 have hp:(q9I a.l st.l 0 0 c.nodes.l).length≤1000000:=by rw [q7T,← q6M,← q6N]; omega
 have g3:=fun Q cc nn h0=>qJR (Γ:=Γ) (Q:=Q) rest cc nn (by simp at h8; omega) (fun x hx=>by rw [(hv x (List.mem_cons_of_mem _ hx)).1]; omega) (qHc c st.l (a::rest)) h0 rest.length 0 (q9I a.l st.l 0 0 c.nodes.l) (by omega) (by omega) (by simp [qHc])
 generalize qHc c st.l (a::rest)=R at *
 have hcl:=qAP (Γ:=Γ) (Ap R) none none A6
 rw [A0] at hcl
 have ht:(Ap R).take R.length=Ap R:=Cj
 simp [tC,A5,A8,Ad,B6] at e1 e2 e3
 simp [Ax,tV,A5,Cd,Gz] at g1
 simp [Ax,tV,Gz] at g3
 simp only [Gz] at e4 e5
 simp only [tV] at e4 e5
 have hrl:(Bg c).length≤1000:=by omega
 simp [q0c,tC,A5,A8,Ad,B6,tV,tW,Gz,A0]
 refine A9 e1 rfl ?_
 simp
 refine A9 e2 rfl ?_
 simp [St.freeze,B9.closed,Bl,frz1,frz0,Du,del,Ai]
 refine A9 e3 rfl ?_
 simp [A0,hs]
 refine A1 e4 rfl ?_
 simp
 refine A1 e5 rfl ?_
 simp
 refine A1 e6 rfl ?_
 simp [Aa]
 refine g1 _ (fun i k=>?_)
 simp [A0]
 refine ⟨(A6:Cm 1 (Ac tV (a::rest))),?_⟩
 refine g3 _ _ _ ?_
 simp [St.freeze,B9.closed,Bl,frz1,frz0,Du,del,Ai,ht]
 refine A9 hcl rfl ?_
 simp [q0d,Ax]
def unE (n:Nat) (c:B0) (S:T):List (Nat × AV):=[(1,.t (tI n)),(2,.t (.ip (tC c) 0)),(4,.lp 4 0 0),(7,.t (.ip [tI c.nodes.l.length] 0)),(8,.t S),(9,.lp 9 0 0),(10,.fn 68 [.lp 9 0 0]),(11,.t (.fn 69 [.ip [tI c.nodes.l.length] 0])),(12,.lb 38 n)]
def unH (k:Nat) (B:List AV):List (Nat × B9):=[(4,.bx [.t Ax,.t Ax,.t Ax,.t Ax,.t Ax]),(9,.bx [.ls 96009 0 k none,.ls 96014 0 k none,.t Ax,.t Ax]),(38,.bx B)]
def unG (ns:List Nd) (ms:List (List UInt8)):List (Nat × B9):=[(96009,.sl 45 4 (Ar Dn ns)),(96014,.sl 9 1 (Ac tS ms))]
def qEI (c:B0):Prop:=∀ x ∈ c.nodes.l,x.inn.l.length≤1000000∧∀ k ∈ x.inn.l,0≤k∧k≤1000000
theorem q6O {j:Nat}:Aw j ∘ AV.t=AV.t:=rfl
theorem qLK {j:Nat} {r:B9}:Bl j r ∘ AV.t=AV.t:=rfl
theorem qJS {φ:Nat→Option Nat}:Bd φ ∘ AV.t=AV.t:=rfl
def unB (F:List T) (x:AV) (k:Nat):List AV:=F.map .t++x::List.replicate k (.t (.sl [] (some 0) (some true)))
theorem qGb {F:List T} {x:AV} {k:Nat}:(unB F x k).length=F.length+(k+1):=by simp [unB]
theorem qAu {F:List T} {x:AV} {k f:Nat} (h:F.length=f):(unB F x k).drop f=x::List.replicate k (.t (.sl [] (some 0) (some true))):=by
 unfold unB; rw [List.drop_left' (by simpa using h)]
theorem qEJ {F:List T} {x:AV} {k f:Nat} (h:F.length=f):(unB F x k).take f=F.map .t:=by
 unfold unB; rw [List.take_left' (by simpa using h)]
theorem qCB {F:List T} {x:AV} {k f:Nat} (h:F.length=f):(unB F x k).drop (f+1)=List.replicate k (.t (.sl [] (some 0) (some true))):=by
 rw [← List.drop_drop,qAu h]; rfl
theorem qGc {F:List T} {x:AV} {k f:Nat} (h:F.length=f):(unB F x k)[f]? = some x:=by
 unfold unB; rw [List.getElem?_append_right (by simpa using Nat.le_of_eq h)]; simp [h]
theorem qGd {F:List T} {x y:AV} {k f:Nat} (h:F.length=f):(unB F x k).set f y=unB F y k:=by
 unfold unB; rw [List.set_append_right (h:=by simpa using Nat.le_of_eq h)]; simp [h]
theorem Ie {F:List T} {x:AV} {k j:Nat}:(unB F x k).map (Aw j)=unB F (Aw j x) k:=by
 unfold unB; simp [q6O]
theorem N1 {F:List T} {x:AV} {k j:Nat} {r:B9}:(unB F x k).map (Bl j r)=unB F (Bl j r x) k:=by
 unfold unB; simp [qLK,Bl,frz1,frz0]
theorem N2 {F:List T} {x:AV} {k:Nat} {φ:Nat→Option Nat}:(unB F x k).map (Bd φ)=unB F (Bd φ x) k:=by
 unfold unB; simp [qJS]
set_option maxHeartbeats 4000000 in
theorem qLL {Q:AX→St→Prop} (c:B0) (n f:Nat) (hf:f<n) (h8:n≤8) (hm:c.nodes.l.length≤16) (hi:qEI c) (S:T) (F:List T) (hF:F.length=f)
  (CS:List Int) (NS:List Nd) (MS:List (List UInt8))
  (h0:Q (.exit 2) ⟨unE n c S++[(13,.t (tI f)),(39,.t (tI n)),(40,.t (tI f)),(44,.t (A5 c.nodes)),(45,.t (tI c.nodes.l.length)),(46,.t (tI c.nodes.l.length)),(47,.t (tB false))],unH NS.length (unB F (.ls 89 0 c.nodes.l.length none) (n - f - 1))++[(89,.sl 3 1 (Av CS))]++unG NS MS⟩) :
  ∀ (k i:Nat) (cs:List Int) (ns:List Nd) (ms:List (List UInt8)),k+i=c.nodes.l.length→cs.length=i→ns.length=ms.length→ns.length=f*c.nodes.l.length+i →
  cs++(List.range' i k).map (fun j:Nat=>(f:Int)*c.nodes.l.length+(j:Int))=CS→ns++(c.nodes.l.drop i).map (unN c.nodes.l.length f)=NS→ms++(List.range' i k).map (nmU f)=MS →
  run Tryz.prog Γ M7 Q ⟨unE n c S++[(13,.t (tI f)),(39,.t (tI n)),(40,.t (tI f)),(44,.t (A5 c.nodes)),(45,.t (tI c.nodes.l.length)),(46,.t (tI i))],unH ns.length (unB F (.ls 89 0 i none) (n - f - 1))++[(89,.sl 3 1 (Av cs))]++unG ns ms⟩
 | 0,i,cs,ns,ms,hk,hc,hnm,hns,hC,hN,hM=>by
  refine Vh fun K hK=>?_
  have h2:i=c.nodes.l.length:=by omega
  subst h2
  rw [List.drop_length] at hN
  simp only [List.range'_zero,List.map_nil,List.append_nil] at hC hN hM
  subst hC
  subst hN
  subst hM
  simp [unE,unH,unG,Ax,tC,A5,A8,Ad,B6] at h0
  simp [unE,unH,unG,Ax,tC,A5,A8,Ad,B6]
  simpa using h0
 | k+1,i,cs,ns,ms,hk,hc,hnm,hns,hC,hN,hM=>by
  refine Vh fun K hK=>?_
  have h2:i<c.nodes.l.length:=by omega
  rw [List.drop_eq_getElem_cons h2] at hN
  rw [List.range'_succ] at hC hM
  simp only [List.map_cons] at hC hN hM
  have e1:(Ar Dn c.nodes.l)[i]?.getD []=Dn c.nodes.l[i]:=by simp [Ar,h2]
  have e1':∀ h,(Ar Dn c.nodes.l)[i]'h=Dn c.nodes.l[i]:=fun h=>by simp [Ar]
  obtain ⟨hx1,hx2⟩:=hi _ (List.getElem_mem h2)
  have hfm:f*c.nodes.l.length≤8*16:=Nat.mul_le_mul (by omega) hm
  have hcm:((f*c.nodes.l.length:Nat):Int)=(f:Int)*c.nodes.l.length:=by simp
  have ih:=qLL c n f hf h8 hm hi S F hF CS NS MS h0 k (i+1) (cs++[(f:Int)*c.nodes.l.length+(i:Int)]) (ns++[unN c.nodes.l.length f c.nodes.l[i]]) (ms++[nmU f i]) (by omega) (by simp [hc]) (by simp [hnm]) (by simp; omega) (by rw [← hC]; simp) (by rw [← hN]; simp) (by rw [← hM]; simp)
  have em:=q2O (Γ:=Γ) c.nodes.l.length f c.nodes.l[i].inn hx1 ⟨by rw [← hcm]; omega,by rw [← hcm]; omega⟩ hx2
  have en:=q8z (Γ:=Γ) f i (by omega) (by omega)
  have ea:=fun x=>qGa (Γ:=Γ) x (nmU f i) ns ms hnm (by omega) Ax Ax
  have w1:=B5 (i:=i) (by omega)
  have wm:IntKind.i64.wrap ((f:Int)*c.nodes.l.length)=(f:Int)*c.nodes.l.length:=by rw [← hcm]; exact A4 (by omega) (by omega)
  have wm2:IntKind.i64.wrap ((f:Int)*c.nodes.l.length+(i:Int))=(f:Int)*c.nodes.l.length+(i:Int):=by rw [← hcm]; exact A4 (by omega) (by omega)
  have h3:(i:Int)<c.nodes.l.length:=by omega
  have hfn:(f:Int)<n:=by omega
  have vs:=Be (f:=tI) (l:=cs) (x:=(f:Int)*c.nodes.l.length+(i:Int))
  have vt:(Av cs).take i=Av cs:=by rw [← hc]; exact Ag
  have hBl:∀ x:AV,(unB F x (n - f - 1)).length=n:=fun x=>by rw [qGb]; omega
  have d1:=fun x k=>qAu (x:=x) (k:=k) hF
  have d2:=fun x k=>qEJ (x:=x) (k:=k) hF
  have d3:=fun x k=>qCB (x:=x) (k:=k) hF
  have d4:=fun x k=>qGc (x:=x) (k:=k) hF
  have d5:=fun x y k=>qGd (x:=x) (y:=y) (k:=k) hF
  have hfold:∀ x:AV,F.map AV.t++x::List.replicate (n - f - 1) (AV.t (.sl [] (some 0) (some true)))=unB F x (n - f - 1):=fun x=>rfl
  generalize hr:n - f - 1=r at *
  generalize c.nodes.l[i]=x at *
  obtain ⟨xk,xin,xm,xb⟩:=x
  simp only at em ih e1 e1' hx1 hx2
  simp only [Dn] at e1 e1'
  simp only [B6] at e1 e1' em
  have q1:List.idxOf 96009 [9,141,96009,96014]=2:=by decide
  have q2:List.idxOf 96014 [9,141,96009,96014]=3:=by decide
  by_cases hk14:xk=14
  ·by_cases hf0:f=0
   ·have hun:unN c.nodes.l.length f ⟨xk,xin,xm,xb⟩=⟨0,⟨[],some 0,some true⟩,0,0⟩:=by unfold unN; rw [if_pos hk14,if_pos hf0]
    rw [hun] at ih
    have hfz:((f:Int)=0)=True:=eq_true (by omega)
    have hfz':(f=0)=True:=eq_true hf0
    clear hf0
    have ea':=ea ⟨0,⟨[],some 0,some true⟩,0,0⟩
    simp [Dn,B6,Ax,← hnm] at ea'
    simp [unE,unH,unG,Ax,tC,A5,A8,Ad,B6] at ih
    simp [unE,unH,unG,Ax,tC,A5,A8,Ad,B6,Aa,Bf,h2,h3,e1,e1',Ie,N1,N2]
    refine A9 em rfl ?_
    simp [hk14,hfz,hfz',d1,d2,d3,d4,d5,hBl,wm,wm2,vs,vt,Ie,N1,N2,hfold,hfn,hf,A0,Aa,hc]
    refine ⟨by omega,by omega,by omega,?_⟩
    refine M3 en rfl ?_
    simp [q1,q2]
    refine ⟨_,_,ea',?_⟩
    simp [Ie,N1,N2,q1,q2,hc,q15,w1]
    rw [hK]
    simpa using ih
   ·obtain ⟨f',rfl⟩:∃ f',f=f'+1:=⟨f - 1,by omega⟩
    have hfm':f'*c.nodes.l.length≤8*16:=Nat.mul_le_mul (by omega) hm
    have hcm':((f'*c.nodes.l.length:Nat):Int)=(f':Int)*c.nodes.l.length:=by simp
    have em2:=q2O (Γ:=Γ) c.nodes.l.length f' xin hx1 ⟨by rw [← hcm']; omega,by rw [← hcm']; omega⟩ hx2
    have hun:unN c.nodes.l.length (f'+1) ⟨xk,xin,xm,xb⟩=⟨3,mvS c.nodes.l.length f' xin,0,0⟩:=by
     unfold unN; rw [if_pos hk14,if_neg hf0,show (((f'+1:Nat):Int) - 1)=(f':Int) by omega]
    rw [hun] at ih
    have hw2:IntKind.i64.wrap (((f'+1:Nat):Int) - 1)=(f':Int):=by rw [show (((f'+1:Nat):Int) - 1)=(f':Int) by omega]; exact A4 (by omega) (by omega)
    have hz:((((f'+1:Nat):Int))=0)=False:=eq_false (by omega)
    generalize hff:f'+1=f at *
    have hz':(f=0)=False:=eq_false (by omega)
    simp only [B6] at em2
    have ea':=ea ⟨3,mvS c.nodes.l.length f' xin,0,0⟩
    simp [Dn,B6,Ax,← hnm] at ea'
    simp [unE,unH,unG,Ax,tC,A5,A8,Ad,B6] at ih
    simp [unE,unH,unG,Ax,tC,A5,A8,Ad,B6,Aa,Bf,h2,h3,e1,e1',Ie,N1,N2]
    refine A9 em rfl ?_
    simp [hk14,hz,hz',hw2,d1,d2,d3,d4,d5,hBl,wm,wm2,vs,vt,Ie,N1,N2,hfold,hfn,hf,A0,Aa,hc]
    refine A9 em2 rfl ?_
    simp [hk14,hz,hz',hw2,d1,d2,d3,d4,d5,hBl,wm,wm2,vs,vt,Ie,N1,N2,hfold,hfn,hf,A0,Aa,hc]
    refine ⟨by omega,by omega,by omega,?_⟩
    refine M3 en rfl ?_
    simp [q1,q2]
    refine ⟨_,_,ea',?_⟩
    simp [Ie,N1,N2,q1,q2,hc,q15,w1]
    rw [hK]
    simpa using ih
  ·have hun:unN c.nodes.l.length f ⟨xk,xin,xm,xb⟩=⟨xk,mvS c.nodes.l.length f xin,0,0⟩:=by unfold unN; rw [if_neg hk14]
   rw [hun] at ih
   have ea':=ea ⟨xk,mvS c.nodes.l.length f xin,0,0⟩
   simp [Dn,B6,Ax,← hnm] at ea'
   simp [unE,unH,unG,Ax,tC,A5,A8,Ad,B6] at ih
   simp [unE,unH,unG,Ax,tC,A5,A8,Ad,B6,Aa,Bf,h2,h3,e1,e1',Ie,N1,N2]
   refine A9 em rfl ?_
   simp [hk14,d1,d2,d3,d4,d5,hBl,wm,wm2,vs,vt,Ie,N1,N2,hfold,hfn,hf,A0,Aa,hc]
   refine ⟨by omega,by omega,by omega,?_⟩
   refine M3 en rfl ?_
   simp [q1,q2]
   refine ⟨_,_,ea',?_⟩
   simp [Ie,N1,N2,q1,q2,hc,q15,w1]
   rw [hK]
   simpa using ih
def frU (many f:Nat):List Int:=(List.range many).map fun j:Nat=>(f:Int)*many+(j:Int)
theorem qGe {many f:Nat}:(frU many f).length=many:=by simp [frU]
def frT (many f:Nat):T:=.sl (Av (frU many f)) (some many) none
def W3 (many n:Nat):List T:=(List.range n).map (frT many)
theorem qEK {many n:Nat}:(W3 many n).length=n:=by simp [W3]
theorem qHd {many n:Nat}:W3 many (n+1)=W3 many n++[frT many n]:=by simp [W3,List.range_succ]
def q31 (c:B0) (n:Nat):List Nd:=(List.range n).flatMap fun f=>c.nodes.l.map (unN c.nodes.l.length f)
def q6P (many n:Nat):List (List UInt8):=(List.range n).flatMap fun f=>(List.range many).map (nmU f)
theorem qCC {c:B0} {n:Nat}:q31 c (n+1)=q31 c n++c.nodes.l.map (unN c.nodes.l.length n):=by simp [q31,List.range_succ]
theorem qCD {many n:Nat}:q6P many (n+1)=q6P many n++(List.range many).map (nmU n):=by simp [q6P,List.range_succ]
theorem Rh {c:B0}:∀ {n:Nat},(q31 c n).length=n*c.nodes.l.length
 | 0=>by simp [q31]
 | n+1=>by rw [qCC,List.length_append,Rh (n:=n),List.length_map,Nat.succ_mul]
theorem q7U {many:Nat}:∀ {n:Nat},(q6P many n).length=n*many
 | 0=>by simp [q6P]
 | n+1=>by rw [qCD,List.length_append,q7U (n:=n),List.length_map,List.length_range,Nat.succ_mul]
theorem qJT {F:List T} {k:Nat}:unB F (.t (.sl [] (some 0) (some true))) k=F.map .t++List.replicate (k+1) (.t (.sl [] (some 0) (some true))):=by simp [unB,List.replicate_succ]
theorem qJU {F:List T} {t:T} {k:Nat}:unB F (.t t) k=(F++[t]).map .t++List.replicate k (.t (.sl [] (some 0) (some true))):=by simp [unB]
set_option maxHeartbeats 4000000 in
theorem qLM {Q:AX→St→Prop} (c:B0) (n:Nat) (h8:n≤8) (hm:c.nodes.l.length≤16) (hi:qEI c) (S:T)
  (h0:Q (.exit 0) ⟨unE n c S++[(39,.t (tI n)),(40,.t (tI n)),(41,.t (tB false))],unH (n*c.nodes.l.length) ((W3 c.nodes.l.length n).map .t)++unG (q31 c n) (q6P c.nodes.l.length n)⟩) :
  ∀ (k f:Nat),k+f=n →
  run Tryz.prog Γ M8 Q ⟨unE n c S++[(39,.t (tI n)),(40,.t (tI f))],unH (f*c.nodes.l.length) ((W3 c.nodes.l.length f).map .t++List.replicate k (.t (.sl [] (some 0) (some true))))++unG (q31 c f) (q6P c.nodes.l.length f)⟩
 | 0,f,hk=>by
  refine Vi fun K hK=>?_
  have h2:f=n:=by omega
  subst h2
  simp [unE,unH,unG,Ax,tC,A5,A8,Ad,B6] at h0
  simp [unE,unH,unG,Ax,tC,A5,A8,Ad,B6]
  simpa using h0
 | k+1,f,hk=>by
  refine Vi fun K hK=>?_
  have hf:f<n:=by omega
  have hfn:(f:Int)<n:=by omega
  have hF:(W3 c.nodes.l.length f).length=f:=qEK
  have hr:n - f - 1=k:=by omega
  have g:=fun Q h0=>qLL (Γ:=Γ) (Q:=Q) c n f hf h8 hm hi S (W3 c.nodes.l.length f) hF (frU c.nodes.l.length f) (q31 c (f+1)) (q6P c.nodes.l.length (f+1)) h0 c.nodes.l.length 0 [] (q31 c f) (q6P c.nodes.l.length f) (by omega) rfl (by rw [Rh,q7U]) (by rw [Rh]; rfl) (by simp [frU,List.range_eq_range']) (by rw [qCC]; simp) (by rw [qCD,List.range_eq_range'])
  have ih:=qLM c n h8 hm hi S h0 k (f+1) (by omega)
  rw [hr] at g
  rw [qHd] at ih
  have l1:(q31 c (f+1)).length=(f+1)*c.nodes.l.length:=Rh
  have l0:(q31 c f).length=f*c.nodes.l.length:=Rh
  have hcl:=q6j (Γ:=Γ) (Av (frU c.nodes.l.length f)) none none A6
  rw [A0,qGe] at hcl
  have ht:(Av (frU c.nodes.l.length f)).take c.nodes.l.length=Av (frU c.nodes.l.length f):=List.take_of_length_le (by rw [A0,qGe]; omega)
  have d1:=fun x k=>qAu (x:=x) (k:=k) hF
  have d2:=fun x k=>qEJ (x:=x) (k:=k) hF
  have d3:=fun x k=>qCB (x:=x) (k:=k) hF
  have d4:=fun x k=>qGc (x:=x) (k:=k) hF
  have d5:=fun x y k=>qGd (x:=x) (y:=y) (k:=k) hF
  have d6:∀ x k (h:f<(unB (W3 c.nodes.l.length f) x k).length),(unB (W3 c.nodes.l.length f) x k)[f]'h=x:=fun x k h=>by have:=d4 x k; rw [List.getElem?_eq_getElem h] at this; exact Option.some.inj this
  have hBl:∀ x:AV,(unB (W3 c.nodes.l.length f) x k).length=n:=fun x=>by rw [qGb,hF]; omega
  have w1:=B5 (i:=f) (by omega)
  rw [l1,l0] at g
  unfold frT at ih
  generalize frU c.nodes.l.length f=FR at *
  generalize W3 c.nodes.l.length f=F at *
  generalize q31 c (f+1)=NS at *
  generalize q6P c.nodes.l.length (f+1)=MS at *
  generalize q31 c f=ns at *
  generalize q6P c.nodes.l.length f=ms at *
  rw [← qJU] at ih
  rw [← qJT]
  have hfold:∀ x:AV,F.map AV.t++x::List.replicate k (AV.t (.sl [] (some 0) (some true)))=unB F x k:=fun x=>rfl
  simp [unE,unH,unG,Ax,tC,A5,A8,Ad,B6,Cd] at g
  simp [unE,unH,unG,Ax,tC,A5,A8,Ad,B6] at ih
  simp [unE,unH,unG,Ax,tC,A5,A8,Ad,B6,hfn,hf,d1,d2,d3,d4,d5,d6,hBl,Ie,N1,N2,hfold,Aa]
  refine g _ ?_
  simp [St.freeze,B9.closed,Bl,frz1,frz0,Du,del,Ai,ht,hfn,hf,d1,d2,d3,d4,d5,d6,hBl,Ie,N1,N2,hfold,Aa]
  refine ⟨by omega,?_⟩
  refine A9 hcl rfl ?_
  simp [hfn,hf,d1,d2,d3,d4,d5,d6,hBl,Ie,N1,N2,hfold,Aa,w1]
  refine ⟨by omega,?_⟩
  rw [hK]
  simpa using ih
def qCE (c:B0) (n:Nat) (i:Nat):Nd:=⟨3,mvS c.nodes.l.length ((n:Int) - 1) (c.nodes.l.getD i ⟨0,⟨[],none,none⟩,0,0⟩).inn,0,0⟩
set_option maxHeartbeats 4000000 in
theorem qLN {Q:AX→St→Prop} (c:B0) (n:Nat) (h1:1≤n) (h8:n≤8) (hm:c.nodes.l.length≤16) (hi:qEI c) (L:List Nat) (cap:Option Nat) (nl:Option Bool) (hL:∀ i ∈ L,i<c.nodes.l.length) (hLl:L.length≤16) (F:List T)
  (NS:List Nd) (MS:List (List UInt8))
  (h0:Q (.exit 4) ⟨unE n c (.sl (Av (L.map fun i:Nat=>(i:Int))) cap nl)++[(107,.t (.sl (Av (L.map fun i:Nat=>(i:Int))) cap nl)),(108,.t (tI L.length)),(109,.t (tI L.length)),(110,.t (tB false))],unH NS.length (F.map .t)++unG NS MS⟩) :
  ∀ (k j:Nat) (ns:List Nd) (ms:List (List UInt8)),k+j=L.length→ns.length=ms.length→ns.length≤1000+j →
  ns++(L.drop j).map (qCE c n)=NS→ms++(L.drop j).map (nmU n)=MS →
  run Tryz.prog Γ M9 Q ⟨unE n c (.sl (Av (L.map fun i:Nat=>(i:Int))) cap nl)++[(107,.t (.sl (Av (L.map fun i:Nat=>(i:Int))) cap nl)),(108,.t (tI L.length)),(109,.t (tI j))],unH ns.length (F.map .t)++unG ns ms⟩
 | 0,j,ns,ms,hk,hnm,hns,hN,hM=>by
  refine Vj fun K hK=>?_
  have h2:j=L.length:=by omega
  subst h2
  rw [List.drop_length] at hN hM
  simp only [List.map_nil,List.append_nil] at hN hM
  subst hN
  subst hM
  simp [unE,unH,unG,Ax,tC,A5,A8,Ad,B6] at h0
  simp [unE,unH,unG,Ax,tC,A5,A8,Ad,B6]
  simpa using h0
 | k+1,j,ns,ms,hk,hnm,hns,hN,hM=>by
  refine Vj fun K hK=>?_
  have h2:j<L.length:=by omega
  rw [List.drop_eq_getElem_cons h2] at hN hM
  simp only [List.map_cons] at hN hM
  have h2':j<(L.map fun i:Nat=>(i:Int)).length:=by simpa using h2
  have e2:=gE (f:=tI) 0 h2'
  have e2':=gE' (f:=tI) 0 h2'
  rw [show (L.map fun i:Nat=>(i:Int)).getD j 0=(L[j]:Int) by simp [List.getD_eq_getElem?_getD,h2]] at e2 e2'
  have hlt:=hL _ (List.getElem_mem h2)
  generalize L[j]=i at *
  have e1:(Ar Dn c.nodes.l)[i]?.getD []=Dn c.nodes.l[i]:=by simp [Ar,hlt]
  have e1':∀ h,(Ar Dn c.nodes.l)[i]'h=Dn c.nodes.l[i]:=fun h=>by simp [Ar]
  obtain ⟨hx1,hx2⟩:=hi _ (List.getElem_mem hlt)
  obtain ⟨m,rfl⟩:∃ m,n=m+1:=⟨n - 1,by omega⟩
  have hcc:(((m+1:Nat):Int) - 1)=(m:Int):=by omega
  have hfm:m*c.nodes.l.length≤8*16:=Nat.mul_le_mul (by omega) hm
  have hcm:((m*c.nodes.l.length:Nat):Int)=(m:Int)*c.nodes.l.length:=by simp
  have ih:=qLN c (m+1) h1 h8 hm hi L cap nl hL hLl F NS MS h0 k (j+1) (ns++[qCE c (m+1) i]) (ms++[nmU (m+1) i]) (by omega) (by simp [hnm]) (by simp; omega) (by rw [← hN]; simp) (by rw [← hM]; simp)
  have em:=q2O (Γ:=Γ) c.nodes.l.length m c.nodes.l[i].inn hx1 ⟨by rw [← hcm]; omega,by rw [← hcm]; omega⟩ hx2
  have en:=q8z (Γ:=Γ) (m+1) i (by omega) (by omega)
  have hlU:qCE c (m+1) i=⟨3,mvS c.nodes.l.length m c.nodes.l[i].inn,0,0⟩:=by
   unfold qCE; rw [hcc,show c.nodes.l.getD i ⟨0,⟨[],none,none⟩,0,0⟩=c.nodes.l[i] by simp [List.getD_eq_getElem?_getD,hlt]]
  have ea:=qGa (Γ:=Γ) (qCE c (m+1) i) (nmU (m+1) i) ns ms hnm (by omega) Ax Ax
  rw [hlU] at ih ea
  have w1:=B5 (i:=j) (by omega)
  have w2:IntKind.i64.wrap (((m+1:Nat):Int) - 1)=(m:Int):=by rw [hcc]; exact A4 (by omega) (by omega)
  have h3:(j:Int)<L.length:=by omega
  have h4:(i:Int)<c.nodes.l.length:=by omega
  generalize c.nodes.l[i]=x at *
  obtain ⟨xk,xin,xm,xb⟩:=x
  simp only at em ih e1 e1' hx1 hx2 ea
  simp only [Dn] at e1 e1'
  simp only [B6] at e1 e1' em
  have q1:List.idxOf 96009 [9,141,96009,96014]=2:=by decide
  have q2:List.idxOf 96014 [9,141,96009,96014]=3:=by decide
  simp [Dn,B6,Ax,← hnm] at ea
  simp [unE,unH,unG,Ax,tC,A5,A8,Ad,B6] at ih
  simp at w2 en
  simp [unE,unH,unG,Ax,tC,A5,A8,Ad,B6,Aa,A0,A6,Bf,h2,h3,hlt,h4,e1,e1',e2,e2',w2]
  refine A9 em rfl ?_
  simp
  refine A1 en rfl ?_
  simp [q1,q2]
  refine ⟨_,_,ea,?_⟩
  simp [q1,q2,q15,w1,q6O,qJS]
  rw [hK]
  simpa [q6O,qJS] using ih
def qFh (many n f:Nat):Nat→List Nat→List Int
 | _,[]=>[]
 | k,i::is=>(if f+1=n then (n:Int)*many+(k:Int) else ((f:Int)+1)*many+(i:Int))::qFh many n f (k+1) is
theorem qEL {many n f:Nat}:∀ {L:List Nat} {k:Nat},(qFh many n f k L).length=L.length
 | [],_=>rfl
 | i::is,k=>by simp [qFh,qEL (L:=is)]
def qGf (c:B0) (n:Nat) (L:List Nat) (f:Nat):List Int:=mvL c.nodes.l.length f c.outs.l++qFh c.nodes.l.length n f 0 L
def Ri (c:B0) (n:Nat) (L:List Nat) (f:Nat):List Int:=(List.range f).flatMap (qGf c n L)
theorem qAv {c:B0} {n:Nat} {L:List Nat} {f:Nat}:Ri c n L (f+1)=Ri c n L f++qGf c n L f:=by simp [Ri,List.range_succ]
theorem qCF {c:B0} {n:Nat} {L:List Nat}:∀ {f:Nat},(Ri c n L f).length=f*(c.outs.l.length+L.length)
 | 0=>by simp [Ri]
 | f+1=>by rw [qAv,List.length_append,qCF (f:=f),Nat.succ_mul]; simp [qGf,qCp,qEL]
def Vn (L:List Nat):List Int:=L.map fun i:Nat=>(i:Int)
theorem q4a {L:List Nat}:(Vn L).length=L.length:=by simp [Vn]
def q4s (n:Nat) (c:B0) (S:T):List (Nat × AV):=[(1,.t (tI n)),(2,.t (.ip (tC c) 0)),(4,.lp 4 0 0),(7,.t (.ip [tI c.nodes.l.length] 0)),(8,.t S),(9,.lp 9 0 0),(11,.t (.fn 69 [.ip [tI c.nodes.l.length] 0])),(12,.lb 38 n)]
def q4t (k m:Nat) (F:List T) (OS:List Int) (NS:List Nd) (MS:List (List UInt8)):List (Nat × B9):=[(4,.bx [.t Ax,.t Ax,.t Ax,.t Ax,.t Ax]),(9,.bx [.ls 96009 0 k none,.ls 96014 0 k none,.t Ax,.ls 141 0 m none]),(38,.bx (F.map .t)),(141,.sl 3 1 (Av OS)),(96009,.sl 45 4 (Ar Dn NS)),(96014,.sl 9 1 (Ac tS MS))]
set_option maxHeartbeats 4000000 in
theorem qJV {Q:AX→St→Prop} (c:B0) (n f:Nat) (hf:f<n) (h8:n≤8) (hm:c.nodes.l.length≤16) (L:List Nat) (cap:Option Nat) (nl:Option Bool) (S:T) (hL:∀ i ∈ L,i<16) (hLl:L.length≤16) (F:List T) (kk:Nat) (NS:List Nd) (MS:List (List UInt8)) (OS:List Int)
  (h0:Q (.exit 8) ⟨q4s n c S++[(19,.t (tI f)),(130,.t (tI n)),(131,.t (tI f)),(143,.t (.sl (Av (Vn L)) cap nl)),(144,.t (tI L.length)),(145,.t (tI L.length)),(146,.t (tB false))],q4t kk OS.length F OS NS MS⟩) :
  ∀ (q j:Nat) (os:List Int),q+j=L.length→os.length≤100000+j→os++qFh c.nodes.l.length n f j (L.drop j)=OS →
  run Tryz.prog Γ Mc Q ⟨q4s n c S++[(19,.t (tI f)),(130,.t (tI n)),(131,.t (tI f)),(143,.t (.sl (Av (Vn L)) cap nl)),(144,.t (tI L.length)),(145,.t (tI j))],q4t kk os.length F os NS MS⟩
 | 0,j,os,hk,ho,hO=>by
  refine Vk fun K hK=>?_
  have h2:j=L.length:=by omega
  subst h2
  rw [List.drop_length] at hO
  simp only [qFh,List.append_nil] at hO
  subst hO
  simp [q4s,q4t,Ax,tC,A5,A8,Ad,B6] at h0
  simp [q4s,q4t,Ax,tC,A5,A8,Ad,B6]
  simpa using h0
 | q+1,j,os,hk,ho,hO=>by
  refine Vk fun K hK=>?_
  have h2:j<L.length:=by omega
  rw [List.drop_eq_getElem_cons h2] at hO
  simp only [qFh] at hO
  have h2':j<(Vn L).length:=by rw [q4a]; exact h2
  have e2:=gE (f:=tI) 0 h2'
  have e2':=gE' (f:=tI) 0 h2'
  rw [show (Vn L).getD j 0=(L[j]:Int) by simp [Vn,List.getD_eq_getElem?_getD,h2]] at e2 e2'
  have hlt:=hL _ (List.getElem_mem h2)
  generalize L[j]=i at *
  have hfm:(f+1)*c.nodes.l.length≤8*16:=Nat.mul_le_mul (by omega) hm
  have hnm:n*c.nodes.l.length≤8*16:=Nat.mul_le_mul (by omega) hm
  have c1:(((f+1)*c.nodes.l.length:Nat):Int)=((f:Int)+1)*c.nodes.l.length:=by simp
  have c2:((n*c.nodes.l.length:Nat):Int)=(n:Int)*c.nodes.l.length:=by simp
  have w1:=B5 (i:=j) (by omega)
  have wf:=B5 (i:=f) (by omega)
  have w2:IntKind.i64.wrap (((f:Int)+1)*c.nodes.l.length)=((f:Int)+1)*c.nodes.l.length:=by rw [← c1]; exact A4 (by omega) (by omega)
  have w3:IntKind.i64.wrap (((f:Int)+1)*c.nodes.l.length+(i:Int))=((f:Int)+1)*c.nodes.l.length+(i:Int):=by rw [← c1]; exact A4 (by omega) (by omega)
  have w4:IntKind.i64.wrap ((n:Int) - 1)=(n:Int) - 1:=A4 (by omega) (by omega)
  have w5:IntKind.i64.wrap ((n:Int)*c.nodes.l.length)=(n:Int)*c.nodes.l.length:=by rw [← c2]; exact A4 (by omega) (by omega)
  have w6:IntKind.i64.wrap ((n:Int)*c.nodes.l.length+(j:Int))=(n:Int)*c.nodes.l.length+(j:Int):=by rw [← c2]; exact A4 (by omega) (by omega)
  have h3:(j:Int)<L.length:=by omega
  have hl1:(Vn L).length=L.length:=q4a
  have vt:(Av os).take os.length=Av os:=Ag
  by_cases hfn:f+1=n
  ·rw [if_pos hfn] at hO
   have ih:=qJV c n f hf h8 hm L cap nl S hL hLl F kk NS MS OS h0 q (j+1) (os++[(n:Int)*c.nodes.l.length+(j:Int)]) (by omega) (by simp; omega) (by rw [← hO]; simp)
   have vs:=Be (f:=tI) (l:=os) (x:=(n:Int)*c.nodes.l.length+(j:Int))
   have hz:((f:Int)=(n:Int) - 1)=True:=eq_true (by omega)
   clear hfn
   simp [q4s,q4t,Ax,tC,A5,A8,Ad,B6] at ih
   simp [q4s,q4t,Ax,tC,A5,A8,Ad,B6,A0,A6,hl1,h2,h3,e2,e2',w1,wf,w2,w3,w4,w5,w6,hz,vt,vs]
   refine ⟨by omega,?_⟩
   rw [hK]
   simpa [q6O] using ih
  ·rw [if_neg hfn] at hO
   have ih:=qJV c n f hf h8 hm L cap nl S hL hLl F kk NS MS OS h0 q (j+1) (os++[((f:Int)+1)*c.nodes.l.length+(i:Int)]) (by omega) (by simp; omega) (by rw [← hO]; simp)
   have vs:=Be (f:=tI) (l:=os) (x:=((f:Int)+1)*c.nodes.l.length+(i:Int))
   have hz:((f:Int)=(n:Int) - 1)=False:=eq_false (by omega)
   clear hfn
   simp [q4s,q4t,Ax,tC,A5,A8,Ad,B6] at ih
   simp [q4s,q4t,Ax,tC,A5,A8,Ad,B6,A0,A6,hl1,h2,h3,e2,e2',w1,wf,w2,w3,w4,w5,w6,hz,vt,vs]
   refine ⟨by omega,?_⟩
   rw [hK]
   simpa [q6O] using ih
set_option maxHeartbeats 4000000 in
theorem qLO {Q:AX→St→Prop} (c:B0) (n:Nat) (h8:n≤8) (hm:c.nodes.l.length≤16) (hO1:c.outs.l.length≤1000) (hO2:∀ k ∈ c.outs.l,0≤k∧k≤1000000) (L:List Nat) (cap:Option Nat) (nl:Option Bool) (hL:∀ i ∈ L,i<16) (hLl:L.length≤16) (F:List T) (kk:Nat) (NS:List Nd) (MS:List (List UInt8))
  (h0:Q (.exit 6) ⟨q4s n c (.sl (Av (Vn L)) cap nl)++[(130,.t (tI n)),(131,.t (tI n)),(132,.t (tB false))],q4t kk (Ri c n L n).length F (Ri c n L n) NS MS⟩) :
  ∀ (q f:Nat),q+f=n →
  run Tryz.prog Γ Md Q ⟨q4s n c (.sl (Av (Vn L)) cap nl)++[(130,.t (tI n)),(131,.t (tI f))],q4t kk (Ri c n L f).length F (Ri c n L f) NS MS⟩
 | 0,f,hk=>by
  refine Vl fun K hK=>?_
  have h2:f=n:=by omega
  subst h2
  simp [q4s,q4t,Ax,tC,A5,A8,Ad,B6] at h0
  simp [q4s,q4t,Ax,tC,A5,A8,Ad,B6]
  simpa using h0
 | q+1,f,hk=>by
  refine Vl fun K hK=>?_
  have hf:f<n:=by omega
  have hfn:(f:Int)<n:=by omega
  have hfm:f*c.nodes.l.length≤8*16:=Nat.mul_le_mul (by omega) hm
  have hcm:((f*c.nodes.l.length:Nat):Int)=(f:Int)*c.nodes.l.length:=by simp
  have em:=q2O (Γ:=Γ) c.nodes.l.length f c.outs (by omega) ⟨by rw [← hcm]; omega,by rw [← hcm]; omega⟩ hO2
  have hol:(Ri c n L f).length≤8*1016:=by rw [qCF]; exact Nat.mul_le_mul (by omega) (by omega)
  have hml:(mvL c.nodes.l.length f c.outs.l).length≤1000:=by rw [qCp]; exact hO1
  have g:=fun Q h0=>qJV (Γ:=Γ) (Q:=Q) c n f hf h8 hm L cap nl (.sl (Av (Vn L)) cap nl) hL hLl F kk NS MS (Ri c n L (f+1)) h0 L.length 0 (Ri c n L f++mvL c.nodes.l.length f c.outs.l) (by omega) (by simp; omega) (by rw [qAv]; simp [qGf])
  have ih:=qLO c n h8 hm hO1 hO2 L cap nl hL hLl F kk NS MS h0 q (f+1) (by omega)
  have w1:=B5 (i:=f) (by omega)
  have vs:Av (Ri c n L f)++Av (mvL c.nodes.l.length f c.outs.l)=Av (Ri c n L f++mvL c.nodes.l.length f c.outs.l):=q6g
  unfold mvS at em
  generalize Ri c n L (f+1)=O2 at *
  generalize Ri c n L f=O1 at *
  generalize mvL c.nodes.l.length f c.outs.l=M at *
  have vt:(Av O1).take O1.length=Av O1:=Ag
  have hl1:(Vn L).length=L.length:=q4a
  simp [B6] at em
  simp [q4s,q4t,Ax,tC,A5,A8,Ad,B6] at g
  simp [q4s,q4t,Ax,tC,A5,A8,Ad,B6] at ih
  simp [q4s,q4t,Ax,tC,A5,A8,Ad,B6,hfn,hf,A0,A6]
  refine A9 em rfl ?_
  simp [hfn,hf,A0,A6,vt,vs,hl1]
  refine ⟨by omega,?_⟩
  refine g _ ?_
  simp [w1]
  rw [hK]
  simpa using ih
theorem qKd {hp:List (Nat × B9)} {n:Nat}:Ai hp (n+1) ∘ AV.t=some:=rfl
theorem qCG {α:Type}:∀ {l:List α},Ah (l.map some)=some l
 | []=>rfl
 | a::l=>by simp [Ah,qCG (l:=l)]
def stN (c:B0):List Nat:=(Af c).map Int.toNat
theorem qMa {c:B0} (h:∀ x ∈ Af c,0≤x∧x<c.nodes.l.length):Vn (stN c)=Af c:=by
 unfold Vn stN
 rw [List.map_map]
 conv=>rhs; rw [← List.map_id (Af c)]
 refine List.map_congr_left fun x hx=>?_
 have:=h x hx
 simp; omega
theorem qCt {c:B0}:(stN c).length=(Af c).length:=by simp [stN]
theorem qMb {c:B0} (h:∀ x ∈ Af c,0≤x∧x<c.nodes.l.length):∀ i ∈ stN c,i<c.nodes.l.length:=fun i hi=>by
 obtain ⟨x,hx,rfl⟩:=List.mem_map.1 hi
 have:=h x hx
 omega
def q8K (c:B0) (n:Nat):List Nd:=q31 c n++(stN c).map (qCE c n)
def q8L (c:B0) (n:Nat):List (List UInt8):=q6P c.nodes.l.length n++(stN c).map (nmU n)
def q7V (c:B0) (n:Nat):List Int:=Ri c n (stN c) n
theorem qJW {c:B0} {n:Nat}:(q8K c n).length=n*c.nodes.l.length+(Af c).length:=by simp [q8K,Rh,qCt]
theorem qJX {c:B0} {n:Nat}:(q8L c n).length=n*c.nodes.l.length+(Af c).length:=by simp [q8L,q7U,qCt]
def tFr (c:B0) (n:Nat):List T:=[.sl (Ar Dn (q8K c n)) (some (q8K c n).length) none,.sl (Ac tS (q8L c n)) (some (q8L c n).length) none,Ax,.sl (Av (q7V c n)) (some (q7V c n).length) none,.sl ((W3 c.nodes.l.length n).map fun t=>[t]) (some n) none]
set_option maxHeartbeats 4000000 in
theorem qEM (hΓ:GOk Γ) (c:B0) (hc:NOk c) (hi:qEI c) (ho:c.outs.l.length≤16) (hO2:∀ k ∈ c.outs.l,0≤k∧k≤1000000) (hs:∀ x ∈ Af c,0≤x∧x<c.nodes.l.length) (n:Nat) (h1:1≤n) (h8:n≤8) :
  Ab Tryz.prog Γ 17 [.agg (tC c),tI n] (.tup [.agg (tFr c n),tI 0]):=by
 refine Aq q7M rfl ?_
 have hsl:=Di c
 have hm:=hc.n2
 have e1:=q7S hΓ c hc ho n h1 h8
 have e2:=Et (Γ:=Γ) c hc.ok
 have hsN:=qMa hs
 have hL:=qMb hs
 have hLl:(stN c).length≤16:=by rw [qCt]; omega
 have hnl:n*c.nodes.l.length≤8*16:=Nat.mul_le_mul h8 hm
 have g3:=fun Q S h0=>qLM (Γ:=Γ) (Q:=Q) c n h8 hm hi S h0 n 0 (by omega)
 have g5:=fun Q cap nl h0=>qLN (Γ:=Γ) (Q:=Q) c n h1 h8 hm hi (stN c) cap nl hL hLl (W3 c.nodes.l.length n) (q8K c n) (q8L c n) h0 (stN c).length 0 (q31 c n) (q6P c.nodes.l.length n) (by omega) (by rw [Rh,q7U]) (by rw [Rh]; omega) (by simp [q8K]) (by simp [q8L])
 have g9:=fun Q cap nl kk h0=>qLO (Γ:=Γ) (Q:=Q) c n h8 hm (by omega) hO2 (stN c) cap nl (fun i hi=>by have:=hL i hi; omega) hLl (W3 c.nodes.l.length n) kk (q8K c n) (q8L c n) h0 n 0 (by omega)
 have lF:(W3 c.nodes.l.length n).length=n:=qEK
 have lN:(q31 c n).length=n*c.nodes.l.length:=Rh
 have lNX:=qJW (c:=c) (n:=n)
 have lMX:=qJX (c:=c) (n:=n)
 have k1:=qHQ (Γ:=Γ) (Ar Dn (q8K c n)) none none Bf
 have k2:=qE0 (Γ:=Γ) (Ac tS (q8L c n)) none none A6
 have k3:=q6j (Γ:=Γ) (Av (q7V c n)) none none A6
 rw [Aa] at k1
 rw [A0] at k2 k3
 rw [← hsN] at e2
 unfold tFr
 have z0:q31 c 0=[]:=rfl
 have z1:q6P c.nodes.l.length 0=[]:=rfl
 have z2:W3 c.nodes.l.length 0=[]:=rfl
 have z3:Ri c n (stN c) 0=[]:=rfl
 have fo:Ri c n (stN c) n=q7V c n:=rfl
 rw [fo,z3] at g9
 rw [z0,z1,z2] at g3
 rw [lN] at g5
 have hce:(List.map (fun i:Nat=>(i:Int)) (stN c))=Vn (stN c):=rfl
 rw [hce] at g5
 have ht1:(Ar Dn (q8K c n)).take (n*c.nodes.l.length+(Af c).length)=Ar Dn (q8K c n):=by rw [← lNX]; exact qB2
 have ht2:(Ac tS (q8L c n)).take (n*c.nodes.l.length+(Af c).length)=Ac tS (q8L c n):=by rw [← lMX]; exact Ag
 have ht3:(Av (q7V c n)).take (q7V c n).length=Av (q7V c n):=Ag
 rw [lNX] at g5
 have lXX:(q8K c n).length=(q8L c n).length:=by rw [lNX,lMX]
 have hSl:(Vn (stN c)).length=(stN c).length:=q4a
 generalize q8K c n=NX at *
 generalize q8L c n=MX at *
 generalize q7V c n=OX at *
 generalize q31 c n=N0 at *
 generalize q6P c.nodes.l.length n=M0 at *
 generalize W3 c.nodes.l.length n=F at *
 generalize Vn (stN c)=SL at *
 simp [tC,A5,A8,Ad,B6] at e1 e2
 simp [unE,unH,unG,Ax,tC,A5,A8,Ad,B6,Cd,qC9] at g3
 simp [unE,unH,unG,Ax,tC,A5,A8,Ad,B6] at g5
 simp [q4s,q4t,Ax,tC,A5,A8,Ad,B6,Cd] at g9
 simp [q1g,tC,A5,A8,Ad,B6]
 refine A9 e1 rfl ?_
 simp
 refine Dt e2 rfl ?_
 simp [Aa,St.freeze,B9.closed,Bl,frz1,frz0,Du,del,Ai]
 refine ⟨by omega,?_⟩
 refine g3 _ _ ?_
 simp [A0,hSl]
 refine g5 _ _ _ ?_
 simp
 refine g9 _ _ _ _ ?_
 simp [St.freeze,B9.closed,Bl,frz1,frz0,Du,del,Ai,ht1,ht2,ht3,q6O,qLK,Aa,A0]
 refine Dt k1 rfl ?_
 simp
 refine Dt k2 rfl ?_
 simp
 refine Dt k3 rfl ?_
 have hF2:∀ hp:List (Nat × B9),Ah (F.map (Ai hp 2 ∘ Aw 9 ∘ AV.t))=some F:=fun hp=>by
  rw [q6O,qKd]; exact qCG
 simp [q1h,lF,Ax,hF2,Ah]
theorem qLP:NOk (Ul 9):=⟨qFe 9 (by omega),by decide +kernel,rfl,by decide +kernel,by decide,by decide,fun i hi=>by
 have:i<3:=hi
 match i,this with
 | 0,_ | 1,_ | 2,_=>decide +kernel⟩
theorem qKe:qEI (Ul 9):=by
 intro x hx; simp [Ul] at hx; rcases hx with rfl | rfl | rfl <;> simp
def qCH:List Nd:=[⟨0,⟨[],some 0,none⟩,0,0⟩,⟨0,⟨[],some 0,some true⟩,0,0⟩,⟨9,⟨[0,1],some 2,none⟩,0,0⟩,⟨0,⟨[],some 0,none⟩,0,0⟩,⟨3,⟨[2],some 1,none⟩,0,0⟩,⟨9,⟨[3,4],some 2,none⟩,0,0⟩,⟨3,⟨[5],some 1,none⟩,0,0⟩]
def qCI:List (List UInt8):=[[48,46,48],[48,46,49],[48,46,50],[49,46,48],[49,46,49],[49,46,50],[50,46,49]]
theorem qJY:q8K (Ul 9) 2=qCH:=by rfl
theorem qJZ:q8L (Ul 9) 2=qCI:=by decide +kernel
theorem qJa:q7V (Ul 9) 2=[2,4,5,6]:=by decide +kernel
theorem qMc:∀ x ∈ Af (Ul 9),0≤x∧x<(Ul 9).nodes.l.length:=by
 have e:Af (Ul 9)=[1]:=by decide +kernel
 intro x hx
 rw [e] at hx
 simp at hx
 subst hx
 decide
theorem qKf (hΓ:GOk Γ):Ab Tryz.prog Γ 17 [.agg (tC (Ul 9)),tI 2] (.tup [.agg [.sl (Ar Dn qCH) (some 7) none,.sl (Ac tS qCI) (some 7) none,Ax,.sl (Av [2,4,5,6]) (some 4) none,.sl ((W3 3 2).map fun t=>[t]) (some 2) none],tI 0]):=by
 have h:=qEM hΓ (Ul 9) qLP qKe (by decide) (by intro k hk; simp [Ul] at hk; subst hk; omega) qMc 2 (by omega) (by omega)
 unfold tFr at h
 rw [qJY,qJZ,qJa] at h
 exact h
theorem qKg (hΓ:GOk Γ):Ab Tryz.prog Γ 32 [.agg (tC (Ul 9)),lvZ,tW ⟨[⟨[1],some 1,some false⟩,⟨[1],some 1,some false⟩],some 2,some false⟩] (.tup [.agg [.sl (Ap [1,0,1]) (some 3) none,Ax],tI 0]):=by
 have h:=qCs hΓ (Ul 9) qLP (by decide) ⟨[0],some 1,some false⟩ (by decide +kernel) (by simp) ⟨[⟨[1],some 1,some false⟩,⟨[1],some 1,some false⟩],some 2,some false⟩ (by decide) (by decide) (qCo 9 _ (by simp) (by decide +kernel))
 have e:qHc (Ul 9) [0] [⟨[1],some 1,some false⟩,⟨[1],some 1,some false⟩]=[1,0,1]:=by decide +kernel
 simp only at h
 rw [e] at h
 exact h
def qHe (vN v1 v2 v3:Value):T:=.agg [.pin (.sl (q4H 9) none none) vN,.pin qEF v1,.pin qEG v2,.pin qEH v3]
theorem q7W {vN v1 v2 v3:Value}:Imp (qHe vN v1 v2 v3) (.agg (tC (Ul 9))):=Imp.agg (.cons (.pin _ _) (.cons (.pin _ _) (.cons (.pin _ _) (.cons (.pin _ _) .nil)))) rfl
theorem qMd (hΓ:GOk Γ) (vN v1 v2 v3 vz:Value):Ab Tryz.prog Γ 24 [qHe vN v1 v2 v3,.agg [.pin lvZ vz,.sl [] (some 0) (some true),.sl [] (some 0) (some true)],.sl [[lvO],[lvO],[.pin lvZ vz]] (some 3) (some false)]
  (.tup [.sl (Ar Q3 [([1],[1]),([0],[0]),([0],[0])]) (some 3) none,.agg (B7 (seqS (Ul 9) (Lp q6L) [[1],[1],[0]])),tI 0]):=by
 refine (qKb hΓ).imp (.cons q7W (.cons (Imp.agg (.cons (.pin _ _) (.cons (.refl _) (.cons (.refl _) .nil))) rfl) (.cons (Imp.sl (.cons (.refl _) (.cons (.refl _) (.cons (.cons (.pin _ _) .nil) .nil))) ?_) .nil)))
 intro e he
 simp [Ac] at he
 rcases he with rfl | rfl <;> rfl
theorem qMe (hΓ:GOk Γ) (vN v1 v2 v3:Value):Ab Tryz.prog Γ 17 [qHe vN v1 v2 v3,tI 2] (.tup [.agg [.sl (Ar Dn qCH) (some 7) none,.sl (Ac tS qCI) (some 7) none,Ax,.sl (Av [2,4,5,6]) (some 4) none,.sl ((W3 3 2).map fun t=>[t]) (some 2) none],tI 0]) :=
 (qKf hΓ).imp (.cons q7W (.cons (.refl _) .nil))
theorem qMf (hΓ:GOk Γ) (vN v1 v2 v3 vz:Value):Ab Tryz.prog Γ 32 [qHe vN v1 v2 v3,.pin lvZ vz,.sl [[lvO],[lvO]] (some 2) (some false)] (.tup [.agg [.sl (Ap [1,0,1]) (some 3) none,Ax],tI 0]) :=
 (qKg hΓ).imp (.cons q7W (.cons (.pin _ _) (.cons (.refl _) .nil)))
theorem qMg (hΓ:GOk Γ) (vN v1 v2 v3:Value):Ab Tryz.prog Γ 28 [qHe vN v1 v2 v3,.sl [[lvO],[lvO]] (some 2) (some false)] (.tup [.sl [] (some 0) none,tI 0]) :=
 (qJO hΓ).imp (.cons q7W (.cons (.refl _) .nil))
set_option maxHeartbeats 8000000 in
theorem qPC (hΓ:GOk Γ) (vN v1 v2 v3 vz:Value) (hvz:∃ a n m,vz=Value.slice a n m):run Tryz.prog Γ (q4E qMX .skip) (fun e s'=>e=.normal∧s'=thE (q4H 9) qEF qEG qEH lvZ vN v1 v2 v3 vz (.sl (Ar Dn qCH) (some 7) none) (.sl (Ac tS qCI) (some 7) none) Ax (.sl (Av [2,4,5,6]) (some 4) none) (.sl ((W3 3 2).map fun t=>[t]) (some 2) none) (tS [49,48,48]) (tS [49,48,48]) (.sl [] (some 0) none) (tI 0)) (thM (q4H 9) qEF qEG qEH lvO lvZ vN v1 v2 v3 vz):=by
 obtain ⟨az,nz,mz,rfl⟩:=hvz
 have e1:=qMd hΓ vN v1 v2 v3 (.slice az nz mz)
 have e2:=qMe hΓ vN v1 v2 v3
 have e3:=qMf hΓ vN v1 v2 v3 (.slice az nz mz)
 have e4:=qMg hΓ vN v1 v2 v3
 have hd:=qKc
 generalize seqS (Ul 9) (Lp q6L) [[1],[1],[0]]=S at *
 have t1:=q4U (Γ:=Γ) S.dff (by rw [hd]; decide) (by rw [hd]; simp)
 rw [hd] at t1
 have t2:=q4U (Γ:=Γ) ⟨[1,0,1],some 3,none⟩ (by decide) (by simp)
 have t3:=q4U (Γ:=Γ) ⟨[1],some 1,none⟩ (by decide) (by simp)
 have t4:=q4U (Γ:=Γ) ⟨[0],some 1,none⟩ (by decide) (by simp)
 rw [show qBw [0]=[48] by decide +kernel] at t1 t4
 rw [show qBw [1,0,1]=[49,48,49] by decide +kernel] at t2
 rw [show qBw [1]=[49] by decide +kernel] at t3
 have hF:(W3 3 2).map (fun t=>[t])=(W3 3 2).map (fun t=>[t]):=rfl
 generalize (W3 3 2).map (fun t=>[t])=FF at *
 simp [tV,tS,sV,Ac] at t1 t2 t3 t4
 unfold qHe at e1 e2 e3 e4
 generalize q4H 9=RW at *
 generalize qEF=NM at *
 generalize qEG=MM at *
 generalize qEH=OU at *
 simp [Ar,Q3,tVs,Ac,B7,tV,Dn,B6,qCH,qCI,tS,sV,Ax,lvO,lvZ,tW,Ig] at e1 e2 e3 e4
 simp [qMX,q4E,q2j,q2k,q2l,q2m,q2n,q2o,q2p,q1k,q1l,q1m,thM,thE,Ar,Ac,Dn,B6,qCH,qCI,tS,sV,Ax,lvO,lvZ,tW,Ig]
 refine A9 e1 rfl ?_
 simp
 refine A9 e2 rfl ?_
 simp
 refine A9 e3 rfl ?_
 simp
 refine A1 t1 rfl ?_
 simp
 refine A1 t2 rfl ?_
 simp
 have r1:IntKind.i64.wrap 1=1:=by decide +kernel
 have r2:IntKind.i64.wrap 2=2:=by decide +kernel
 have r3:IntKind.i64.wrap 3=3:=by decide +kernel
 have r4:IntKind.i64.wrap 4=4:=by decide +kernel
 have r5:IntKind.i64.wrap 5=5:=by decide +kernel
 have r6:IntKind.i64.wrap 6=6:=by decide +kernel
 have r7:IntKind.i64.wrap 7=7:=by decide +kernel
 have b1:({ data:=#[] }:ByteArray)++{ data:=#[49] }={ data:=#[49] }:=by decide +kernel
 have b2:({ data:=#[49] }:ByteArray)++{ data:=#[48] }={ data:=#[49,48] }:=by decide +kernel
 have b3:({ data:=#[49,48] }:ByteArray)++{ data:=#[48] }={ data:=#[49,48,48] }:=by decide +kernel
 refine Hu fun K hK=>?_
 simp [Cm,r1,r2,r3,r4,r5,r6,r7]
 refine A1 t3 rfl ?_
 simp [b1,Cm,r1,r2,r3,r4,r5,r6,r7]
 refine A1 t3 rfl ?_
 simp [b1,Cm,r1,r2,r3,r4,r5,r6,r7]
 rw [hK]
 clear hK K
 refine Hu fun K hK=>?_
 simp [Cm,r1,r2,r3,r4,r5,r6,r7]
 refine A1 t4 rfl ?_
 simp [b2,Cm,r1,r2,r3,r4,r5,r6,r7]
 refine A1 t4 rfl ?_
 simp [b2,Cm,r1,r2,r3,r4,r5,r6,r7]
 rw [hK]
 clear hK K
 refine Hu fun K hK=>?_
 simp [Cm,r1,r2,r3,r4,r5,r6,r7]
 refine A1 t4 rfl ?_
 simp [b3,Cm,r1,r2,r3,r4,r5,r6,r7]
 refine A1 t4 rfl ?_
 simp [b3,Cm,r1,r2,r3,r4,r5,r6,r7]
 rw [hK]
 clear hK K
 refine Hu fun K hK=>?_
 simp [Cm,r1,r2,r3,r4,r5,r6,r7]
 refine C9 fun K hK=>?_
 simp [Cm,r1,r2,r3,r4,r5,r6,r7]
 rw [hK]
 clear hK K
 refine C9 fun K hK=>?_
 simp [Cm,r1,r2,r3,r4,r5,r6,r7]
 rw [hK]
 clear hK K
 refine C9 fun K hK=>?_
 simp [Cm,r1,r2,r3,r4,r5,r6,r7]
 rw [hK]
 clear hK K
 refine C9 fun K hK=>?_
 simp [Cm,r1,r2,r3,r4,r5,r6,r7]
 rw [hK]
 clear hK K
 refine C9 fun K hK=>?_
 simp [Cm,r1,r2,r3,r4,r5,r6,r7]
 rw [hK]
 clear hK K
 refine C9 fun K hK=>?_
 simp [Cm,r1,r2,r3,r4,r5,r6,r7]
 rw [hK]
 clear hK K
 refine C9 fun K hK=>?_
 simp [Cm,r1,r2,r3,r4,r5,r6,r7]
 rw [hK]
 clear hK K
 refine C9 fun K hK=>?_
 simp [Cm,r1,r2,r3,r4,r5,r6,r7]
 refine A9 e4 rfl ?_
 simp
theorem qMh:∀ (w:World) (X:Nat→Prop) (v:Value),TR w X lvZ v→∃ a n m,v=Value.slice a n m:=by
 intro w X v h
 cases h <;> exact ⟨_,_,_,rfl⟩
theorem q7X (hΓ:GOk Γ):Ab Tryz.prog Γ 22 [] (tB true):=by
 refine qAr (n:=0) qMY rfl ?_
 intro w X c a hN hmx hg hX hchk hbody hI Qw fin
 have hreg:q8w 13 c=some false:=by
  have:=qMZ
  rw [hbody] at this
  exact this
 refine q6K hN hmx hchk hI (Jn qOM) fun d2 a' w' hc2 hr hI2=>?_
 refine qOL hN hmx hX hg (b8':=5) (lo:=[2,4,5,6]) (co:=some 4) (no:=none) hI2 hc2 (by rw [hr]; exact hreg) qMh (fun vN v1 v2 v3 vz hvz=>Jn (qPC hΓ vN v1 v2 v3 vz hvz)) ⟨rfl,rfl,rfl,rfl⟩ (fun y0 y1 y2 y4=>qJM (qPB hΓ y0 y1 y2 y4)) fin
end Go.Lg
namespace Go.Lg
open Go
section
variable {P:Program} {Γ:Tables} {Q:AX→St→Prop} {s:St}
/- probecard/probecardlaw10.CyclesShape (function 3) -/
abbrev Rj:IC:=.gh (.seq (.seq (.reg [om 89 18,om 90 16,od 91 (le 0 90),od 92 (.bin .lss (tm 89) (tm 91))] [kp [8,11,14,16,17,18,92] [11,14,107]]) (.cond (tm 92) .skip (.exit 0))) (.seq (.block 1 (.seq (.reg [od 95 (fa 0 11),od 96 (ld
 1 95),om 97 18,od 98 (ia 1 96 97),od 99 (ld 1 98),od 100 (.call 31 [(tm 99)])] [kp [8,11,14,16,17,18,100] [11,14,107]]) (.cond (tm 100) (.seq (.reg [om 101 17,om 102 16,om 103 18,od 104 (ia 1 102 103),od 105 (ld 1
 104),od 106 (.bsl true 3 1 [(tm 105)]),od 107 (.app false 3 1 (tm 101) (tm 106)),om 17 107] [kp [8,11,14,16,17,18] [11,14,107]]) (.seq (.reg [od 108 (fa 0 11),od 109 (ld 1 108),om 110 18,od 111 (ia 1 109 110),od 112
 (ld 1 111),od 113 (fa 0 14),od 114 (ld 1 113),om 115 18,od 116 (ia 1 114 115),od 117 (ld 1 116),od 118 (.bin .neq (tm 112) (tm 117))] [kp [8,11,14,16,17,18,118] [11,14,107]]) (.cond (tm 118) (.seq (.reg [od 4 (.mv
 kF)] [kp [4] []]) .ret) .skip))) .skip))) (.reg [om 93 18,od 94 (.bin .add (tm 93) (ki 1)),om 18 94] [kp [8,11,14,16,17,18] [11,14,107]]))) [kp [8,11,14,16,17,18] [11,14,107]]
def Fo:IC:=.loop Rj
abbrev J7:IC:=(.seq (.reg [od 2 (.box true (tm 0)),od 3 (.box true (tm 1)),od 4 (.mv kF)] [kp [2,3] []]) (.seq (.seq (.reg [od 19 (fa 1 3),od 20 (ld 1 19),od 21 (le 0 20),od 22 (.bin .gtr (tm 21) (ki 8))] [kp [2,3,22] []]) (.cond (tm 22)
 (.seq (.reg [od 23 (.call 22 []),om 4 23] [kp [4] []]) .ret) .skip)) (.seq (.reg [od 24 (lG 12 2),od 25 (.call 16 [(tm 24)]),od 5 (.alloc false [(.slice none 0 0),(.slice none 0 0),(.slice none 0 0),(.slice none 0 0)]),on
 (.store 4 (tm 5) (tm 25))] [kp [3,5] [5]]) (.seq (.reg [od 27 (lG 2 3),od 28 (lG 4 5),od 29 (.call 23 [(tm 27),(tm 28)]),om 26 29,od 30 (ex 26 0),od 31 (ex 26 1),od 6 (.alloc false [(.slice none 0 0),(.slice none 0 0),
 (.slice none 0 0)]),on (.store 3 (tm 6) (tm 30)),om 7 31] [kp [5,6,7] [5,6]]) (.seq (.reg [od 33 (lG 4 5),om 34 7,od 35 (.call 28 [(tm 33),(tm 34)]),om 32 35,od 36 (ex 32 0),od 37 (ex 32 1),om 8 36,om 9 37] [kp [5,6,
 7,8,9] [5,6]]) (.seq (.reg [od 39 (.ldR 5 4 true (tm 5)),od 40 (.ldR 5 4 true (tm 5)),od 41 (.callT 29 [(tm 40)]),om 42 7,od 43 (.callT 24 [(tm 39),(tm 41),(tm 42)]),om 38 43,od 44 (ex 38 0),od 45 (ex 38 1),od 46 (ex
 38 2),od 11 (.alloc false [(.slice none 0 0),(.slice none 0 0),(.slice none 0 0)]),om 10 44,on (.stR 11 3 (tm 11) (tm 45)),om 12 46] [kp [5,6,7,8,9,11,12] [5,6,11]]) (.seq (.reg [od 48 (lG 4 5),od 49 (lG 3 6),om 50
 7,od 51 (.call 24 [(tm 48),(tm 49),(tm 50)]),om 47 51,od 52 (ex 47 0),od 53 (ex 47 1),od 54 (ex 47 2),od 14 (.alloc false [(.slice none 0 0),(.slice none 0 0),(.slice none 0 0)]),om 13 52,on (.store 3 (tm 14) (tm 53)),
 om 15 54] [kp [5,8,9,11,12,14,15] [5,11,14]]) (.seq (.reg [od 55 (lG 4 5),od 56 (.call 18 [(tm 55)]),om 16 56] [kp [8,9,11,12,14,15,16] [11,14]]) (.seq (.seq (.reg [om 57 9,od 58 (.bin .neq (tm 57) (ki 0)),om 59
 58,oF 60 (.mv (tm 12)) 59,oF 61 (.bin .neq (tm 60) (ki 0)) 59,od 62 (.pick (tm 59) kT (tm 61)),om 63 62,oF 64 (.mv (tm 15)) 63,oF 65 (.bin .neq (tm 64) (ki 0)) 63,od 66 (.pick (tm 63) kT (tm 65)),om 67 66,oF 68 (fa 0 11)
 67,oF 69 (ld 1 68) 67,oF 70 (le 0 69) 67,oF 71 (.mv (tm 16)) 67,oF 72 (le 0 71) 67,oF 73 (.bin .neq (tm 70) (tm 72)) 67,od 74 (.pick (tm 67) kT (tm 73)),om 75 74,oF 76 (fa 0 14) 75,oF 77 (ld 1 76) 75,oF 78 (le 0 77) 75,
 oF 79 (.mv (tm 16)) 75,oF 80 (le 0 79) 75,oF 81 (.bin .neq (tm 78) (tm 80)) 75,od 82 (.pick (tm 75) kT (tm 81)),om 83 82,oF 84 (lG 3 11) 83,oF 85 (lG 3 14) 83,oF 86 (.call 30 [(tm 84),(tm 85)]) 83,oF 87 (.un .not (tm 86))
 83,od 88 (.pick (tm 83) kT (tm 87))] [kp [8,11,14,16,88] [11,14]]) (.cond (tm 88) (.seq (.reg [od 4 (.mv kF)] [kp [4] []]) .ret) .skip)) (.seq (.reg [od 17 (.mv kN)] [.nl 17 107 3 1,kp [8,11,14,16,17] [11,14,107]])
 (.seq (.seq (.reg [od 18 (.mv (ki 0))] [kp [8,11,14,16,17,18] [11,14,107]]) (.gh (.block 0 Fo) [.frz 107])) (.seq (.reg [om 119 8,om 120 17,od 121 (.call 20 [(tm 119),(tm 120)]),od 122 (.bin .eql (tm
 121) (ki 0)),om 123 122,oT 124 (.call 22 []) 123,od 125 (.pick (tm 123) (tm 124) kF),om 4 125] [kp [4] []]) .ret))))))))))))
theorem Lr (h:∀ K:St→Prop,K=run P Γ Fo Q→run P Γ Rj (Am K Q) s):run P Γ Fo Q s:=Ae h
def J8:List RV:=[.tmp 4]
/- probecard/probecardlaw10.CyclesUnroll (function 6) -/
end
end Go.Lg
namespace Go.Lg
open Go Go.Proofs
theorem q1q:Ao Tryz.prog 5 J7 126 2 J8=true:=by kernel_rfl
end Go.Lg
namespace Go.Lg
open Go Go.Proofs
variable {Γ:Tables}
theorem qMi {v:List Int} {c:B0}:qFa (q4p v c):=by
 refine ⟨fun h=>(nomatch h),fun w hw r hr=>?_,fun r hr=>?_⟩
 ·obtain ⟨i,hi,rfl⟩:=Z5 Sl.zz hw
  have hi':i<c.mems.l.length:=by rw [show (q4p v c).words.l=ofW v c.mems.l (Af c).length from rfl,q9U] at hi; exact hi
  obtain ⟨a',e⟩:=q7I (v:=v) (a:=(Af c).length) hi'
  rw [show (q4p v c).words.l=ofW v c.mems.l (Af c).length from rfl,e] at hr
  obtain ⟨a2,rfl⟩:=q4Y hr
  exact fun h=>nomatch h
 ·obtain ⟨i,hi,rfl⟩:=Z5 Sl.z hr
  have hi':i<c.mems.l.length:=by rw [show (q4p v c).read.l=ofR v c.mems.l (Af c).length from rfl,q9V] at hi; exact hi
  obtain ⟨a',e⟩:=q9W (v:=v) (a:=(Af c).length) hi'
  rw [show (q4p v c).read.l=ofR v c.mems.l (Af c).length from rfl,e]
  exact fun h=>nomatch h
theorem qCu {Q:AX→St→Prop} (A B:Hk) (ns:List Int) (hn:ns.length≤100000) (hA:A.dff.l.length=ns.length) (hB:q3z Og A.dff.l B.dff.l) (S:T) (R:List Int)
  (h0:Q (.exit 0) ⟨[(8,.t S),(11,.lp 11 0 0),(14,.lp 14 0 0),(16,.t (.sl (Av ns) (some ns.length) none)),(17,.ls 107 0 R.length none),(18,.t (tI ns.length)),(92,.t (tB false))],[(11,.bx ((B7 A).map .t)),(14,.bx ((B7 B).map .t)),(107,.sl 3 1 (Av R))]⟩) :
  ∀ (k i:Nat) (out:List Int),k+i=ns.length→out.length≤i→out++q2M A.dff.l i (ns.drop i)=R →
  run Tryz.prog Γ Fo Q ⟨[(8,.t S),(11,.lp 11 0 0),(14,.lp 14 0 0),(16,.t (.sl (Av ns) (some ns.length) none)),(17,.ls 107 0 out.length none),(18,.t (tI i))],[(11,.bx ((B7 A).map .t)),(14,.bx ((B7 B).map .t)),(107,.sl 3 1 (Av out))]⟩
 | 0,i,out,h,ho,hR=>by
  refine Lr fun K hK=>?_
  have h2:i=ns.length:=by omega
  subst h2
  rw [List.drop_length] at hR
  simp only [q2M,List.append_nil] at hR
  subst hR
  simp [B7,tV,tW,Ig] at h0
  simp [B7,tV,tW,Ig,A0]
  simpa using h0
 | k+1,i,out,h,ho,hR=>by
  refine Lr fun K hK=>?_
  have h2:i<ns.length:=by omega
  have h2d:i<A.dff.l.length:=by omega
  have h2b:i<B.dff.l.length:=by have:=hB.1; omega
  have hbl:=hB.2 i h2d
  rw [List.drop_eq_getElem_cons h2] at hR
  simp only [q2M] at hR
  have e1:=gE (f:=tI) 0 h2
  have e1':=gE' (f:=tI) 0 h2
  rw [Bv h2] at e1 e1'
  have e2:=gE (f:=tK) 0 h2d
  have e2':=gE' (f:=tK) 0 h2d
  have e3:=gE (f:=tK) 0 h2b
  have e3':=gE' (f:=tK) 0 h2b
  generalize ns[i]=x at *
  generalize A.dff.l.getD i 0=d at *
  generalize B.dff.l.getD i 0=b at *
  have hk:=Ot (Γ:=Γ) d
  have h3:(i:Int)<ns.length:=by omega
  have h4:(i:Int)<A.dff.l.length:=by omega
  have h5:(i:Int)<B.dff.l.length:=by omega
  have w1:=B5 (i:=i) (by omega)
  by_cases hd1:I4 d=true
  ·rw [if_pos hd1] at hR
   have hdb:d=b:=by
    rcases hbl with h | h
    ·exact h
    ·subst h; simp [I4] at hd1
   subst hdb
   rw [hd1] at hk
   have ih:=qCu A B ns hn hA hB S R h0 k (i+1) (out++[x]) (by omega) (by simp; omega) (by rw [← hR]; simp)
   have vs:=Be (f:=tI) (l:=out) (x:=x)
   have vt:(Av out).take out.length=Av out:=Ag
   simp [B7,tV,tW,Ig] at ih
   simp [B7,tV,tW,Ig,A0,A6,h2,h3,e1,e1',h2d,h4,e2,e2',h2b,h5,e3,e3']
   refine A1 hk rfl ?_
   simp [B7,tV,tW,Ig,A0,A6,h2,h3,e1,e1',h2d,h4,e2,e2',h2b,h5,e3,e3',vt,vs,w1]
   refine ⟨by omega,?_⟩
   rw [hK]
   simpa using ih
  ·rw [if_neg hd1] at hR
   have hd2:I4 d=false:=by simpa using hd1
   rw [hd2] at hk
   have ih:=qCu A B ns hn hA hB S R h0 k (i+1) out (by omega) (by omega) hR
   simp [B7,tV,tW,Ig] at ih
   simp [B7,tV,tW,Ig,A0,A6,h2,h3,e1,e1',h2d,h4,e2,e2']
   refine A1 hk rfl ?_
   simp [w1]
   rw [hK]
   simpa using ih
theorem q3z.comp {rel:Int→Int→Prop} {l m n:List Int} (h:q3z (·=·) l m) (g:q3z rel m n):q3z rel l n :=
 ⟨h.1.trans g.1,fun i hi=>by have e:l.getD i 0=m.getD i 0:=h.2 i hi; rw [e]; exact g.2 i (by have:=h.1; omega)⟩
theorem q40.comp {rel:Int→Int→Prop} {a b d:Hk} (h:q40 (·=·) a b) (g:q40 rel b d):q40 rel a d:=by
 refine ⟨h.d.comp g.d,h.rl.trans g.rl,fun i hi=>(h.r i hi).comp (g.r i (by have:=h.rl; omega)),h.wl.trans g.wl,fun i hi=>?_⟩
 have hi':i<b.words.l.length:=by have:=h.wl; omega
 exact ⟨(h.w i hi).1.trans (g.w i hi').1,fun j hj=>((h.w i hi).2 j hj).comp ((g.w i hi').2 j (by have:=(h.w i hi).1; omega))⟩
set_option maxHeartbeats 4000000 in
theorem qHf (hΓ:GOk Γ) (x:CD) (hx:q80 x) (v:Sl Int) (hv:∀ u ∈ v.l,Byt u) (ps:Sl PD) (hp:∀ q ∈ ps.l,q9C q) :
  Ab Tryz.prog Γ 5 [.agg (Nu x),.agg (Xa v ps)] (tB true):=by
 refine Aq q1q rfl ?_
 by_cases h8:ps.l.length≤8
 ·have h8':¬ 8<(ps.l.length:Int):=by omega
  have h:=qMR hx
  have M:=qLH hx
  have e1:=qKA (Γ:=Γ) x hx
  generalize ofC x=c at *
  have hn2:=M.n2
  have hsl:=Di c
  have e2:=qHW (Γ:=Γ) v ps (by omega) hp c h
  have H:Ei c (q4p v.l c):=qKR (fun u hu=>(hv u hu).1) c
  have hN:qFa (q4p v.l c):=qMi
  have hI:=qJK (c:=c) hp
  have hIl:(Zg c ps.l).length=ps.l.length:=by simp [Zg]
  have ebl:=q8v hΓ c h (by omega)
  have est:=Et (Γ:=Γ) c h.ok
  generalize q4p v.l c=s at *
  generalize Zg c ps.l=L at *
  have r0:=fun cp nl=>Zh hΓ c h (by omega) ⟨L,cp,nl⟩ (by simp only; omega) hI
  have r1:=fun cp nl=>q2L hΓ c h (by omega) (E3 c) q4Z q4D ⟨L,cp,nl⟩ (by simp only; omega) hI
  have r2:=fun cp nl=>q2L hΓ c h (by omega) s H hN ⟨L,cp,nl⟩ (by simp only; omega) hI
  simp only at r0 r1 r2
  have Hb:Ei c (Lp (E3 c)):=(qAp q4D).ok (q4Z (c:=c))
  have Hs:Ei c (Lp s):=(qAp hN).ok H
  have hb:q40 Og (Lp (E3 c)) (Lp s):=(qAp q4D).rel.comp (qEA Hs)
  have hR:=qC8 h M Hb Hs hb hI.seq
  have KA:=q9X h Hb hI.seq
  have KB:=q9X h Hs hI.seq
  have eb:=qE8 (Γ:=Γ) _ _ (KA.small h) hR
  generalize seqS c (Lp (E3 c)) (L.map (·.l))=A at *
  generalize seqS c (Lp s) (L.map (·.l))=B at *
  generalize seqR c (Lp (E3 c)) (L.map (·.l))=RA at *
  generalize seqR c (Lp s) (L.map (·.l))=RB at *
  generalize E3 c=b0 at *
  have g:=fun Q S h0=>qCu (Γ:=Γ) (Q:=Q) A B (Af c) (by omega) KA.d hR.d S (q2M A.dff.l 0 (Af c)) h0 (Af c).length 0 [] (by omega) (by simp) (by simp)
  have sl:=qAq (ds:=A.dff.l) (ns:=Af c) (i:=0)
  generalize q2M A.dff.l 0 (Af c)=W at *
  have ei:=fun c2 n1 n2=>q8J (Γ:=Γ) W (by omega) c2 n1 n2
  have dA:A.dff.l.length=(Af c).length:=KA.d
  have dB:B.dff.l.length=(Af c).length:=KB.d
  have ht:(Av W).take W.length=Av W:=Ag
  simp [B7,tV,tW,Ig,tC,A5,A8,Ad,B6,Nu,Xa] at e1 e2 r0 r1 r2 eb ebl est
  simp [B7,tV,tW,Ig,Cd] at g
  simp [J7,Xa,Nu,tV,Aa,h8,h8']
  refine A9 e1 rfl ?_
  simp [tC,A5,A8,Ad,B6]
  refine A9 e2 rfl ?_
  simp
  refine A9 (r0 _ _) rfl ?_
  simp
  refine Dt ebl rfl ?_
  simp
  refine Dt (r1 _ _) rfl ?_
  simp
  refine A9 (r2 _ _) rfl ?_
  simp
  refine A9 est rfl ?_
  simp [A0,dA,dB]
  refine A9 eb rfl ?_
  simp
  refine g _ _ ?_
  simp [St.freeze,B9.closed,Bl,frz1,frz0,Du,del,Ai,ht]
  refine A1 (ei _ _ _) rfl ?_
  simp
  refine A9 (q7X hΓ) rfl ?_
  simp [J8]
 ·have h8':8<(ps.l.length:Int):=by omega
  simp [J7,Xa,Nu,tV,Aa,h8,h8']
  refine A9 (q7X hΓ) rfl ?_
  simp [J8]
end Go.Lg
