/- events: Apply: the loops that set what comes in: their walk. Conditions: none. -/
import Derived.Test.YtafhjckfgmcphaaGreatDoorPkF
import Derived.Test.YtafhjckfgmcphaaGreatDoorPkD
import Derived.Test.YtafhjckfgmcphaaGreatDoorPkE
import Derived.Test.YtafhjckfgmcphaaGreatDoorPkC
import Derived.Test.YtafhjckfgmcphaaGreatDoorProg
import Derived.KernelRfl
set_option linter.unusedSimpArgs false
set_option linter.unusedVariables false
set_option maxRecDepth 100000
namespace Go.Lg
open Go Go.Proofs
variable {Γ:Tables}
def JA (i:Nat):Nat:=if i=0 then 60 else if i=1 then 1000000 else if i=2 then 1000001 else if i=3 then 58 else 51
def Oe (u:Nat):Nat:=800000+u
def hA (D:Ci) (n:Nat) (W:WS):List (Nat×B9) :=
 (60,.bx [.lp 1000000 0 0,.lm 51,.ls 58 0 n none,.ls 800999 0 W.ch.length none])::(1000000,.bx (Bg D 1000001 n W.ev))::(1000001,.sl 65 1 (Ar W.nets))::(58,.sl 4 1 (Au tB W.q))::(51,.mr (F9 Oe W.wl))::Wq Oe W
theorem qMD {D:Ci} {n:Nat} {W:WS}:hA D n W=hG JA D n W Oe:=rfl
theorem q7N:NuC 800000 Oe:=fun u _=>.inr rfl
theorem qPg (i:Nat):JA i=60\/JA i=1000000\/JA i=1000001\/JA i=58\/JA i=51:=by
 unfold JA
 split
 ·exact .inl rfl
 split
 ·exact .inr (.inl rfl)
 split
 ·exact .inr (.inr (.inl rfl))
 split
 ·exact .inr (.inr (.inr (.inl rfl)))
 ·exact .inr (.inr (.inr (.inr rfl)))
theorem q7O {i:Nat} (h:i<5):(JA i<800000\/(1000000<=JA i/\JA i<1000005))/\∀ j,j<5->JA i=JA j->i=j:=by
 refine⟨by have:=qPg i;omega,fun j hj e=>?_⟩
 have h1:i=0\/i=1\/i=2\/i=3\/i=4:=by omega
 have h2:j=0\/j=1\/j=2\/j=3\/j=4:=by omega
 rcases h1 with rfl|rfl|rfl|rfl|rfl<;>rcases h2 with rfl|rfl|rfl|rfl|rfl<;>first|rfl|(simp[JA]at e)
theorem q2u:JOk JA Oe:=⟨fun i j hi hj e=>(q7O hi).2 j hj e,q7N.ok.inj,fun i u hi hu e=>by have:=(q7O hi).1;unfold Oe at e;omega⟩
theorem qDC {D:Ci} {n:Nat} {W:WS} (hw:Wa W.wl) {t:Nat} (ht:801000<=t/\t<1000000):A5 (hG JA D n W Oe) t=none :=
 Dp hw (fun i hi e=>by have:=(q7O hi).1;omega) fun u hu e=>by unfold Oe at e;omega
theorem qGz {E:List (Nat×AV)} {Bh:List (Nat×B9)} {D:Ci} {n c base:Nat} {W W':WS} {ν':Nat->Nat} (hw:WOk n W) (hw':WOk n W') (hν':NuC c ν') (hb:base+c=900000)
  (hB1:∀ t,(t∈Q1 JA Oe\/(∃ u,u<1000/\t=base+(c+u)))->A5 Bh t=A5 (hG JA D n W' (Dc Oe ν' base)) t) (hB3:∀ t,¬ (t∈Q1 JA Oe\/∃ u,u<1000/\t=base+(c+u))->A5 Bh t=(A5 (hG JA D n W Oe) t).map (B7 (Ot (Q1 JA Oe) (hW D n W' ν'))))
  (hE:∀ u,u<1000->E.map (fun p=>(p.1,Ac (B1 (900000+u) (800000+u)) p.2))=E):Imp Γ ⟨E,Bh⟩ ⟨E,hA D n W'⟩:=by
 have hbn:∀ u,u<1000->Dc Oe ν' base u=800000+u\/Dc Oe ν' base u=900000+u:=fun u hu=>by
  unfold Dc Oe
  have:=hν' u hu
  split<;>omega
 refine Imp.trans (Imp.like (hp':=hG JA D n W' (Dc Oe ν' base)) (fun t a h=>h) fun t=>?_) (qEZ (J:=JA) (ν:=Dc Oe ν' base) (ν2:=Oe) (D:=D) (n:=n) (W:=W') hw'.wl (fun i hi=>q7O hi) (fun u hu=>by have:=hbn u hu;omega) (fun u hu=>?_) hE)
 ·by_cases ht:(t∈Q1 JA Oe\/(∃ u,u<1000/\t=base+(c+u)))
  ·exact(hB1 t ht).symm
  ·rw[hB3 t ht]
   have h3:A5 (hG JA D n W Oe) t=none:=Dp hw.wl (fun i hi e=>ht (.inl (Fg.2 (.inl ⟨i,hi,e⟩)))) fun u hu e=>ht (.inl (Fg.2 (.inr ⟨u,hu,e⟩)))
   refine Eq.trans ?_ (congrArg (Option.map _) h3).symm
   refine Dp hw'.wl (fun i hi e=>ht (.inl (Fg.2 (.inl ⟨i,hi,e⟩)))) fun u hu e=>?_
   rcases hbn u hu with e2|e2
   ·exact ht (.inl (Fg.2 (.inr ⟨u,hu,e.trans e2⟩)))
   ·exact ht (.inr ⟨u,hu,by omega⟩)
 ·rcases hbn u hu with e|e
  ·exact .inl e.symm
  ·exact .inr ⟨e,rfl⟩
def Ih (D:Ci) (W:WS):List Int->List Int->WS
 | x::l,v::vs=>Ih D (Hj D W x v) l vs
 | _,_=>W
theorem qNk:JA 0=60:=rfl
theorem qPh:JA 1=1000000:=rfl
def qFl (D:Ci) (p:Pat) (i:Nat):List (Nat×AV):=[(0,.lp 1000000 0 0),(3,.t (.ip (tP p) 0)),(7,.lp 60 0 0),(67,.t (As D.inp)),(68,.t (tI D.inp.l.length)),(69,.t (tI i))]
theorem qME {Q:AX->St->Prop} (D:Ci) (n:Nat) (hD:q5R D n) (hn:n<=1000000) (p:Pat) (hl:D.inp.l.length<=1000000) (hpl:p.inn.l.length=D.inp.l.length) (hin:∀ k∈D.inp.l,0<=k/\k<n) (R:WS)
  (h0:Q (.exit 1) ⟨qFl D p D.inp.l.length++[(70,.t (tB false))],hA D n R⟩) :
  ∀ (j i:Nat) (W:WS),j+i=D.inp.l.length->WOk n W->W.ch.length+j<=1000000->Ih D W (D.inp.l.drop i) (p.inn.l.drop i)=R ->
  run Tryz.prog Γ Is Q ⟨qFl D p i,hA D n W⟩
 | 0,i,W,h,hw,hc,hR=>by
  refine R7 fun K hK=>?_
  have h2:i=D.inp.l.length:=by omega
  subst h2
  rw[xzs]at hR
  have hR:W=R:=hR
  subst hR
  simp[qFl,hA,Bg,As]at h0
  simp[qFl,hA,Bg,As]
  simpa using h0
 | j+1,i,W,h,hw,hc,hR=>by
  refine R7 fun K hK=>?_
  have h2:i<D.inp.l.length:=by omega
  have h3:i<p.inn.l.length:=by omega
  rw[xqq h2,xqq h3]at hR
  have e:=gE (f:=tI) 0 h2
  have e':=gE' (f:=tI) 0 h2
  have q:=gE (f:=tK) 0 h3
  have q':=gE' (f:=tK) 0 h3
  have hq:=hin _ (xqj h2)
  rw[Be h2]at e e'
  rw[Be h3]at q q'
  generalize D.inp.l[i]=x at *
  generalize p.inn.l[i]=v at *
  have hR:Ih D (Hj D W x v) (D.inp.l.drop (i+1)) (p.inn.l.drop (i+1))=R:=hR
  obtain⟨ν',hν',hk',hs⟩:=qFi (Γ:=Γ) D n hD hn W hw (by omega) x v hq D9 q2U
  have hw2:=q7L (v:=v) hD hw hq
  have hc2:=(q8M (D:=D) (W:=W) (x:=x) (v:=v)).2.2
  have ih:=qME D n hD hn p hl hpl hin R h0 j (i+1) (Hj D W x v) (by omega) hw2 (by omega) hR
  have gJ:=fun i hi=>q8L (J:=JA) (ν:=Oe) (ν':=ν') (D:=D) (n:=n) (W':=Hj D W x v) (c:=900000) (by omega) (by omega) q2u hν' (i:=i) hi
  have g0:=gJ 0 (by omega)
  have g1:=gJ 1 (by omega)
  have fJ0:=qCM (J:=JA) (ν:=Oe) q2u (i:=0) (by omega)
  rw[qNk]at g0 fJ0
  rw[qPh]at g1
  have w1:=Nl (i:=i) (by omega)
  generalize Hj D W x v=RW at *
  simp[qFl,hA,Bg,As]at ih
  simp[-C6,-Ac,-To,-B7,qFl,hA,Bg,As,tP,tV,h2,h3,A6,A9,e,e',q,q',hpl]
  refine Yl (base:=0) (c:=900000) (by omega) (by omega) (J:=JA) (ν:=Oe) (ν':=ν') (D:=D) (n:=n) (W:=W) (W':=RW) q2u q7N.ok hw hw2 hν' hk' (fun t ht=>rfl) (fun u hu=>?_) (by omega) (fun u v hu hv e=>by unfold Oe at e;omega) (fun i v hi hv e=>by have:=(q7O hi).1;omega) hs ?_ ?_ fun Bh hB1 hB3=>?_
  ·exact qDC hw.wl (by omega)
  ·simp[-To,Ac,ren1,ren0,fJ0]
  ·simp[-Ot,Ac,ren1,ren0,g0,g1]
  ·simp
   refine⟨⟨_,hA D n RW⟩,qGz hw hw2 hν' (by omega) hB1 hB3 (fun u hu=>?_),?_⟩
   ·have h1:¬ 1000000=900000+u:=by omega
    have h4:¬ 60=900000+u:=by omega
    simp[Ac,ren1,ren0,B1,h1,h4]
   ·simp[w1]
    rw[hK]
    simpa[hA,Bg,As,tP,tV]using ih
def qFm (D:Ci) (p:Pat) (i:Nat):List (Nat×AV):=[(3,.t (.ip (tP p) 0)),(7,.lp 60 0 0),(86,.t (As D.sts)),(87,.t (tI D.sts.l.length)),(88,.t (tI i))]
theorem qMF {Q:AX->St->Prop} (D:Ci) (n:Nat) (hD:q5R D n) (hn:n<=1000000) (p:Pat) (hl:D.sts.l.length<=1000000) (hpl:p.st.l.length=D.sts.l.length) (hin:∀ k∈D.sts.l,0<=k/\k<n) (R:WS)
  (h0:Q (.exit 3) ⟨qFm D p D.sts.l.length++[(89,.t (tB false))],hA D n R⟩) :
  ∀ (j i:Nat) (W:WS),j+i=D.sts.l.length->WOk n W->W.ch.length+j<=1000000->Ih D W (D.sts.l.drop i) (p.st.l.drop i)=R ->
  run Tryz.prog Γ It Q ⟨qFm D p i,hA D n W⟩
 | 0,i,W,h,hw,hc,hR=>by
  refine R9 fun K hK=>?_
  have h2:i=D.sts.l.length:=by omega
  subst h2
  rw[xzs]at hR
  have hR:W=R:=hR
  subst hR
  simp[qFm,hA,Bg,As]at h0
  simp[qFm,hA,Bg,As]
  simpa using h0
 | j+1,i,W,h,hw,hc,hR=>by
  refine R9 fun K hK=>?_
  have h2:i<D.sts.l.length:=by omega
  have h3:i<p.st.l.length:=by omega
  rw[xqq h2,xqq h3]at hR
  have e:=gE (f:=tI) 0 h2
  have e':=gE' (f:=tI) 0 h2
  have q:=gE (f:=tK) 0 h3
  have q':=gE' (f:=tK) 0 h3
  have hq:=hin _ (xqj h2)
  rw[Be h2]at e e'
  rw[Be h3]at q q'
  generalize D.sts.l[i]=x at *
  generalize p.st.l[i]=v at *
  have hR:Ih D (Hj D W x v) (D.sts.l.drop (i+1)) (p.st.l.drop (i+1))=R:=hR
  obtain⟨ν',hν',hk',hs⟩:=qFi (Γ:=Γ) D n hD hn W hw (by omega) x v hq D9 q2U
  have hw2:=q7L (v:=v) hD hw hq
  have hc2:=(q8M (D:=D) (W:=W) (x:=x) (v:=v)).2.2
  have ih:=qMF D n hD hn p hl hpl hin R h0 j (i+1) (Hj D W x v) (by omega) hw2 (by omega) hR
  have gJ:=fun i hi=>q8L (J:=JA) (ν:=Oe) (ν':=ν') (D:=D) (n:=n) (W':=Hj D W x v) (c:=900000) (by omega) (by omega) q2u hν' (i:=i) hi
  have g0:=gJ 0 (by omega)
  have g1:=gJ 1 (by omega)
  have fJ0:=qCM (J:=JA) (ν:=Oe) q2u (i:=0) (by omega)
  rw[qNk]at g0 fJ0
  rw[qPh]at g1
  have w1:=Nl (i:=i) (by omega)
  generalize Hj D W x v=RW at *
  simp[qFm,hA,Bg,As]at ih
  simp[-C6,-Ac,-To,-B7,qFm,hA,Bg,As,tP,tV,h2,h3,A6,A9,e,e',q,q',hpl]
  refine Yl (base:=0) (c:=900000) (by omega) (by omega) (J:=JA) (ν:=Oe) (ν':=ν') (D:=D) (n:=n) (W:=W) (W':=RW) q2u q7N.ok hw hw2 hν' hk' (fun t ht=>rfl) (fun u hu=>?_) (by omega) (fun u v hu hv e=>by unfold Oe at e;omega) (fun i v hi hv e=>by have:=(q7O hi).1;omega) hs ?_ ?_ fun Bh hB1 hB3=>?_
  ·exact qDC hw.wl (by omega)
  ·simp[-To,Ac,ren1,ren0,fJ0]
  ·simp[-Ot,Ac,ren1,ren0,g0]
  ·simp
   refine⟨⟨_,hA D n RW⟩,qGz hw hw2 hν' (by omega) hB1 hB3 (fun u hu=>?_),?_⟩
   ·have h1:¬ 1000000=900000+u:=by omega
    have h4:¬ 60=900000+u:=by omega
    simp[Ac,ren1,ren0,B1,h1,h4]
   ·simp[w1]
    rw[hK]
    simpa[hA,Bg,As,tP,tV]using ih
def Uc (D:Ci) (n:Nat) (W:WS):WS:=Ub D { W with wl:=M7 (Jy n W.wl) W.wl } ((A5 W.wl (Jy n W.wl)).getD [])
def Rk (D:Ci) (n:Nat):Nat->WS->WS
 | 0,W=>W
 | k+1,W=>if W.wl=[]then W else Rk D n k (Uc D n W)
def q6E:List (Nat×List Int)->Nat
 | []=>0
 | p::wl=>p.2.length+q6E wl
def tot (W:WS):Nat:=q6E W.wl+W.q.count false
theorem qCR {lv:Nat} {k:Int}:∀ {wl:List (Nat×List Int)},q6E (Us lv k wl)=q6E wl+1
 | []=>rfl
 | (m,l)::wl=>by
  simp only[Us]
  split
  ·simp only[q6E,xq6,xq8,xq9];omega
  ·simp only[q6E,qCR (wl:=wl)];omega
theorem qCS {lv:Nat} {l:List Int}:∀ {wl:List (Nat×List Int)},A5 wl lv=some l->q6E (M7 lv wl)+l.length=q6E wl
 | [],h=>by simp[A5]at h
 | (m,q)::wl,h=>by
  simp only[A5]at h
  simp only[M7]
  split at h
  ·rename_i e
   cases h
   rw[if_pos e]
   simp only[q6E];omega
  ·rename_i e
   rw[if_neg e]
   have:=qCS h
   simp only[q6E];omega
def WI (n:Nat) (wl:List (Nat×List Int)):Prop:=∀ p∈wl,p.2≠[]/\p.1<=n/\∀ k∈p.2,0<=k/\k<(n:Int)
theorem WI.add {n lv:Nat} {k:Int} {wl:List (Nat×List Int)} (h:WI n wl) (hl:lv<=n) (hk:0<=k/\k<(n:Int)):WI n (Us lv k wl):=fun p hp=>by
 rcases q8K hp with hp|rfl|⟨l,hl',rfl⟩
 ·exact h p hp
 ·exact⟨by simp,hl,fun q hq=>by simp at hq;subst hq;exact hk⟩
 ·refine⟨by simp,hl,fun q hq=>?_⟩
  simp only[xzg,xzh]at hq
  rcases hq with hq|rfl
  ·exact(h _ hl').2.2 q hq
  ·exact hk
theorem WI.del {n lv:Nat} {wl:List (Nat×List Int)} (h:WI n wl):WI n (M7 lv wl):=fun p hp=>h p (q1O hp)
structure DOk (D:Ci) (n:Nat):Prop where
 ok:q5R D n
 lt:∀ v∈D.lev.l,v<=(n:Int)
theorem qNl {D:Ci} {n:Nat} (hD:DOk D n) {W:WS} {k:Int} (hk:0<=k/\k<(n:Int)) (hq:W.q.length=n) (h:WI n W.wl):WI n (G8 D W k).wl/\tot (G8 D W k)=tot W/\(G8 D W k).q.length=n:=by
 unfold G8
 split
 ·exact⟨h,rfl,hq⟩
 ·rename_i hb
  have hkl:k.toNat<D.lev.l.length:=by rw[hD.ok.ln];omega
  have h1:=hD.lt _ (xqj hkl)
  have h2:=hD.ok.lv _ (xqj hkl)
  refine⟨h.add ?_ hk,?_,by simpa using hq⟩
  ·unfold q1d
   rw[Be hkl];omega
  ·have hc:=q8J (k:=k.toNat) (q:=W.q) (by omega) (by simpa using hb)
   unfold tot
   simp only[qCR]
   omega
theorem qFn {D:Ci} {n:Nat} (hD:DOk D n) {W:WS} {x v:Int} (hx:0<=x/\x<(n:Int)) (hq:W.q.length=n) (h:WI n W.wl):WI n (Hj D W x v).wl/\tot (Hj D W x v)=tot W/\(Hj D W x v).q.length=n:=by
 have key:∀ (l:List Int) (W:WS),(∀ k∈l,0<=k/\k<(n:Int))->W.q.length=n->WI n W.wl->WI n (l.foldl (G8 D) W).wl/\tot (l.foldl (G8 D) W)=tot W/\(l.foldl (G8 D) W).q.length=n:=by
  intro l
  induction l with
  | nil=>exact fun W _ hq h=>⟨h,rfl,hq⟩
  | cons k l ih =>
   intro W hk hq h
   obtain⟨h1,h2,h3⟩:=qNl hD (hk k xqh) hq h
   obtain⟨h4,h5,h6⟩:=ih (G8 D W k) (fun q hq=>hk q (xqf _ hq)) h3 h1
   exact⟨h4,h5.trans h2,h6⟩
 unfold Hj
 split
 ·exact⟨h,rfl,hq⟩
 ·have hxr:x.toNat<D.rdr.l.length:=by rw[hD.ok.rn];omega
  have hrow:D.rdr.l.getD x.toNat Sl.z=D.rdr.l[x.toNat]:=by simp[xqe,hxr]
  have hr:=(hD.ok.rr _ (xqj hxr)).2
  rw[<- hrow]at hr
  exact key _ { W with nets:=W.nets.set x.toNat v,ch:=W.ch++[x] } hr hq h
structure LOk (D:Ci) (n m:Nat) (W:WS):Prop where
 b:EvB D n m W
 w:WI n W.wl
 t:tot W<=m
theorem qEd {D:Ci} {n:Nat} (hD:DOk D n):∀ (l:List Int) (m:Nat) (W:WS),(∀ k∈l,0<=k/\k<(n:Int))->EvB D n (m+l.length) W->WI n W.wl->tot W<=m->LOk D n m (Ub D W l)/\tot (Ub D W l)=tot W
 | [],m,W,_,hb,hw,ht=>⟨⟨hb,hw,ht⟩,rfl⟩
 | x::l,m,W,hl,hb,hw,ht=>by
  have hx:=hl x xqh
  have hb2:=(show EvB D n ((m+l.length)+1) W from hb).eval hD.ok hx
  obtain⟨h1,h2,_⟩:=qFn (v:=Gs (nd D.c x).k (G1 W.nets (nd D.c x).inn.l)) hD hx (W:={ W with ev:=W.ev+1 }) hb.ok.ql hw
  have h2:tot (Nr D W x)=tot W:=h2
  obtain⟨h3,h4⟩:=qEd hD l m (Nr D W x) (fun k hk=>hl k (xqf _ hk)) hb2 h1 (by omega)
  exact⟨h3,h4.trans h2⟩
theorem qJq {n:Nat} {wl:List (Nat×List Int)} (h:WI n wl) (hne:wl≠[]):∃ l,A5 wl (Jy n wl)=some l/\(Jy n wl,l)∈wl:=by
 have h1:∃ p∈wl,Jy n wl=p.1:=by
  rcases qDB (wl:=wl) (n:=n)with e|h
  ·match wl,hne with
   | p::wl,_ =>
    have h2:=(q7M (wl:=p::wl) (n:=n)).2 p xqh
    have h3:=(h p xqh).2.1
    exact⟨p,xqh,by omega⟩
  ·exact h
 obtain⟨p,hp,e⟩:=h1
 cases hl:A5 wl (Jy n wl) with
 | none=>exact absurd e.symm (Pe hl p hp)
 | some l=>exact⟨l,rfl,J4 hl⟩
theorem qAw {D:Ci} {n m:Nat} (hD:DOk D n) {W:WS} (h:LOk D n m W) (hne:W.wl≠[]):∃ l,A5 W.wl (Jy n W.wl)=some l/\l≠[]/\(∀ k∈l,0<=k/\k<(n:Int))/\l.length<=m/\LOk D n (m-l.length) (Uc D n W)/\tot (Uc D n W)+l.length=tot W:=by
 obtain⟨l,h1,h2⟩:=qJq h.w hne
 obtain⟨h3,h4,h5⟩:=h.w _ h2
 have hp:=qCS h1
 have ht:=h.t
 have ht2:tot { W with wl:=M7 (Jy n W.wl) W.wl }+l.length=tot W:=by unfold tot;simp only;omega
 have hlm:l.length<=m:=by unfold tot at ht;omega
 refine⟨l,h1,h3,h5,hlm,?_⟩
 unfold Uc
 rw[h1]
 have hb:EvB D n (m-l.length+l.length) { W with wl:=M7 (Jy n W.wl) W.wl }:=by
  rw[Nat.sub_add_cancel hlm]
  refine⟨⟨h.b.ok.nl,h.b.ok.ql,h.b.ok.wl.del,fun p hp=>h.b.ok.wn p (q1O hp)⟩,h.b.v4,h.b.ch,h.b.e0,h.b.e1⟩
 obtain⟨h6,h7⟩:=qEd hD l (m-l.length) _ h5 hb h.w.del (by omega)
 exact⟨h6,by rw[xzy,h7];exact ht2⟩
theorem q6F {id i off len:Nat} {r:B9} {c:Option Nat} (h:¬ i=id):Cb id r (.ls i off len c)=.ls i off len c:=by simp[Cb,frz1,frz0,h]
theorem qAx {id i a k:Nat} {r:B9} (h:¬ i=id):Cb id r (.lp i a k)=.lp i a k:=by simp[Cb,frz1,frz0,h]
theorem qFo {id i:Nat} {r:B9} (h:¬ i=id):Cb id r (.lm i)=.lm i:=by simp[Cb,frz1,frz0,h]
theorem qEe {id:Nat} {r:B9} {x:T}:Cb id r (.t x)=.t x:=rfl
theorem qNm {J ν:Nat->Nat} {D:Ci} {n:Nat} {W:WS} {K t:Nat} {r:B9} (hw:Wa W.wl) (hK:∀ i,i<5->J i≠K) (hK9:ν 999≠K) (hK2:∀ p∈W.wl,ν p.1≠K):(A5 (hG J D n W ν) t).map (Ei K r)=A5 (hG J D n W ν) t:=by
 have e0:Ei K r (.bx [.lp (J 1) 0 0,.lm (J 4),.ls (J 3) 0 n none,.ls (ν 999) 0 W.ch.length none])=.bx [.lp (J 1) 0 0,.lm (J 4),.ls (J 3) 0 n none,.ls (ν 999) 0 W.ch.length none]:=by
  simp only[Ei,xqm,xq3,q6F hK9,qAx (hK 1 (by omega)),qFo (hK 4 (by omega)),q6F (hK 3 (by omega))]
 have e1:Ei K r (.bx (Bg D (J 2) n W.ev))=.bx (Bg D (J 2) n W.ev):=by
  simp only[Ei,Bg,xqm,xq3,qEe,q6F (hK 2 (by omega))]
 have e4:Ei K r (.mr (F9 ν W.wl))=.mr (F9 ν W.wl):=by
  simp only[Ei,F9,xq5]
  congr 1
  refine xq1 fun p hp=>?_
  simp only[Function.comp]
  rw[q6F (hK2 p hp)]
 have e5:∀ l:List (Nat×B9),(∀ p∈l,Ei K r p.2=p.2)->(A5 l t).map (Ei K r)=A5 l t:=by
  intro l
  induction l with
  | nil=>intro _;rfl
  | cons p l ih =>
   intro h
   simp only[A5]
   split
   ·simp only[xql];rw[h p xqh]
   ·exact ih fun q hq=>h q (xqf _ hq)
 refine e5 _ fun p hp=>?_
 unfold hG at hp
 rcases xqv.1 hp with rfl|hp
 ·exact e0
 rcases xqv.1 hp with rfl|hp
 ·exact e1
 rcases xqv.1 hp with rfl|hp
 ·rfl
 rcases xqv.1 hp with rfl|hp
 ·rfl
 rcases xqv.1 hp with rfl|hp
 ·exact e4
 obtain⟨u,l,_,_,rfl⟩:=q9Q hw hp
 rfl
theorem qPi {D:Ci} {n lv:Nat} {W:WS} {l:List Int} (hw:WOk n W) (hl:A5 W.wl lv=some l) :
  Imp Γ ⟨[(7,.lp 60 0 0),(13,.ls (Oe lv) 0 l.length none)],(60,.bx [.lp 1000000 0 0,.lm 51,.ls 58 0 n none,.ls 800999 0 W.ch.length none])::(1000000,.bx (Bg D 1000001 n W.ev))::(1000001,.sl 65 1 (Ar W.nets))::(58,.sl 4 1 (Au tB W.q))::(51,.mr (F9 Oe (M7 lv W.wl)))::Wq Oe W⟩
   ⟨[(7,.lp 60 0 0),(13,.t (As ⟨l,none,none⟩))],hA D n { W with wl:=M7 lv W.wl }⟩:=by
 have hlt:lv<999:=hw.wl.lt _ (J4 hl)
 have hw2:Wa (M7 lv W.wl):=hw.wl.del
 have hnu:Oe lv=800000+lv:=rfl
 have hH:∀ t,A5 ((60,B9.bx [.lp 1000000 0 0,.lm 51,.ls 58 0 n none,.ls 800999 0 W.ch.length none])::(1000000,.bx (Bg D 1000001 n W.ev))::(1000001,.sl 65 1 (Ar W.nets))::(58,.sl 4 1 (Au tB W.q))::(51,.mr (F9 Oe (M7 lv W.wl)))::Wq Oe W) t =
   if t=Oe lv then some (.sl 3 1 (Af l))else A5 (hA D n { W with wl:=M7 lv W.wl }) t:=fun t=>by
  have h1:A5 (Wq Oe W) (Oe lv)=some (.sl 3 1 (Af l)):=by
   rw[Kv q7N.ok hw.wl (by omega)]
   simp only[J5,if_neg (show ¬ lv=999 by omega),hl,xql]
  have h2:t≠Oe lv->A5 (Wq Oe W) t=A5 (Wq Oe { W with wl:=M7 lv W.wl }) t:=fun hne=>by
   by_cases hu:∃ u,u<1000/\t=Oe u
   ·obtain⟨u,hu,rfl⟩:=hu
    have hul:¬ u=lv:=fun e=>hne (by rw[e])
    rw[Kv q7N.ok hw.wl hu,Kv (W:={ W with wl:=M7 lv W.wl }) q7N.ok hw2 hu]
    simp only[J5,q1N hw.wl.nd,if_neg hul]
   ·have h:∀ u,u<1000->t≠Oe u:=fun u hu' e=>hu ⟨u,hu',e⟩
    rw[Dt hw.wl h,Dt (W:={ W with wl:=M7 lv W.wl }) hw2 h]
  simp only[hA,A5]
  by_cases ht:t=Oe lv
  ·rw[if_pos ht,ht,h1,if_neg (by omega),if_neg (by omega),if_neg (by omega),if_neg (by omega),if_neg (by omega)]
  ·rw[if_neg ht,h2 ht]
 have hself:A5 (hA D n { W with wl:=M7 lv W.wl }) (Oe lv)=none:=by
  rw[qMD,V0 (W:={ W with wl:=M7 lv W.wl }) q2u q7N.ok hw2 (by omega)]
  simp only[J5,if_neg (show ¬ lv=999 by omega),q1N hw.wl.nd,if_true,xzx]
 refine Imp.trans (Imp.gh (.frz (Oe lv)) _) ?_
 show Imp Γ (St.freeze (Oe lv) _) _
 have hself1:=hH (Oe lv)
 rw[if_pos rfl]at hself1
 have h60:¬ 60=Oe lv:=by omega
 unfold St.freeze
 simp only[hself1,B9.closed,if_true]
 refine Imp.like (fun t a h=>?_) fun t=>?_
 ·have hrf:Cb (Oe lv) (.sl 3 1 (Af l)) (.ls (Oe lv) 0 l.length none)=.t (As ⟨l,none,none⟩):=by
   have:(Af l).take l.length=Af l:=by rw[<- A6 (f:=tI) (l:=l)];exact xzn
   simp[Cb,frz1,frz0,Ai,A5,As,this]
  simp only[xqm,xq3,qAx h60,hrf]
  exact h
 ·rw[Ec (Ei (Oe lv) (.sl 3 1 (Af l))),q39]
  by_cases ht:t=Oe lv
  ·rw[if_pos ht,ht,hself];rfl
  ·rw[if_neg ht,hH,if_neg ht,qMD]
   exact(qNm (W:={ W with wl:=M7 lv W.wl }) hw2 (fun i hi e=>by have:=(q7O hi).1;omega) (by rw[hnu];unfold Oe;omega) fun p hp e=>by
    have h8:=hw.wl.lt p (q1O hp)
    have h9:p.1=lv:=by unfold Oe at e;omega
    have:=q1N (t:=lv) (lv:=lv) hw.wl.nd
    rw[if_pos rfl]at this
    exact Pe this p hp h9).symm
theorem qNn:NuC 900000 D9:=fun u _=>.inl rfl
theorem qPj {Q:AX->St->Prop} (hΓ:GOk Γ) (D:Ci) (n:Nat) (hD:DOk D n) (hn:n<=1000000) (H:ROk D.c) (hcn:D.c.nodes.l.length=n) (R:WS)
  (h0:R.wl=[]->R.ch.length<=1000000->Q (.exit 5) ⟨[(7,.lp 60 0 0),(107,.t (tB false))],hA D n R⟩) :
  ∀ (k:Nat) (W:WS) (m:Nat) (E:List (Nat×AV)),A5 E 7=some (.lp 60 0 0)->tot W<=k->m<=1000000->LOk D n m W->Rk D n k W=R ->
  run Tryz.prog Γ Iu Q ⟨E,hA D n W⟩:=by
 intro k
 induction k with
 | zero =>
  intro W m E hE7 ht hm hL hR
  refine Rb fun K hK=>?_
  have hR:W=R:=hR
  subst hR
  have hw:W.wl=[]:=by
   match hwl:W.wl with
   | []=>rfl
   | p::wl =>
    have:=hL.w p (by rw[hwl];exact xqh)
    have h2:0<p.2.length:=xza.2 this.1
    unfold tot at ht
    rw[hwl]at ht
    simp only[q6E]at ht
    omega
  have h0:=h0 hw (by have:=hL.b.ch;omega)
  simp[hA,Bg,hw,F9]at h0
  simp[hA,Bg,hw,F9,hE7]
  simpa using h0
 | succ k ih =>
  intro W m E hE7 ht hm hL hR
  refine Rb fun K hK=>?_
  by_cases hw:W.wl=[]
  ·have hR:W=R:=by unfold Rk at hR;rw[if_pos hw]at hR;exact hR
   subst hR
   have h0:=h0 hw (by have:=hL.b.ch;omega)
   simp[hA,Bg,hw,F9]at h0
   simp[hA,Bg,hw,F9,hE7]
   simpa using h0
  ·have hR:Rk D n k (Uc D n W)=R:=by unfold Rk at hR;rw[if_neg hw]at hR;exact hR
   obtain⟨l,h1,h2,h3,h4,h5,h6⟩:=qAw hD hL hw
   have hs1:=qJp (Γ:=Γ) D n hcn W hL.b.ok
   have hst:Uc D n W=Ub D { W with wl:=M7 (Jy n W.wl) W.wl } l:=by unfold Uc;rw[h1];rfl
   have hw1:WOk n { W with wl:=M7 (Jy n W.wl) W.wl }:=⟨hL.b.ok.nl,hL.b.ok.ql,hL.b.ok.wl.del,fun p hp=>hL.b.ok.wn p (q1O hp)⟩
   have hEB:EvB D n l.length { W with wl:=M7 (Jy n W.wl) W.wl }:=⟨hw1,hL.b.v4,by have:=hL.b.ch;simp only;omega,hL.b.e0,by have:=hL.b.e1;simp only;omega⟩
   obtain⟨ν',hν',hk',hs2⟩:=qNg hΓ D n hD.ok hn H hcn ⟨l,none,none⟩ (by simp only;omega) (fun q hq=>by have:=h3 q hq;omega) _ hEB
   simp only at hk' hs2
   rw[<- hst]at hk' hs2
   have h2l:0<l.length:=xza.2 h2
   have ih:=ih (Uc D n W) (m-l.length) [(7,.lp 60 0 0)] rfl (by omega) (by omega) h5 hR
   have hlt:Jy n W.wl<999:=hL.b.ok.wl.lt _ (J4 h1)
   have hF:=qPi (Γ:=Γ) (D:=D) hL.b.ok h1
   have hfind:=qAZ (ν:=Oe) (lv:=Jy n W.wl) (wl:=W.wl)
   have hfit:=qAa (ν:=Oe) (wl:=W.wl)
   have hdel:=qGl (ν:=Oe) (lv:=Jy n W.wl) (wl:=W.wl)
   rw[h1]at hfind
   simp only[xql]at hfind
   generalize Uc D n W=RW at *
   generalize Jy n W.wl=lv at *
   have gJ:=fun i hi=>q8L (J:=JA) (ν:=Oe) (ν':=D9) (D:=D) (n:=n) (W':=W) (c:=900000) (by omega) (by omega) q2u qNn (i:=i) hi
   have g0:=gJ 0 (by omega)
   have gK:=fun i hi=>q8L (J:=JA) (ν:=Oe) (ν':=ν') (D:=D) (n:=n) (W':=RW) (c:=800000) (by omega) (by omega) q2u hν' (i:=i) hi
   have k0:=gK 0 (by omega)
   have fJ0:=qCM (J:=JA) (ν:=Oe) q2u (i:=0) (by omega)
   rw[qNk]at g0 fJ0 k0
   have hpos:0<W.wl.length:=xza.2 hw
   have hel:(F9 Oe W.wl).length=W.wl.length:=by simp[F9]
   simp[hA,Bg]at ih
   simp[-C6,-Ac,-To,-B7,hA,Bg,hel,hpos,hE7]
   refine Yl (base:=0) (c:=900000) (by omega) (by omega) (J:=JA) (ν:=Oe) (ν':=D9) (D:=D) (n:=n) (W:=W) (W':=W) q2u q7N.ok hL.b.ok hL.b.ok qNn (Kp.refl _ _) (fun t ht=>rfl) (fun u hu=>?_) (by omega) (fun u v hu hv e=>by unfold Oe at e;omega) (fun i v hi hv e=>by have:=(q7O hi).1;omega) hs1 ?_ ?_ fun Bh hB1 hB3=>?_
   ·exact qDC hL.b.ok.wl (by omega)
   ·simp[-To,Ac,ren1,ren0,fJ0]
   ·simp[-Ot,Ac,ren1,ren0,g0]
   ·simp
    refine⟨⟨[(7,.lp 60 0 0),(12,.t (tI lv))],hA D n W⟩,qGz hL.b.ok hL.b.ok qNn (by omega) hB1 hB3 (fun u hu=>?_),?_⟩
    ·have h7:¬ 60=900000+u:=by omega
     simp[Ac,ren1,ren0,B1,h7]
    ·simp[-C6,-Ac,-To,-B7,hA,Bg,hfind,hfit,hdel]
     refine⟨rfl,_,hF,?_⟩
     simp[-C6,-Ac,-To,-B7]
     refine Yl (base:=100000) (c:=800000) (by omega) (by omega) (J:=JA) (ν:=Oe) (ν':=ν') (D:=D) (n:=n) (W:={ W with wl:=M7 lv W.wl }) (W':=RW) q2u q7N.ok hw1 h5.b.ok hν' hk' (fun t ht=>rfl) (fun u hu=>?_) (by omega) (fun u v hu hv e=>by unfold Oe at e;omega) (fun i v hi hv e=>by have:=(q7O hi).1;omega) hs2 ?_ ?_ fun Bh2 hB4 hB5=>?_
     ·exact qDC (W:={ W with wl:=M7 lv W.wl }) hw1.wl (by omega)
     ·simp[-To,Ac,ren1,ren0,fJ0]
     ·simp[-Ot,Ac,ren1,ren0,k0]
     ·simp
      refine⟨⟨_,hA D n RW⟩,qGz hw1 h5.b.ok hν' (by omega) hB4 hB5 (fun u hu=>?_),?_⟩
      ·have h7:¬ 60=900000+u:=by omega
       simp[Ac,ren1,ren0,B1,h7]
      ·simp
       rw[hK]
       simpa[hA,Bg]using ih
def V2 (D:Ci) (n:Nat) (nets:List Int) (p:Pat):WS:=Rk D n n (Ih D (Ih D ⟨nets,List.replicate n false,[],[],0⟩ D.inp.l p.inn.l) D.sts.l p.st.l)
theorem q1e {D:Ci} {n m:Nat} (hD:DOk D n):∀ (l vs:List Int) (W:WS),(∀ k∈l,0<=k/\k<(n:Int))->(∀ v∈vs,V4 v)->LOk D n m W->W.ch.length+l.length+m<=1000000->LOk D n m (Ih D W l vs)/\(Ih D W l vs).ch.length<=W.ch.length+l.length/\(Ih D W l vs).ev=W.ev
 | [],vs,W,_,_,h,_=>by
  cases vs<;>exact⟨h,by simp[Ih],rfl⟩
 | x::l,[],W,_,_,h,_=>⟨h,by simp[Ih],rfl⟩
 | x::l,v::vs,W,hl,hv,h,hc=>by
  have hx:=hl x xqh
  obtain⟨h1,h2,h3⟩:=qFn (v:=v) hD hx h.b.ok.ql h.w
  have hf:=q8M (D:=D) (W:=W) (x:=x) (v:=v)
  have hlen:(x::l).length=l.length+1:=rfl
  have hb:EvB D n m (Hj D W x v):=⟨q7L hD.ok h.b.ok hx,qJl h.b.v4 (hv v xqh),by omega,by rw[hf.1];exact h.b.e0,by rw[hf.1];exact h.b.e1⟩
  obtain⟨k1,k2,k3⟩:=q1e (m:=m) hD l vs (Hj D W x v) (fun k hk=>hl k (xqf _ hk)) (fun u hu=>hv u (xqf _ hu)) ⟨hb,h1,by rw[h2];exact h.t⟩ (by omega)
  refine⟨k1,?_,?_⟩
  ·show(Ih D (Hj D W x v) l vs).ch.length<=_
   omega
  ·exact k3.trans hf.1
theorem qEf {D:Ci} {n:Nat} {nets:List Int} (hn:n<=1000000) (hl:nets.length=n) (hv:∀ v∈nets,V4 v):LOk D n n ⟨nets,List.replicate n false,[],[],0⟩:=by
 refine⟨⟨⟨hl,by simp,⟨fun p hp=>(xz2 hp).elim,List.nodup_nil⟩,fun p hp=>(xz2 hp).elim⟩,hv,?_,by simp,?_⟩,fun p hp=>(xz2 hp).elim,?_⟩
 ·simp;omega
 ·simp;omega
 ·simp[tot,q6E]
theorem qDD (x:Int):A8 Tryz.prog Γ 42 [tK x] (tB (Cm x)):=by
 refine Ae q2N rfl ?_
 simp[U6,U7,Cm,Ax]
def Zv (D:Ci) (p:Pat):Int:=if p.inn.l.length≠D.inp.l.length\/p.st.l.length≠D.sts.l.length then 8 else if p.inn.l.any Cm=true\/p.st.l.any Cm=true then 1 else 0
def hS (D:Ci) (n:Nat) (nets:List Int) (ev:Int):List (Nat×B9):=[(1000000,.bx (Bg D 1000001 n ev)),(1000001,.sl 65 1 (Ar nets))]
theorem qI6 (D:Ci) (n:Nat) (nets:List Int) (ev:Int) (p:Pat) (hp:p.inn.l.length<=1000000000/\p.st.l.length<=1000000000) (e:Int) (hR:Zv D p=e) (he:e≠0) :
  Bm Tryz.prog Γ 12 (hS D n nets ev) [.lp 1000000 0 0,.t (.agg (tP p))] (.t (.tup [.sl [] (some 0) (some true),tI e])) (hS D n nets ev):=by
 refine Ee W9 rfl ?_
 have c1:=F8 (Γ:=Γ) p.inn.l p.inn.cap p.inn.nl 42 [] Cm (fun x _=>qDD x) hp.1
 have c2:=F8 (Γ:=Γ) p.st.l p.st.cap p.st.nl 42 [] Cm (fun x _=>qDD x) hp.2
 unfold Zv at hR
 by_cases h1:p.inn.l.length=D.inp.l.length
 ·by_cases h2:p.st.l.length=D.sts.l.length
  ·rw[if_neg (by simp[h1,h2])]at hR
   simp[Gi,hS,Bg,tP,tV,As,h1,h2,A6]
   refine A4 c1 (by simp[Ai]) ?_
   by_cases h3:p.inn.l.any Cm=true
   ·rw[if_pos (.inl h3)]at hR
    subst hR
    simp[h3,Ey]
   ·simp only[xzm]at h3
    rw[h3]
    simp
    refine A4 c2 (by simp[Ai]) ?_
    by_cases h4:p.st.l.any Cm=true
    ·rw[if_pos (.inr h4)]at hR
     subst hR
     simp[h4,Ey]
    ·simp only[xzm]at h4
     rw[if_neg (by rw[h3,h4];simp)]at hR
     exact absurd hR.symm he
  ·rw[if_pos (.inr h2)]at hR
   subst hR
   have h2':¬ ((p.st.l.length:Int)=D.sts.l.length):=by omega
   simp[Gi,Ey,hS,Bg,tP,tV,As,h1,h2',A6]
 ·rw[if_pos (.inl h1)]at hR
  subst hR
  have h1':¬ ((p.inn.l.length:Int)=D.inp.l.length):=by omega
  simp[Gi,Ey,hS,Bg,tP,tV,As,h1',A6]
theorem qLN (hΓ:GOk Γ) (D:Ci) (n:Nat) (hD:DOk D n) (hn:n<=100000) (H:ROk D.c) (hcn:D.c.nodes.l.length=n) (hil:D.inp.l.length<=n) (hsl:D.sts.l.length<=n) (hin:∀ k∈D.inp.l,0<=k/\k<(n:Int)) (hst:∀ k∈D.sts.l,0<=k/\k<(n:Int))
  (nets:List Int) (ev:Int) (hl:nets.length=n) (hv:∀ v∈nets,V4 v) (p:Pat) (he:Zv D p=0) (hp:(∀ v∈p.inn.l,0<=v)/\∀ v∈p.st.l,0<=v) :
  Bm Tryz.prog Γ 12 (hS D n nets ev) [.lp 1000000 0 0,.t (.agg (tP p))] (.t (.tup [.sl (Af (Xv (V2 D n nets p).ch)) (some (V2 D n nets p).ch.length) none,tI 0])) (hS D n (V2 D n nets p).nets (V2 D n nets p).ev):=by
 have hlen:p.inn.l.length=D.inp.l.length/\p.st.l.length=D.sts.l.length/\p.inn.l.any Cm=false/\p.st.l.any Cm=false:=by
  unfold Zv at he
  split at he
  ·cases he
  split at he
  ·cases he
  rename_i a b
  refine⟨by omega,by omega,?_,?_⟩
  ·cases h:p.inn.l.any Cm
   ·rfl
   ·exact absurd (.inl h) b
  ·cases h:p.st.l.any Cm
   ·rfl
   ·exact absurd (.inr h) b
 obtain⟨l1,l2,a1,a2⟩:=hlen
 have v1:∀ v∈p.inn.l,V4 v:=fun v hm=>by
  have:=xz8.1 a1 v hm
  simp only[Cm,xqu]at this
  exact⟨hp.1 v hm,by omega⟩
 have v2:∀ v∈p.st.l,V4 v:=fun v hm=>by
  have:=xz8.1 a2 v hm
  simp only[Cm,xqu]at this
  exact⟨hp.2 v hm,by omega⟩
 refine Ee W9 rfl ?_
 have c1:=F8 (Γ:=Γ) p.inn.l p.inn.cap p.inn.nl 42 [] Cm (fun x _=>qDD x) (by omega)
 have c2:=F8 (Γ:=Γ) p.st.l p.st.cap p.st.nl 42 [] Cm (fun x _=>qDD x) (by omega)
 rw[a1]at c1
 rw[a2]at c2
 have L0:=qEf (D:=D) (nets:=nets) (n:=n) (by omega) hl hv
 obtain⟨L1,L1c,_⟩:=q1e hD D.inp.l p.inn.l _ hin v1 L0 (by simp only[xq9];omega)
 obtain⟨L2,L2c,_⟩:=q1e hD D.sts.l p.st.l _ hst v2 L1 (by simp only[xq9]at L1c;omega)
 simp only[xq9]at L1c L2c
 have hap:V2 D n nets p=Rk D n n (Ih D (Ih D ⟨nets,List.replicate n false,[],[],0⟩ D.inp.l p.inn.l) D.sts.l p.st.l):=rfl
 have A1:=fun Q h0=>qME (Γ:=Γ) (Q:=Q) D n hD.ok (by omega) p (by omega) l1 hin (Ih D ⟨nets,List.replicate n false,[],[],0⟩ D.inp.l p.inn.l) h0 D.inp.l.length 0 ⟨nets,List.replicate n false,[],[],0⟩ (by omega) L0.b.ok (by simp only[xq9];omega) (by rw[xzt,xzt])
 generalize Ih D ⟨nets,List.replicate n false,[],[],0⟩ D.inp.l p.inn.l=R1 at *
 have A2:=fun Q h0=>qMF (Γ:=Γ) (Q:=Q) D n hD.ok (by omega) p (by omega) l2 hst (Ih D R1 D.sts.l p.st.l) h0 D.sts.l.length 0 R1 (by omega) L1.b.ok (by omega) (by rw[xzt,xzt])
 generalize Ih D R1 D.sts.l p.st.l=R2 at *
 have A3:=fun Q h0 E hE=>qPj (Γ:=Γ) (Q:=Q) hΓ D n hD (by omega) H hcn (Rk D n n R2) h0 n R2 n E hE L2.t (by omega) L2 rfl
 rw[<- hap]at A3
 generalize V2 D n nets p=R at *
 simp[hA,Bg,qFl,tP,tV,As]at A1
 simp[hA,Bg,qFm,tP,tV,As]at A2
 simp[hA,Bg,As]at A3
 have hcn':((Bc Dl D.c.nodes.l).length:Int)=n:=by rw[Ab,hcn]
 simp[Gi,hS,Bg,tP,tV,As,l1,l2,A6]
 refine A4 c1 (by simp[Ai]) ?_
 simp
 refine A4 c2 (by simp[Ai]) ?_
 simp[Aa,Ab,hcn]
 have hz:List.replicate n [T.v (Value.bool false)]=Au tB (List.replicate n false):=by simp[Au]
 rw[hz]
 refine⟨by omega,⟨[(0,.lp 1000000 0 0),(3,.t (.ip (tP p) 0)),(7,.lp 60 0 0)],hA D n ⟨nets,List.replicate n false,[],[],ev⟩⟩,Imp.like (fun t a h=>h) (fun t=>?_),?_⟩
 ·have e9:Oe 999=800999:=rfl
  have e0:F9 Oe []=[]:=rfl
  have e1:Au tI []=[]:=rfl
  simp only[hA,Wq,A5,xq3,e9,e0,e1,xq9,Bg,As,Aa]
  by_cases t0:60=t
  ·subst t0;simp
  by_cases t1:1000000=t
  ·subst t1;simp
  by_cases t2:1000001=t
  ·subst t2;simp
  by_cases t3:58=t
  ·subst t3;simp
  by_cases t4:51=t
  ·subst t4;simp
  simp only[t0,t1,t2,t3,t4,if_false]
 ·simp[hA,Bg,tP,tV,As,A6]
  refine A1 _ ?_
  simp[A6]
  refine A2 _ ?_
  simp
  refine A3 _ (fun hw hch=>?_) _ rfl
  have hls:Wq Oe R=[(800999,.sl 3 1 (Af R.ch))]:=by simp only[Wq,hw,xq3];rfl
  simp[-C6,-Ac,-To,-B7,hls,hw,F9]
  refine⟨[800999],by simp,.t (.tup []),[(1000000,.sl 3 1 (Af (Xv R.ch)))],?_,?_,?_⟩
  ·have:=qLM (Γ:=Γ) 3 R.ch hch none
   simpa using this
  ·simp[X5,Af,A6,V1,B9.sh]
  ·simp
   refine⟨[800999],by simp,.ls 1000000 0 R.ch.length (some R.ch.length),[(1000000,.sl 3 1 (Af (Xv R.ch)))],?_,?_,?_⟩
   ·have:=qA2 (Γ:=Γ) 3 (Af (Xv R.ch)) R.ch.length none A9
    simpa using this
   ·simp[X5,B9.sh]
   ·have htk:(Af (Xv R.ch)).take R.ch.length=Af (Xv R.ch):=by rw[<- V1,<- A6 (f:=tI)];exact xzn
    simp[Ey,Ai,htk,St.freeze,Ei,Cb,frz1,frz0,del,B9.closed,Bg,As,Aa]
end Go.Lg
namespace Go.Lg
open Go
section
variable {P:Program} {Γ:Tables} {Q:AX->St->Prop} {s:St}
/- probecard/events.New (function 11) -/
abbrev q5T:IC:=.gh (.seq (.reg [od 58 (.bin .lss (tm 57) (tm 56))] [.keepE [1,7,8,48,49,50,55,56,57,58]]) (.seq (.cond (tm 58) .skip (.exit 2)) (.seq (.block 3 (.seq (.reg [od 59 (ia 2 55 57),od 60 (lG 2 59),od 11 (.alloc false [(.int
 .i64 0),(.int .i64 0)]),on (.store 2 (tm 11) (tm 60))] [.keepE [1,7,8,11,48,49,50,55,56,57]]) (.seq (.reg [od 61 (fa 0 1),od 62 (ld 1 61),od 63 (fa 0 11),od 64 (ld 1 63),od 65 (ia 4 62 64),od 66 (fa 0 65),od 67 (ld
 1 66),od 68 (.call 14 [(tm 67)])] [.keepE [1,7,8,11,48,49,50,55,56,57,68]]) (.cond (tm 68) (.reg [od 69 (.mvP (tm 7)),od 70 (.nckP (tm 69)),od 71 (.fadP 7 (tm 70)),od 72 (.ldP 1 (tm 71)),od 73 (.mvP (tm 8)),om 74 7,
 od 75 (.nck (tm 74)),od 76 (fa 7 75),od 77 (.ldR 31 1 false (tm 76)),om 78 8,od 79 (ia 1 77 78),od 80 (ld 1 79),od 81 (fa 0 11),od 82 (.ldR 11 1 false (tm 81)),od 83 (.bsl true 3 1 [(tm 82)]),od 84 (.app false 3 1 (tm 80)
 (tm 83)),od 85 (ia 1 72 73),on (.store 1 (tm 85) (tm 84))] [.ren 84 700,.keepE [1,7,8,48,49,50,55,56,57]]) .skip)))) (.reg [od 86 (.bin .add (tm 57) (ki 1)),om 57 86] [.drop [11],.keepE [1,7,8,48,49,50,55,56,
 57]])))) [.keepE [1,7,8,48,49,50,55,56,57]]
def Vj:IC:=.loop q5T
abbrev q5U:IC:=.gh (.seq (.reg [od 51 (.bin .lss (tm 50) (tm 49))] [.keepE [1,7,48,49,50,51]]) (.seq (.cond (tm 51) .skip (.exit 0)) (.seq (.block 1 (.seq (.reg [om 52 50,od 53 (ia 1 48 50),od 54 (ld 1 53),om 8 52,om 9 54] [.keepE [1,7,
 8,9,48,49,50]]) (.seq (.reg [om 55 9,od 56 (le 0 55),od 57 (.mv (ki 0))] [.keepE [1,7,8,48,49,50,55,56,57]]) (.block 2 Vj)))) (.reg [od 87 (.bin .add (tm 50) (ki 1)),om 50 87] [.frz 700,.keepE [1,7,48,
 49,50]])))) [.keepE [1,7,48,49,50]]
def Vk:IC:=.loop q5U
abbrev q5V:IC:=(.seq (.reg [od 1 (.box true (tm 0)),od 2 (.mv (.const (.pointer none))),od 3 (.mv (ki 0))] [.keepE [1]]) (.seq (.reg [od 13 (.ldT 4 true (tm 1)),od 14 (.ldT 4 true (tm 1)),od 15 (.callT 17 [(tm 14)]),od 16 (.ncall 22 [(tm
 13),(tm 15)] 600),om 12 16,od 17 (ex 12 0),od 18 (ex 12 1),od 19 (ex 12 2),od 4 (.alloc false [(.slice none 0 0),(.slice none 0 0)]),on (.stR 4 2 (tm 4) (tm 17)),om 5 18,om 6 19] [.drop [4,604],.keepE [1,5,6]]) (.seq
 (.seq (.reg [om 20 6,od 21 (.bin .neq (tm 20) (ki 0))] [.keepE [1,5,6,21]]) (.cond (tm 21) (.seq (.reg [om 22 6,od 2 (.mv (.const (.pointer none))),om 3 22] [.keepE [2,3]]) .ret) .skip)) (.seq (.reg [od 23 (lG 4 1),od 24
 (.call 37 [(tm 23)]),od 25 (lG 4 1),od 26 (.call 38 [(tm 25)]),od 27 (lG 4 1),od 28 (.call 39 [(tm 27)]),om 29 5,od 30 (.build [(4,(tm 24)),(1,(tm 26)),(1,(tm 28)),(1,kN),(1,kN),(1,(tm 29)),(1,(ki 0))]),od 31
 (.box false (tm 30)),om 7 31] [.keepE [1,7]]) (.seq (.reg [om 33 7,od 34 (lG 4 1),od 35 (.call 40 [(tm 34)]),om 32 35,od 36 (ex 32 0),od 37 (ex 32 1),od 38 (.nck (tm 33)),od 39 (fa 6 38),on (.store 1 (tm 39) (tm 36))]
 [.keepE [1,7]]) (.seq (.reg [om 40 7,od 41 (fa 0 1),od 42 (ld 1 41),od 43 (le 0 42),od 44 (.mk 33 1 [(.slice none 0 0)] (tm 43) (tm 43)),od 45 (.nck (tm 40)),od 46 (fa 7 45),on (.store 1 (tm 46) (tm 44))] [.toR 44,.keepE
 [1,7]]) (.seq (.seq (.reg [od 47 (lG 4 1),od 48 (.call 41 [(tm 47)]),od 49 (le 0 48),od 50 (.mv (ki 0))] [.keepE [1,7,48,49,50]]) (.block 0 Vk)) (.seq (.reg [om 88 7,om 2 88,od 3 (.mv (ki 0))] [.frz 44,.keepE
 [2,3]]) .ret))))))))
theorem q0V (h:∀ K:St->Prop,K=run P Γ Vj Q->run P Γ q5T (Aw K Q) s):run P Γ Vj Q s:=Ah h
theorem q0W (h:∀ K:St->Prop,K=run P Γ Vk Q->run P Γ q5U (Aw K Q) s):run P Γ Vk Q s:=Ah h
def q5W:List RV:=[.tmp 2,.tmp 3]
/- probecard/sims.Observe (function 66) -/
abbrev q1f:IC:=(.seq (.reg [od 2 (.box true (tm 0)),od 4 (.alloc false [(.slice none 0 0),(.slice none 0 0)])] [kp [1,2,4] [4,124,155]]) (.seq (.reg [od 5 (lG 4 2),om 6 1,od 7 (.build [(4,(tm 5)),(1,(tm 6))]),od 8 (.ncall 65 [(tm 7)]
 100),on (.store 2 (tm 4) (tm 8))] [kp [4] [4,124,155]]) .ret))
def q1g:List RV:=[.cell 4 2 true]
/- slices.Clone[[]probecard/api.Value,probecard/api.Value] (function 58) -/
abbrev Ns:IC:=(.seq (.reg [od 2 (.mv kN)] [kp [0] []]) (.seq (.seq (.reg [om 3 0,od 4 (.isNil true (tm 3))] [kp [0,4] []]) (.cond (tm 4) (.seq (.reg [od 2 (.mv kN)] [kp [2] [7]]) .ret) .skip)) (.seq (.reg [od 5 (.bsl true 65 1 []),om 6 0,od
 7 (.app false 65 1 (tm 5) (tm 6)),om 2 7] [kp [2] [7]]) .ret)))
def Nu:List RV:=[.tmp 2]
end
end Go.Lg
namespace Go.Lg
open Go Go.Proofs
theorem qAy:Ba Tryz.prog 11 q5V 89 1 q5W=true:=by kernel_rfl
theorem q7P:Ba Tryz.prog 66 q1f 9 2 q1g=true:=by kernel_rfl
theorem Yf:Ba Tryz.prog 58 Ns 8 1 Nu=true:=by kernel_rfl
end Go.Lg
namespace Go.Lg
open Go Go.Proofs
variable {Γ:Tables}
theorem qDE (l:List Int) (cap:Option Nat) (hl:l.length<=1000000) (h0:l≠[]):A8 Tryz.prog Γ 58 [.sl (Ar l) cap none] (.sl (Ar l) none none):=by
 refine Ae Yf rfl ?_
 have h4:Ar l≠[]:=by simpa[Au]using h0
 simp(disch:=omega) [Ns,Nu,A9,A6,h4,By]
 omega
theorem qAz (D:Ci) (n:Nat) (nets:List Int) (ev:Int) (hn:n<=100000) (hl:nets.length=n) (h0:0<n) :
  Bm Tryz.prog Γ 18 (hS D n nets ev) [.lp 1000000 0 0] (.t (.sl (Ar nets) (some n) none)) (hS D n nets ev):=by
 refine Ee q37 rfl ?_
 have htk:(Ar nets).take n=Ar nets:=by rw[<- hl];exact C4
 have hne:nets≠[]:=fun e=>by rw[e]at hl;simp at hl;omega
 have c1:=qDE (Γ:=Γ) nets (some n) (by omega) hne
 have c2:=qJ8 (Γ:=Γ) (Ar nets) none none A9
 simp[W7,W8,hS,Bg]
 refine A4 c1 (by simp[Ai,htk]) ?_
 simp
 refine Aq c2 rfl ?_
 simp[A6,hl]
theorem qFp (c:Bi) (hc:COk c) (nets:Sl Int) (hl:nets.l.length<=1000000000):Bm Tryz.prog Γ 65 [] [.ag ((Zh c nets).map .t)] (.ag [.ls 24 0 (O3 c nets.l).length (some (O3 c nets.l).length),.ls 55 0 (Do c nets.l).length (some (Do c nets.l).length)])
  [(2,.bx [.ls 24 0 (O3 c nets.l).length (some (O3 c nets.l).length),.ls 55 0 (Do c nets.l).length (some (Do c nets.l).length)]),(24,.sl 65 1 (Ar (O3 c nets.l))),(55,.sl 65 1 (Ar (Do c nets.l)))]:=by
 refine Ee W5 rfl ?_
 have hn:=hc.nodes
 have ho:=hc.outs
 have hs:=F3 c
 have g1:=fun Q h0=>qAR (Γ:=Γ) (Q:=Q) c nets hl ho (O3 c nets.l) h0 c.outs.l.length 0 [] (by omega) rfl (by simp[O3])
 have g2:=fun Q h0=>q84 (Γ:=Γ) (Q:=Q) c hc nets hl (B8 c) (by omega) (fun x hx=>⟨(F7 x hx).1,(F7 x hx).2.1⟩) (O3 c nets.l) (Do c nets.l) h0 (B8 c).length 0 [] (by omega) rfl (by simp[Do])
 have l1:(O3 c nets.l).length=c.outs.l.length:=by simp[O3]
 have l2:(Do c nets.l).length=(B8 c).length:=by simp[Do]
 have t1:=C4 (l:=O3 c nets.l)
 have t2:=C4 (l:=Do c nets.l)
 generalize O3 c nets.l=O at *
 generalize Do c nets.l=S at *
 simp[Oz,Zh,Aa,Ad,Ag,As,tV,A6]
 refine g1 _ ?_
 simp[q36,q67,Zh,Aa,Ad,Ag,As,tV]
 refine Aq (Qq c hc) rfl ?_
 simp[A6]
 refine g2 _ ?_
 have hc1:=q2J (Γ:=Γ) 65 (Ar O) none A9
 have hc2:=q2J (Γ:=Γ) 65 (Ar S) none A9
 simp only[A6]at hc1 hc2
 simp[q36,q67]
 refine⟨_,hc1,?_⟩
 simp
 refine⟨_,hc2,?_⟩
 simp[P0]
theorem qJr (c:Bi) (hc:COk c) (nets:Sl Int) (hl:nets.l.length<=1000000000):A8 Tryz.prog Γ 66 [.agg (tC c),tV nets] (.agg [tVs (O3 c nets.l),tVs (Do c nets.l)]):=by
 refine Ae q7P rfl ?_
 have h:=qFp (Γ:=Γ) c hc nets hl
 have t1:=C4 (l:=O3 c nets.l)
 have t2:=C4 (l:=Do c nets.l)
 generalize O3 c nets.l=O at *
 generalize Do c nets.l=N at *
 simp[Zh,Aa,Ad,Ag,As,tV]at h
 simp[q1f,tC,Aa,Ad,Ag,As,tV]
 refine⟨_,_,h,?_⟩
 simp[q1g,tVs,Dv,Ge,Fo,Ax,Ai,t1,t2]
theorem qFq (D:Ci) (n:Nat) (nets:List Int) (ev:Int) (hc:COk D.c) (hn:n<=100000) (hl:nets.length=n) :
  Bm Tryz.prog Γ 23 (hS D n nets ev) [.lp 1000000 0 0] (.ag [.t (tVs (O3 D.c nets)),.t (tVs (Do D.c nets))]) ((2,.bx [.t (tVs (O3 D.c nets)),.t (tVs (Do D.c nets))])::hS D n nets ev):=by
 refine Ee q1M rfl ?_
 have htk:(Ar nets).take n=Ar nets:=by rw[<- hl];exact C4
 have h:=qJr (Γ:=Γ) D.c hc ⟨nets,some n,none⟩ (by simp only[hl];omega)
 simp only[tVs]at h
 simp[Ta,Tc,hS,Bg,tVs]
 refine A4 h (by simp[Ai,htk,tC,tV,Ak]) ?_
 simp
theorem qNo (hΓ:GOk Γ) (c:Bi) (hc:COk c) (hn:c.nodes.l.length<=19) (p:Pat) (hp:p.inn.l.length<=1000000000/\p.st.l.length<=1000000000) (hv:(∀ v∈p.inn.l,0<=v)/\∀ v∈p.st.l,0<=v) (h1:Cf c=0) (h2:Su c p=0) :
  Bm Tryz.prog Γ 22 [] [.t (.agg (tC c)),.t (.agg (tP p))] (.tu [.t (.agg [tVs (O3 c (Br c p.inn.l p.st.l)),tVs (Do c (Br c p.inn.l p.st.l))]),.ls 34 0 c.nodes.l.length (some c.nodes.l.length),.t (tI 0)])
   [(4,.bx [.t (tVs (O3 c (Br c p.inn.l p.st.l))),.t (tVs (Do c (Br c p.inn.l p.st.l)))]),(34,.sl 65 1 (Ar (Br c p.inn.l p.st.l)))]:=by
 refine Ee q6z rfl ?_
 simp[q3t,tC,Aa,Ad,Ag,As,tP,tV]
 refine A4 (qAM hΓ c hc hn) rfl ?_
 simp[h1]
 refine A4 (qCA c hc p hp) rfl ?_
 obtain⟨l1,l2,v1,v2⟩:p.inn.l.length=(Bd c).length/\p.st.l.length=(B8 c).length/\(∀ v∈p.inn.l,V4 v)/\∀ v∈p.st.l,V4 v:=by
  unfold Su at h2
  split at h2
  ·cases h2
  split at h2
  ·cases h2
  split at h2
  ·cases h2
  rename_i a b d
  refine⟨by omega,by omega,fun v hvm=>⟨hv.1 v hvm,?_⟩,fun v hvm=>⟨hv.2 v hvm,?_⟩⟩
  ·have:¬ p.inn.l.any Cm=true:=fun h=>d (.inl h)
   rw[xz1]at this
   have h3:¬ Cm v=true:=fun h=>this ⟨v,hvm,h⟩
   simp[Cm]at h3;omega
  ·have:¬ p.st.l.any Cm=true:=fun h=>d (.inr h)
   rw[xz1]at this
   have h3:¬ Cm v=true:=fun h=>this ⟨v,hvm,h⟩
   simp[Cm]at h3;omega
 have H:=q3v hc h1
 have hzl:(List.replicate c.nodes.l.length (0:Int)).length=c.nodes.l.length:=by simp
 have hload:=qJ9 (Γ:=Γ) c hc p (some c.nodes.l.length) (List.replicate c.nodes.l.length 0) hzl l1 l2
 have hz:List.replicate c.nodes.l.length [T.v (Value.int .u8 0)]=Ar (List.replicate c.nodes.l.length 0):=by simp[Au]
 have hL:Ek (B8 c) p.st.l (Ek (Bd c) p.inn.l (List.replicate c.nodes.l.length 0))=Kq c p.inn.l p.st.l:=rfl
 rw[hL]at hload
 have hol:(I9 c).length=c.nodes.l.length:=by rw[(Qs c).1.length_eq,Hv]
 have ho:=fun Q h0=>qCv (Γ:=Γ) (Q:=Q) hΓ c H (I9 c) (by omega) (fun n hn=>by rw[(Qs c).1.mem_iff,Lm]at hn;exact hn) (Br c p.inn.l p.st.l) h0 (I9 c).length 0 (Kq c p.inn.l p.st.l) 0 [] (by omega) Ky (q2L v2 (q2L v1 (fun v hv=>by rw[(List.mem_replicate.1 hv).2];simp[V4]))) rfl
 have hnl:(Br c p.inn.l p.st.l).length=c.nodes.l.length:=by unfold Br;rw[q1B,Ky]
 have hll:(Kq c p.inn.l p.st.l).length=c.nodes.l.length:=Ky
 have hobs:=q70 (Γ:=Γ) c hc ⟨Br c p.inn.l p.st.l,some c.nodes.l.length,none⟩ (by simp only[hnl];omega)
 have htk:(Ar (Br c p.inn.l p.st.l)).take c.nodes.l.length=Ar (Br c p.inn.l p.st.l):=by rw[<- hnl];exact C4
 simp only at hobs
 generalize Br c p.inn.l p.st.l=NL at *
 generalize Kq c p.inn.l p.st.l=LL at *
 simp[h2,Ab]
 refine⟨by omega,?_⟩
 rw[hz]
 refine⟨_,_,hload,?_⟩
 simp[A6,hll,hol]
 simp only[hol]at ho
 refine ho _ fun m inb=>?_
 simp[qCu,Wy,q4p,Aa,Ad,Ag,As]
 refine A4 hobs (by simp[Ai,htk,Zh,Aa,Ad,Ag,As,tV]) ?_
 simp[W4,Ai,htk,tVs]
def q9F:Sl Int:=⟨[],some 0,some true⟩
def rdS (l:List Int):Sl Int:=if l=[]then q9F else⟨l,none,none⟩
def Wl (c:Bi) (r:M8):List Int:=(r.filter fun p=>C2 (Aj c p.1.toNat)).map (·.1)
def Yg (c:Bi):List (Sl Int):=(B6 c).map fun r=>rdS (Wl c r)
def Ig (c:Bi):Pat:=⟨⟨List.replicate (Bd c).length 2,none,none⟩,⟨List.replicate (B8 c).length 2,none,none⟩⟩
def I3 (c:Bi):Ci:=⟨Ri c,⟨Bd c,some (Bd c).length,none⟩,⟨B8 c,some (B8 c).length,none⟩,⟨(Hu c).2.out,none,none⟩,⟨Yg c,none,none⟩⟩
def esR (l:List (Sl Int)):List (List AV):=l.map fun s=>[.t (As s)]
def qB0 (acc:List Int):AV:=if acc=[]then .t (As q9F)else .ls 700 0 acc.length none
def qB1 (acc:List Int):List (Nat×B9):=if acc=[] then[] else[(700,.sl 3 1 (Af acc))]
theorem q4d {l:List (Sl Int)}:(esR l).length=l.length:=by simp[esR]
theorem qFr {l:List (Sl Int)} {n:Nat} {x:AV} {f:AV->AV} (hf:∀ t,f (.t t)=.t t):((esR l).set n [x]).map (fun e=>e.map f)=(esR l).set n [f x]:=by
 have:(esR l).map (fun e=>e.map f)=esR l:=by
  simp only[esR,xq5]
  refine xq1 fun s _=>?_
  simp[hf]
 rw[List.map_set,this];rfl
theorem qNp {l:List (Sl Int)} {n:Nat} {x:AV} (h:n<l.length):((esR l).set n [x])[n]?.getD []=[x]:=by
 have:n<(esR l).length:=by rw[q4d];exact h
 simp[this]
def bxN (m:Nat) (xs:List T) (ev:T):B9:=.bx [.t (xs.getD 0 (tI 0)),.t (xs.getD 1 (tI 0)),.t (xs.getD 2 (tI 0)),.t (xs.getD 3 (tI 0)),.t (xs.getD 4 (tI 0)),.t (xs.getD 5 (tI 0)),.t (xs.getD 6 (tI 0)),.ls 44 0 m none,.ls 634 0 m (some m),.t ev]
theorem qJs {φ:Nat->Option Nat} {x:T}:Ac φ (.t x)=.t x:=rfl
theorem qH0 {a b i x y:Nat} (h:¬ i=a):Ac (B1 a b) (.lp i x y)=.lp i x y:=by simp[Ac,ren1,ren0,B1,h]
theorem qH1 {a b i x y:Nat} {c:Option Nat} (h:¬ i=a):Ac (B1 a b) (.ls i x y c)=.ls i x y c:=by simp[Ac,ren1,ren0,B1,h]
theorem qDF {a b x y:Nat} {c:Option Nat}:Ac (B1 a b) (.ls a x y c)=.ls b x y c:=by simp[Ac,ren1,ren0,B1]
theorem qH2 {φ:Nat->Option Nat} {cs:List AV}:B7 φ (.bx cs)=.bx (cs.map (Ac φ)):=rfl
theorem qH3 {φ:Nat->Option Nat} {t s:Nat} {es:List (List T)}:B7 φ (.sl t s es)=.sl t s es:=rfl
theorem qH4 {t s a b n:Nat} {l:List (Sl Int)} {x:AV}:B7 (B1 a b) (.rs t s ((esR l).set n [x]))=.rs t s ((esR l).set n [Ac (B1 a b) x]):=by
 show B9.rs t s (((esR l).set n [x]).map fun e=>e.map (Ac (B1 a b)))=_
 rw[qFr fun t=>qJs]
theorem q9S {t s K n:Nat} {l:List (Sl Int)} {x:AV}:Bn K (.rs t s ((esR l).set n [x]))=.rs t s ((esR l).set n [Am K x]):=by
 show B9.rs t s (((esR l).set n [x]).map fun e=>e.map (Am K))=_
 rw[qFr fun t=>q7K]
theorem qJt {Q:AX->St->Prop} (c:Bi) (hn:c.nodes.l.length<=1000000) (l:List (Sl Int)) (n:Nat) (hl:n<l.length) (row:M8) (hrow:∀ q∈row,0<=q.1/\q.1<c.nodes.l.length) (hrl:row.length<=1000000) (m:Nat) (hm:m=l.length) (xs:List T) (ev t48 t49 t50:T) (V:List (List T)) (R:List Int)
  (h0:Q (.exit 2) ⟨[(1,.t (.ip (tC c) 0)),(7,.lp 31 0 0),(8,.t (tI n)),(48,.t t48),(49,.t t49),(50,.t t50),(55,.t (He row)),(56,.t (tI row.length)),(57,.t (tI row.length)),(58,.t (tB false))],qB1 R++[(44,.rs 33 1 ((esR l).set n [qB0 R])),(31,bxN m xs ev),(634,.sl 65 1 V)]⟩) :
  ∀ (j i:Nat) (acc:List Int),j+i=row.length->acc.length<=i->acc++Wl c (row.drop i)=R ->
  run Tryz.prog Γ Vj Q ⟨[(1,.t (.ip (tC c) 0)),(7,.lp 31 0 0),(8,.t (tI n)),(48,.t t48),(49,.t t49),(50,.t t50),(55,.t (He row)),(56,.t (tI row.length)),(57,.t (tI i))],qB1 acc++[(44,.rs 33 1 ((esR l).set n [qB0 acc])),(31,bxN m xs ev),(634,.sl 65 1 V)]⟩
 | 0,i,acc,h,ha,hR=>by
  refine q0V fun K hK=>?_
  have h2:i=row.length:=by omega
  subst h2
  rw[xzs]at hR
  simp only[Wl,List.filter_nil,xq3,List.append_nil]at hR
  subst hR
  simp[He,Ab]at h0
  simp[He,Ab]
  simpa using h0
 | j+1,i,acc,h,ha,hR=>by
  refine q0V fun K hK=>?_
  have h2:i<row.length:=by omega
  rw[xqq h2]at hR
  have hq:=hrow _ (xqj h2)
  have eg:∀ h,(Bc tLn row)[i]'h=tLn row[i]:=fun h=>by simp[Bc]
  generalize row[i]=p at *
  obtain⟨k,pin⟩:=p
  simp only[tLn]at eg
  have hk:=q3u hq.1 hq.2
  have hk':=q7J hq.1 hq.2
  have hkk:(nd c k).k=Aj c k.toNat:=rfl
  have hcomb:=q4W (Γ:=Γ) (Aj c k.toNat)
  have hcb:decide (1<=Aj c k.toNat/\Aj c k.toNat<=13)=C2 (Aj c k.toNat):=rfl
  rw[hcb]at hcomb
  have ih:=fun acc=>qJt c hn l n hl row hrow hrl m hm xs ev t48 t49 t50 V R h0 j (i+1) acc (by omega)
  simp[He,Ab]at ih
  have hget:=fun x=>qNp (x:=x) hl
  have w1:=Nl (i:=i) (by omega)
  by_cases hb:C2 (Aj c k.toNat)=true
  ·have hR2:(acc++[k])++Wl c (row.drop (i+1))=R:=by rw[<- hR];simp[Wl,hb]
   have ih:=ih (acc++[k]) (by simp;omega) hR2
   rw[hb]at hcomb
   by_cases hacc:acc=[]
   ·subst hacc
    simp[qB1,qB0]at ih
    simp[He,Ab,h2,eg,q26,tC,Aa,qB1,qB0,bxN,hk,hk',hq,Bq,Dl,hkk]
    refine A4 hcomb rfl ?_
    simp[-Ac,-B7,-Am,-Bn,hl,hm,hget,q4d,As,q9F,Gy,X8,K6,qJs,qH0,qH1,qDF,qH2,qH3,qH4,q0T,q0U,M5,Zu,q7K,q6D,Yd,q2T,q9S]
    rw[hK,w1]
    simpa[tC,Aa,As,bxN,hm,Au]using ih
   ·have hacc2:¬ acc++[k]=[]:=by simp
    have hE:Af acc++[[tI k]]=Af (acc++[k]):=E0
    simp only[qB1,qB0,if_neg hacc2]at ih
    simp[He,Ab,h2,eg,q26,tC,Aa,qB1,qB0,bxN,hk,hk',hq,Bq,Dl,hkk,hacc]
    refine A4 hcomb rfl ?_
    simp[-Ac,-B7,-Am,-Bn,hl,hm,hget,q4d,As,q9F,Gy,X8,K6,qJs,qH0,qH1,qDF,qH2,qH3,qH4,q0T,q0U,M5,Zu,q7K,q6D,Yd,q2T,q9S,A6,A9,hacc]
    refine⟨by omega,?_⟩
    rw[hK,w1,hE]
    simpa[tC,Aa,As,bxN,hm]using ih
  ·have hb:C2 (Aj c k.toNat)=false:=by simpa using hb
   have hR2:acc++Wl c (row.drop (i+1))=R:=by rw[<- hR];simp[Wl,hb]
   have ih:=ih acc (by omega) hR2
   rw[hb]at hcomb
   by_cases hacc:acc=[]
   ·subst hacc
    simp[qB1,qB0]at ih
    simp[He,Ab,h2,eg,q26,tC,Aa,qB1,qB0,bxN,hk,hk',hq,Bq,Dl,hkk]
    refine A4 hcomb rfl ?_
    simp[-Ac,-B7,-Am,-Bn,hl,hm,hget,q4d,As,q9F,Gy,X8,K6,qJs,qH0,qH1,qDF,qH2,qH3,qH4,q0T,q0U,M5,Zu,q7K,q6D,Yd,q2T,q9S]
    rw[hK,w1]
    simpa[tC,Aa,As,bxN,hm,Au,q9F]using ih
   ·simp only[qB1,qB0,if_neg hacc]at ih
    simp[He,Ab,h2,eg,q26,tC,Aa,qB1,qB0,bxN,hk,hk',hq,Bq,Dl,hkk,hacc]
    refine A4 hcomb rfl ?_
    simp[-Ac,-B7,-Am,-Bn,hl,hm,hget,q4d,As,q9F,Gy,X8,K6,qJs,qH0,qH1,qDF,qH2,qH3,qH4,q0T,q0U,M5,Zu,q7K,q6D,Yd,q2T,q9S]
    rw[hK,w1]
    simpa[tC,Aa,As,bxN,hm]using ih
theorem qH5 {l:List (Sl Int)} {n:Nat} {x:Sl Int}:(esR l).set n [.t (As x)]=esR (l.set n x):=by simp[esR,List.map_set]
theorem qJu {t s K n:Nat} {l:List (Sl Int)} {x:AV} {r:B9}:Ei K r (.rs t s ((esR l).set n [x]))=.rs t s ((esR l).set n [Cb K r x]):=by
 show B9.rs t s (((esR l).set n [x]).map fun e=>e.map (Cb K r))=_
 rw[qFr fun t=>qEe]
theorem qFs {K:Nat} {r:B9} {cs:List AV}:Ei K r (.bx cs)=.bx (cs.map (Cb K r)):=rfl
theorem qFt {K t s:Nat} {r:B9} {es:List (List T)}:Ei K r (.sl t s es)=.sl t s es:=rfl
theorem qH6 {K t len:Nat} {l:List Int} (h:l.length=len):Cb K (.sl t 1 (Af l)) (.ls K 0 len none)=.t (.sl (Af l) none none):=by
 subst h
 have:(Af l).take l.length=Af l:=by rw[<- A6 (f:=tI) (l:=l)];exact xzn
 simp[Cb,frz1,frz0,Ai,A5,this]
def q2V (c:Bi) (i:Nat):List (Sl Int):=(Yg c).take i++List.replicate ((B6 c).length-i) q9F
theorem qB2 {c:Bi} {i:Nat} (h:i<=(B6 c).length):(q2V c i).length=(B6 c).length:=by
 have hr:(Yg c).length=(B6 c).length:=by simp[Yg]
 unfold q2V
 rw[xq6,xzf,List.length_replicate,hr];omega
theorem qEg {c:Bi} {i:Nat} (h:i<(B6 c).length):(q2V c i)[i]? = some q9F:=by
 have h2:((Yg c).take i).length=i:=by rw[xzf,show(Yg c).length=(B6 c).length by simp[Yg]];omega
 rw[q2V,xze (by rw[h2];exact xzo _),h2,xz3,if_pos (by omega)]
theorem qJv {c:Bi} {i:Nat} (h:i<(B6 c).length):(q2V c i).set i (rdS (Wl c (B6 c)[i]))=q2V c (i+1):=by
 have hr:(Yg c).length=(B6 c).length:=by simp[Yg]
 have h2:((Yg c).take i).length=i:=by rw[xzf,hr];omega
 have h3:(Yg c)[i]? = some (rdS (Wl c (B6 c)[i])):=by simp[Yg,h]
 refine List.ext_getElem? fun j=>?_
 rw[xzb,qB2 (by omega)]
 by_cases hj:i=j
 ·subst hj
  rw[if_pos rfl,if_pos h]
  unfold q2V
  rw[xzd (by rw[xzf,hr];omega),xq0,if_pos (by omega),h3]
 ·rw[if_neg hj]
  unfold q2V
  by_cases hlt:j<i
  ·rw[xzd (by omega),xzd (by rw[xzf,hr];omega),xq0,xq0,if_pos hlt,if_pos (by omega)]
  ·rw[xze (by omega),xze (by rw[xzf,hr];omega),h2]
   have h4:((Yg c).take (i+1)).length=i+1:=by rw[xzf,hr];omega
   rw[h4]
   simp only[xz3]
   by_cases h5:j<(B6 c).length
   ·rw[if_pos (by omega),if_pos (by omega)]
   ·rw[if_neg (by omega),if_neg (by omega)]
theorem qJw {Q:AX->St->Prop} (c:Bi) (hn:c.nodes.l.length<=1000000) (hrow:∀ r∈B6 c,r.length<=1000000/\∀ q∈r,0<=q.1/\q.1<c.nodes.l.length) (xs:List T) (ev:T) (V:List (List T))
  (h0:Q (.exit 0) ⟨[(1,.t (.ip (tC c) 0)),(7,.lp 31 0 0),(48,.t (q34 (B6 c))),(49,.t (tI (B6 c).length)),(50,.t (tI (B6 c).length)),(51,.t (tB false))],[(44,.rs 33 1 (esR (Yg c))),(31,bxN (B6 c).length xs ev),(634,.sl 65 1 V)]⟩) :
  ∀ (j i:Nat),j+i=(B6 c).length ->
  run Tryz.prog Γ Vk Q ⟨[(1,.t (.ip (tC c) 0)),(7,.lp 31 0 0),(48,.t (q34 (B6 c))),(49,.t (tI (B6 c).length)),(50,.t (tI i))],[(44,.rs 33 1 (esR (q2V c i))),(31,bxN (B6 c).length xs ev),(634,.sl 65 1 V)]⟩
 | 0,i,h=>by
  refine q0W fun K hK=>?_
  have h2:i=(B6 c).length:=by omega
  subst h2
  have h3:q2V c (B6 c).length=Yg c:=by
   have:(Yg c).length=(B6 c).length:=by simp[Yg]
   simp[q2V,<- this]
  rw[h3]
  simp[q34,A6]at h0
  simp[q34,A6]
  simpa using h0
 | j+1,i,h=>by
  refine q0W fun K hK=>?_
  have h2:i<(B6 c).length:=by omega
  have hr:=hrow _ (xqj h2)
  have e:=gE (f:=He) ([]:M8) h2
  have e':=gE' (f:=He) ([]:M8) h2
  have hgd:(B6 c).getD i []=(B6 c)[i]:=by simp[xqe,h2]
  rw[hgd]at e e'
  have hset:=qJv h2
  have hself:(esR (q2V c i)).set i [.t (As q9F)]=esR (q2V c i):=by
   rw[qH5]
   congr 1
   refine List.ext_getElem? fun k=>?_
   rw[xzb]
   split
   ·rename_i hk
    subst hk
    rw[qEg h2,if_pos (by rw[qB2 (by omega)];exact h2)]
   ·rfl
  have hln:=qB2 (c:=c) (i:=i) (by omega)
  generalize hRow:(B6 c)[i]=row at *
  have hl:=fun Q g0=>qJt (Γ:=Γ) (Q:=Q) c hn (q2V c i) i (by rw[hln];exact h2) row hr.2 hr.1 (B6 c).length hln.symm xs ev (q34 (B6 c)) (tI (B6 c).length) (tI i) V (Wl c row) g0 row.length 0 [] (by omega) (by simp) (by rw[xzt,List.nil_append])
  have ih:=qJw c hn hrow xs ev V h0 j (i+1) (by omega)
  rw[<- hset]at ih
  have w1:=Nl (i:=i) (by have:=Ht c;omega)
  have hrw:Au He (B6 c)=(B6 c).map fun r=>[He r]:=rfl
  simp[q34,He,qB1,qB0,hself]at hl
  simp[q34]at ih
  simp[q34,A6,A9,h2,e,e',He,Ab]
  refine hl _ ?_
  by_cases hR:Wl c row=[]
  ·simp only[rdS,hR,if_true]at ih
   have hself2:(q2V c i).set i q9F=q2V c i:=by
    refine List.ext_getElem? fun k=>?_
    rw[xzb]
    split
    ·rename_i hk
     subst hk
     rw[qEg h2,if_pos (by rw[hln];exact h2)]
    ·rfl
   rw[hself2]at ih
   simp[-Ac,-B7,-Am,-Bn,St.freeze,del,B9.closed,qJu,qFs,qFt,qEe,qH6,q6F,qAx,qFo,bxN,hR,hself]
   rw[hK,w1]
   simpa[bxN]using ih
  ·simp only[rdS,hR,if_false]at ih
   simp[-Ac,-B7,-Am,-Bn,St.freeze,del,B9.closed,qJu,qFs,qFt,qEe,qH6,q6F,qAx,qFo,bxN,hR]
   rw[hK,w1]
   have hx:=qH5 (l:=q2V c i) (n:=i) (x:=⟨Wl c row,none,none⟩)
   simp only[As]at hx
   rw[hx]
   simpa[bxN]using ih
theorem qFu {t s:Nat} {l:List (Sl Int)}:B9.closed (.rs t s (esR l))=true:=by
 simp[B9.closed,esR]
theorem qLO {t s K len:Nat} {l:List (Sl Int)} (h:l.length=len):Cb K (.rs t s (esR l)) (.ls K 0 len none)=.t (qJC ⟨l,none,none⟩):=by
 subst h
 have e:(esR l).take l.length=esR l:=by rw[<- q4d];exact xzn
 have h2:∀ l:List (Sl Int),Ak ((esR l).map fun e=>Ak (e.map (Ai [(K,.rs t s (esR l))] 3)))=some (Au As l):=fun l=>by
  have h3:∀ (m:List (Sl Int)) (hp:List (Nat×B9)),Ak ((esR m).map fun e=>Ak (e.map (Ai hp 3)))=some (Au As m):=fun m hp=>by
   induction m with
   | nil=>rfl
   | cons x m ih =>
    simp only[esR,xqm,Au]at ih ⊢
    simp only[Ak,Ai,xq3,xql]
    rw[ih];rfl
  exact h3 l _
 simp only[Cb,frz1,frz0,if_true,Ai,A5,xzt,e,h2,xql,qJC]
theorem qPk (hΓ:GOk Γ) (c:Bi) (hc:COk c) (hk:qHs c) (hcir:CirOk c) (ha:∀ s∈c.names.l,∀ b∈s,b<128) (hn:c.nodes.l.length<=19) (h1:Cf c=0) (h2:Su c (Ig c)=0) :
  Bm Tryz.prog Γ 11 [] [.t (.agg (tC c))] (.tu [.lp 31 0 0,.t (tI 0)]) [(31,.bx (Bg (I3 c) 634 c.nodes.l.length 0)),(634,.sl 65 1 (Ar (Br c (Ig c).inn.l (Ig c).st.l)))]:=by
 refine Ee qAy rfl ?_
 have e1:=qAi (Γ:=Γ) c hc (by have:=Js c;omega) (by have:=F3 c;omega)
 have e2:=qNo hΓ c hc hn (Ig c) (by simp[Ig];have:=Js c;have:=F3 c;omega) (by simp[Ig]) h1 h2
 have e3:=qHt (Γ:=Γ) c hk
 have e4:=q0J (Γ:=Γ) c hc
 have e5:=Qq (Γ:=Γ) c hc
 have e6:=q8g (Γ:=Γ) hΓ c hcir ha
 have e7:=q8c (Γ:=Γ) c (by omega) (fun x hx=>((q3v hc h1).inn x hx).1)
 simp[Ig,tP,tV]at e2
 simp[q5V,tC,Aa,Ad,Ag,As]
 refine⟨_,_,rfl,.inl e1,?_⟩
 simp[tC,Aa,Ad,Ag,As]at e2
 simp
 refine⟨_,_,e2,?_⟩
 simp[tVs]
 refine Aq e3 rfl ?_
 simp[tC,Aa,Ad,Ag,As]
 refine Aq e4 rfl ?_
 simp
 refine Aq e5 rfl ?_
 simp
 refine A4 e6 rfl ?_
 simp[h1]
 have hf:=Ht c
 have hrow:∀ r∈B6 c,r.length<=1000000/\∀ q∈r,0<=q.1/\q.1<c.nodes.l.length:=fun r hr=>by
  have hi:=(q3v hc h1).inn
  have hb:=q5u c (by omega) (fun x hx=>(hi x hx).1) r hr
  refine⟨by omega,fun q hq=>?_⟩
  obtain⟨i,h5,h6⟩:=Um c r hr q hq
  omega
 have hl:=fun Q h0=>qJw (Γ:=Γ) (Q:=Q) c (by omega) hrow [Aa (Ri c).nodes,Ad (Ri c).names,Ag (Ri c).mems,As (Ri c).outs,As ⟨Bd c,some (Bd c).length,none⟩,As ⟨B8 c,some (B8 c).length,none⟩,As ⟨(Hu c).2.out,none,none⟩] (tI 0) (Ar (Br c (List.replicate (Bd c).length 2) (List.replicate (B8 c).length 2))) h0 (B6 c).length 0 (by omega)
 have h00:esR (q2V c 0)=List.replicate c.nodes.l.length [AV.t (T.sl [] (some 0) (some true))]:=by
  simp[q2V,esR,As,q9F,hf,Au]
 rw[h00,hf]at hl
 simp[bxN,tC,Aa,Ad,Ag,As,q34,hf]at hl
 rw[Ab]
 refine⟨by omega,?_⟩
 refine Aq e7 rfl ?_
 simp[q34,A6,hf]
 refine hl _ ?_
 have hrl:(Yg c).length=c.nodes.l.length:=by simp[Yg,hf]
 simp[St.freeze,del,qFu,qLO hrl,qFs,qFt,qEe,q6F,qAx,q5W]
 simp[Bg,I3,Ig,Aa,Ad,Ag,As,Au]
end Go.Lg
namespace Go.Lg
open Go Go.Proofs
def Tv (wl:List (Nat×List Int)) (a:Nat):List Int:=(A5 wl a).getD []
theorem qEh {lv a:Nat} {k:Int} {wl:List (Nat×List Int)}:Tv (Us lv k wl) a=if a=lv then Tv wl lv++[k]else Tv wl a:=by
 unfold Tv
 rw[Re]
 split<;>rfl
theorem qJx {lv a:Nat} {wl:List (Nat×List Int)} (h:(wl.map (·.1)).Nodup):Tv (M7 lv wl) a=if a=lv then[]else Tv wl a:=by
 unfold Tv
 rw[q1N h]
 split<;>rfl
def qd (W:WS) (k:Int):Bool:=W.q.getD k.toNat true
structure QI (D:Ci) (n:Nat) (P:Int->Prop) (ℓ:Int) (W:WS):Prop where
 ql:W.q.length=n
 kd:(W.wl.map (·.1)).Nodup
 wk:∀ a k,k∈Tv W.wl a->(0<=k/\k<(n:Int))/\P k/\qd W k=true/\q1d D k=a/\ℓ<a
 nd:∀ a,(Tv W.wl a).Nodup
theorem qB3 {D:Ci} {n:Nat} {W:WS} {k j:Int} (hq:W.q.length=n) (hk:0<=k/\k<(n:Int)) (hj:0<=j/\j<(n:Int)):qd (G8 D W k) j=(qd W j||decide (j=k)):=by
 unfold G8
 split
 ·rename_i h
  by_cases e:j=k
  ·subst e;unfold qd;rw[h];rfl
  ·simp[e]
 ·unfold qd
  simp only[xqe,xzb]
  by_cases e:j=k
  ·subst e
   have:j.toNat<W.q.length:=by omega
   simp[this]
  ·have:¬ k.toNat=j.toNat:=by omega
   simp[this,e]
theorem qCT {D:Ci} {W:WS} {k:Int}:(G8 D W k).nets=W.nets/\(G8 D W k).ch=W.ch/\(G8 D W k).ev=W.ev:=by
 unfold G8
 split<;>exact⟨rfl,rfl,rfl⟩
theorem qNq {D:Ci} {n:Nat} {P:Int->Prop} {ℓ:Int} {W:WS} (h:QI D n P ℓ W) {k:Int} (hk:0<=k/\k<(n:Int)) (hp:P k) (hl:ℓ<q1d D k) :
  QI D n P ℓ (G8 D W k)/\∀ a j,j∈Tv (G8 D W k).wl a↔(j∈Tv W.wl a\/(j=k/\qd W k=false/\a=q1d D k)):=by
 by_cases hq:qd W k=true
 ·have e:G8 D W k=W:=by unfold G8;unfold qd at hq;rw[if_pos hq]
  rw[e]
  refine⟨h,fun a j=>⟨.inl,?_⟩⟩
  rintro(h1|⟨_,h2,_⟩)
  ·exact h1
  ·rw[hq]at h2;cases h2
 ·have hq2:qd W k=false:=by simpa using hq
  have e:G8 D W k={ W with q:=W.q.set k.toNat true,wl:=Us (q1d D k) k W.wl }:=by
   unfold G8;unfold qd at hq;rw[if_neg hq]
  have hmem:∀ a j,j∈Tv (G8 D W k).wl a↔(j∈Tv W.wl a\/(j=k/\qd W k=false/\a=q1d D k)):=fun a j=>by
   rw[e]
   simp only[qEh]
   split
   ·rename_i ha
    subst ha
    simp only[xzg,xzh]
    constructor
    ·rintro(h1|h1)
     ·exact .inl h1
     ·exact .inr ⟨h1,hq2,trivial⟩
    ·rintro(h1|⟨h1,_,_⟩)
     ·exact .inl h1
     ·exact .inr h1
   ·rename_i ha
    constructor
    ·exact .inl
    ·rintro(h1|⟨_,_,h1⟩)
     ·exact h1
     ·exact absurd h1 ha
  refine⟨⟨?_,?_,fun a j hj=>?_,fun a=>?_⟩,hmem⟩
  ·rw[e];simpa using h.ql
  ·rw[e]
   simp only
   rw[q87]
   split
   ·rename_i hn
    rw[List.nodup_append]
    refine⟨h.kd,by simp,fun a ha b hb=>?_⟩
    simp at hb;subst hb
    obtain⟨p,hp,rfl⟩:=xqy.1 ha
    exact Pe hn p hp
   ·exact h.kd
  ·rcases(hmem a j).1 hj with h1|⟨rfl,_,h1⟩
   ·obtain⟨a1,a2,a3,a4,a5⟩:=h.wk a j h1
    refine⟨a1,a2,?_,a4,a5⟩
    rw[qB3 h.ql hk a1,a3];rfl
   ·refine⟨hk,hp,?_,h1.symm,by rw[h1];exact hl⟩
    rw[qB3 h.ql hk hk];simp
  ·rw[e]
   simp only[qEh]
   split
   ·rw[List.nodup_append]
    refine⟨h.nd _,by simp,fun x hx y hy=>?_⟩
    simp at hy;subst hy
    intro e2
    subst e2
    have:=(h.wk _ _ hx).2.2.1
    rw[hq2]at this;cases this
   ·exact h.nd a
theorem qH7 {D:Ci} {n:Nat} {P:Int->Prop} {ℓ:Int}:∀ (l:List Int) (W:WS),QI D n P ℓ W->(∀ k∈l,(0<=k/\k<(n:Int))/\P k/\ℓ<q1d D k) ->
  QI D n P ℓ (l.foldl (G8 D) W)/\(∀ a j,j∈Tv (l.foldl (G8 D) W).wl a↔(j∈Tv W.wl a\/(j∈l/\qd W j=false/\a=q1d D j))) /\
  (∀ j,0<=j/\j<(n:Int)->qd (l.foldl (G8 D) W) j=(qd W j||decide (j∈l)))/\(l.foldl (G8 D) W).nets=W.nets/\(l.foldl (G8 D) W).ch=W.ch/\(l.foldl (G8 D) W).ev=W.ev
 | [],W,h,_=>⟨h,fun a j=>by simp,fun j _=>by simp,rfl,rfl,rfl⟩
 | k::l,W,h,hl=>by
  obtain⟨b1,b2,b3⟩:=hl k xqh
  obtain⟨h1,h2⟩:=qNq h b1 b2 b3
  obtain⟨c1,c2,c3,c4,c5,c6⟩:=qH7 l (G8 D W k) h1 fun j hj=>hl j (xqf _ hj)
  obtain⟨d1,d2,d3⟩:=qCT (D:=D) (W:=W) (k:=k)
  refine⟨c1,fun a j=>?_,fun j hj=>?_,c4.trans d1,c5.trans d2,c6.trans d3⟩
  ·simp only[xz4]
   rw[c2,h2]
   constructor
   ·rintro((e|⟨rfl,e1,e2⟩)|⟨e1,e2,e3⟩)
    ·exact .inl e
    ·exact .inr ⟨xqh,e1,e2⟩
    ·have hb:=(hl j (xqf _ e1)).1
     rw[qB3 h.ql b1 hb,Bool.or_eq_false_iff]at e2
     exact .inr ⟨xqf _ e1,e2.1,e3⟩
   ·rintro(e|⟨e1,e2,e3⟩)
    ·exact .inl (.inl e)
    ·rcases xqv.1 e1 with rfl|e1
     ·exact .inl (.inr ⟨rfl,e2,e3⟩)
     ·by_cases hjk:j=k
      ·subst hjk;exact .inl (.inr ⟨rfl,e2,e3⟩)
      ·have hb:=(hl j (xqf _ e1)).1
       refine .inr ⟨e1,?_,e3⟩
       rw[qB3 h.ql b1 hb,e2];simp[hjk]
  ·simp only[xz4]
   rw[c3 j hj,qB3 h.ql b1 hj]
   simp only[xqv,Bool.or_assoc]
   congr 1
   by_cases e1:j=k<;>by_cases e2:j∈l<;>simp[e1,e2]
structure EvD (c:Bi) (D:Ci) (n:Nat):Prop where
 cn:c.nodes.l.length=n
 h:Cf c=0
 k:∀ x:Int,0<=x/\x<(n:Int)->(nd D.c x).k=Aj c x.toNat/\(nd D.c x).inn.l=D4 c x.toNat
 rd:∀ m k:Int,0<=m/\m<(n:Int)->(k∈(D.rdr.l.getD m.toNat Sl.z).l↔(0<=k/\k<(n:Int))/\C2 (Aj c k.toNat)=true/\m∈D4 c k.toNat)
 lv:∀ k:Int,0<=k/\k<(n:Int)->(q1d D k:Int)=Gz c k.toNat
def q0o (c:Bi) (k:Int):Prop:=C2 (Aj c k.toNat)=true
structure EvI (c:Bi) (D:Ci) (n:Nat) (N0:List Int) (ℓ:Int) (rest:List Int) (W:WS):Prop where
 qi:QI D n (q0o c) ℓ W
 nl:W.nets.length=n
 rk:∀ k∈rest,(0<=k/\k<(n:Int))/\q0o c k/\qd W k=true/\(q1d D k:Int)=ℓ
 rn:rest.Nodup
 un:∀ i:Int,0<=i/\i<(n:Int)->i∉W.ch->W.nets.getD i.toNat 0=N0.getD i.toNat 0
 cg:∀ i∈W.ch,(0<=i/\i<(n:Int))/\W.nets.getD i.toNat 0≠N0.getD i.toNat 0
 cn:W.ch.Nodup
 nq:∀ k:Int,0<=k/\k<(n:Int)->q0o c k->qd W k=false->∀ m∈D4 c k.toNat,m∉W.ch
 qn:∀ k:Int,0<=k/\k<(n:Int)->qd W k=true->q0o c k/\∃ m∈D4 c k.toNat,m∈W.ch
 fr:∀ k:Int,0<=k/\k<(n:Int)->q0o c k->k∈W.ch->qd W k=true/\k∉rest/\∀ a,k∉Tv W.wl a
 dn:∀ k:Int,0<=k/\k<(n:Int)->q0o c k->qd W k=true->k∉rest->(∀ a,k∉Tv W.wl a)->W.nets.getD k.toNat 0=Gs (Aj c k.toNat) (Dx c W.nets k.toNat)/\(q1d D k:Int)<=ℓ
theorem qFv {c:Bi} {n:Nat} {nets:List Int} {x v:Int} {i:Nat} (hnl:nets.length=n) (hx:0<=x/\x<(n:Int)) (hin:∀ p∈D4 c i,0<=p) (h:x∉D4 c i):Dx c (nets.set x.toNat v) i=Dx c nets i:=by
  unfold Dx
  refine xq1 fun p hp=>?_
  have h0:=hin p hp
  have:¬ p.toNat=x.toNat:=fun e=>h (by rw[show x=p by omega];exact hp)
  rw[E4 (by omega),if_neg this]
theorem qDG {c:Bi} (h:Cf c=0) {k m:Int} (hk:0<=k/\k<(c.nodes.l.length:Int)) (hc:q0o c k) (hm:m∈D4 c k.toNat):(0<=m/\m<(c.nodes.l.length:Int))/\Gz c m.toNat<Gz c k.toNat:=(q2C h).2.2 k.toNat (by omega) hc m hm
theorem qJy {c:Bi} {D:Ci} {n:Nat} {N0:List Int} {ℓ:Int} {rest rest0:List Int} {W:WS} (hD:EvD c D n) (h:EvI c D n N0 ℓ rest0 W) {x v:Int} (hx:0<=x/\x<(n:Int)) (hlx:ℓ<=Gz c x.toNat)
  (hr:(q0o c x/\rest0=x::rest/\v=Gs (Aj c x.toNat) (Dx c W.nets x.toNat))\/(¬ q0o c x/\rest0=rest/\x∉W.ch)):EvI c D n N0 ℓ rest (Hj D W x v):=by
 have hl:∀ k:Int,0<=k/\k<(n:Int)->q0o c k->∀ m∈D4 c k.toNat,(0<=m/\m<(c.nodes.l.length:Int))/\Gz c m.toNat<Gz c k.toNat:=fun k hk hc m hm=>qDG hD.h (by rw[hD.cn];exact hk) hc hm
 have hsub:∀ k∈rest,k∈rest0:=fun k hk=>by
  rcases hr with⟨_,e,_⟩|⟨_,e,_⟩
  ·rw[e];exact xqf _ hk
  ·rw[e];exact hk
 have hrn:rest.Nodup:=by
  have:=h.rn
  rcases hr with⟨_,e,_⟩|⟨_,e,_⟩
  ·rw[e]at this;exact(xzj.1 this).2
  ·rw[e]at this;exact this
 have hor:∀ k,q0o c k->k∉rest->k=x\/k∉rest0:=fun k hk hkr=>by
  rcases hr with⟨_,e,_⟩|⟨_,e,_⟩
  ·rw[e]
   by_cases hkx:k=x
   ·exact .inl hkx
   ·exact .inr fun hm=>(xqv.1 hm).elim hkx hkr
  ·rw[e];exact .inr hkr
 have hxx:q0o c x->(qd W x=true/\(q1d D x:Int)=ℓ/\x∉rest/\∀ a,x∉Tv W.wl a):=fun hc=>by
  rcases hr with⟨_,e,_⟩|⟨e,_⟩
  ·obtain⟨_,_,r3,r4⟩:=h.rk x (by rw[e];exact xqh)
   have:=h.rn
   rw[e]at this
   refine⟨r3,r4,(xzj.1 this).1,fun a ha=>?_⟩
   have:=h.qi.wk a x ha
   omega
  ·exact absurd hc e
 have hxe:q0o c x->v=Gs (Aj c x.toNat) (Dx c W.nets x.toNat):=fun hc=>by
  rcases hr with⟨_,_,e⟩|⟨e,_⟩
  ·exact e
  ·exact absurd hc e
 have hxch:x∉W.ch:=by
  rcases hr with⟨hc,e,_⟩|⟨_,_,e⟩
  ·intro hm
   have:=(h.fr x hx hc hm).2.1
   exact this (by rw[e];exact xqh)
  ·exact e
 by_cases hv:W.nets.getD x.toNat 0=v
 ·have e:Hj D W x v=W:=by unfold Hj;rw[if_pos hv]
  rw[e]
  refine⟨h.qi,h.nl,fun k hk=>h.rk k (hsub k hk),hrn,h.un,h.cg,h.cn,h.nq,h.qn,fun k hk hc hm=>?_,fun k hk hc hq hkr hw=>?_⟩
  ·obtain⟨f1,f2,f3⟩:=h.fr k hk hc hm
   exact⟨f1,fun hm2=>f2 (hsub k hm2),f3⟩
  ·rcases hor k hc hkr with rfl|hk0
   ·exact⟨hv.trans (hxe hc),by rw[(hxx hc).2.1];omega⟩
   ·exact h.dn k hk hc hq hk0 hw
 ·have e:Hj D W x v=(D.rdr.l.getD x.toNat Sl.z).l.foldl (G8 D) { W with nets:=W.nets.set x.toNat v,ch:=W.ch++[x] }:=by unfold Hj;rw[if_neg hv]
  have hrd:=fun k=>hD.rd x k hx
  generalize (D.rdr.l.getD x.toNat Sl.z).l=l at hrd e
  have hQ1:QI D n (q0o c) ℓ { W with nets:=W.nets.set x.toNat v,ch:=W.ch++[x] }:=⟨h.qi.ql,h.qi.kd,h.qi.wk,h.qi.nd⟩
  obtain⟨q1,q2,q3,q4,q5,q6⟩:=qH7 l _ hQ1 fun k hk=>by
   obtain⟨a1,a2,a3⟩:=(hrd k).1 hk
   refine⟨a1,a2,?_⟩
   have:=(hl k a1 a2 x a3).2
   have:=hD.lv k a1
   omega
  rw[<- e]at q1 q2 q3 q4 q5 q6
  have hqd:∀ j,qd { W with nets:=W.nets.set x.toNat v,ch:=W.ch++[x] } j=qd W j:=fun j=>rfl
  simp only[hqd]at q2 q3
  have hg:∀ i:Int,0<=i/\i<(n:Int)->(Hj D W x v).nets.getD i.toNat 0=if i=x then v else W.nets.getD i.toNat 0:=fun i hi=>by
   rw[q4]
   simp only
   rw[E4 (by have:=h.nl;omega)]
   by_cases hix:i=x
   ·rw[if_pos (by rw[hix]),if_pos hix]
   ·rw[if_neg (by omega),if_neg hix]
  have hch:∀ i,i∈(Hj D W x v).ch↔i∈W.ch\/i=x:=fun i=>by rw[q5];simp
  have hiv:∀ k:Int,0<=k/\k<(n:Int)->q0o c k->x∉D4 c k.toNat->Dx c (Hj D W x v).nets k.toNat=Dx c W.nets k.toNat:=fun k hk hc hxk=>by
   rw[q4]
   exact qFv h.nl hx (fun p hp=>(hl k hk hc p hp).1.1) hxk
  refine⟨q1,?_,fun k hk=>?_,hrn,fun i hi hic=>?_,fun i hi=>?_,?_,fun k hk hc hq m hm=>?_,fun k hk hq=>?_,fun k hk hc hm=>?_,fun k hk hc hq hkr hw=>?_⟩
  ·rw[q4];simpa using h.nl
  ·obtain⟨r1,r2,r3,r4⟩:=h.rk k (hsub k hk)
   exact⟨r1,r2,by rw[q3 k r1,r3];rfl,r4⟩
  ·rw[hch,not_or]at hic
   rw[hg i hi,if_neg hic.2]
   exact h.un i hi hic.1
  ·rcases(hch i).1 hi with hi|rfl
   ·obtain⟨c1,c2⟩:=h.cg i hi
    have:i≠x:=fun e=>hxch (e ▸ hi)
    exact⟨c1,by rw[hg i c1,if_neg this];exact c2⟩
   ·refine⟨hx,?_⟩
    rw[hg i hx,if_pos rfl,<- h.un i hx hxch]
    exact fun e=>hv e.symm
  ·rw[q5,List.nodup_append]
   refine⟨h.cn,by simp,fun a ha b hb=>?_⟩
   simp at hb;subst hb
   exact fun e=>hxch (e ▸ ha)
  ·rw[q3 k hk,Bool.or_eq_false_iff]at hq
   rw[hch]
   rintro(hm2|rfl)
   ·exact h.nq k hk hc hq.1 m hm hm2
   ·have:=hq.2
    rw[decide_eq_false_iff_not]at this
    exact this ((hrd k).2 ⟨hk,hc,hm⟩)
  ·rw[q3 k hk,xzz]at hq
   rcases hq with hq|hq
   ·obtain⟨a1,m,a2,a3⟩:=h.qn k hk hq
    exact⟨a1,m,a2,(hch m).2 (.inl a3)⟩
   ·obtain⟨a1,a2,a3⟩:=(hrd k).1 (of_decide_eq_true hq)
    exact⟨a2,x,a3,(hch x).2 (.inr rfl)⟩
  ·rcases(hch k).1 hm with hm|rfl
   ·obtain⟨f1,f2,f3⟩:=h.fr k hk hc hm
    refine⟨by rw[q3 k hk,f1];rfl,fun h2=>f2 (hsub k h2),fun a ha=>?_⟩
    rcases(q2 a k).1 ha with h2|⟨_,h2,_⟩
    ·exact f3 a h2
    ·rw[f1]at h2;cases h2
   ·obtain⟨f1,f2,f3,f4⟩:=hxx hc
    refine⟨by rw[q3 k hk,f1];rfl,f3,fun a ha=>?_⟩
    rcases(q2 a k).1 ha with h2|⟨_,h2,_⟩
    ·exact f4 a h2
    ·rw[f1]at h2;cases h2
  ·have hw0:∀ a,k∉Tv W.wl a:=fun a ha=>hw a ((q2 a k).2 (.inl ha))
   have hq0:qd W k=true:=by
    cases hq1:qd W k with
    | true=>rfl
    | false =>
     rw[q3 k hk,hq1,Bool.false_or]at hq
     exact absurd ((q2 (q1d D k) k).2 (.inr ⟨of_decide_eq_true hq,hq1,rfl⟩)) (hw _)
   rcases hor k hc hkr with rfl|hk0
   ·have hself:k∉D4 c k.toNat:=fun hm=>by have:=(hl k hk hc k hm).2;omega
    rw[hg k hk,if_pos rfl,hiv k hk hc hself]
    exact⟨hxe hc,by rw[(hxx hc).2.1];omega⟩
   ·obtain⟨d1,d2⟩:=h.dn k hk hc hq0 hk0 hw0
    have hxk:x∉D4 c k.toNat:=fun hm=>by
     have:=(hl k hk hc x hm).2
     have:=hD.lv k hk
     omega
    have hkx:k≠x:=fun e=>by
     subst e
     rcases hr with⟨_,e2,_⟩|⟨e2,_⟩
     ·exact hk0 (by rw[e2];exact xqh)
     ·exact e2 hc
    rw[hg k hk,if_neg hkx,hiv k hk hc hxk]
    exact⟨d1,d2⟩
theorem EvI.ev {c:Bi} {D:Ci} {n:Nat} {N0:List Int} {ℓ:Int} {rest:List Int} {W:WS} (h:EvI c D n N0 ℓ rest W) (e:Int):EvI c D n N0 ℓ rest { W with ev:=e } :=
 ⟨⟨h.qi.ql,h.qi.kd,h.qi.wk,h.qi.nd⟩,h.nl,h.rk,h.rn,h.un,h.cg,h.cn,h.nq,h.qn,h.fr,h.dn⟩
def qLP (c:Bi) (n:Nat) (A B:List Int):Prop:=∀ i:Int,0<=i/\i<(n:Int)->¬ q0o c i->A.getD i.toNat 0=B.getD i.toNat 0
theorem qLQ {c:Bi} {D:Ci} {n:Nat} {N0:List Int} {ℓ:Int} {x:Int} {rest:List Int} {W:WS} (hD:EvD c D n) (h:EvI c D n N0 ℓ (x::rest) W) :
  EvI c D n N0 ℓ rest (Nr D W x)/\qLP c n (Nr D W x).nets W.nets/\(Nr D W x).ev=W.ev+1:=by
 obtain⟨hx,hc,_,hl⟩:=h.rk x xqh
 obtain⟨k1,k2⟩:=hD.k x hx
 have hv:Gs (nd D.c x).k (G1 W.nets (nd D.c x).inn.l)=Gs (Aj c x.toNat) (Dx c W.nets x.toNat):=by rw[k1,k2];rfl
 have hf:=q8M (D:=D) (W:={ W with ev:=W.ev+1 }) (x:=x) (v:=Gs (nd D.c x).k (G1 W.nets (nd D.c x).inn.l))
 refine⟨?_,fun i hi hic=>?_,hf.1⟩
 ·refine qJy hD (h.ev (W.ev+1)) hx ?_ (.inl ⟨hc,rfl,hv⟩)
  have:=hD.lv x hx
  omega
 ·unfold Nr
  rcases hf.2.1 with e|e
  ·rw[e]
  ·rw[e]
   simp only
   rw[E4 (by have:=h.nl;omega),if_neg]
   intro e2
   have:i=x:=by omega
   exact hic (this ▸ hc)
theorem qH8 {c:Bi} {D:Ci} {n:Nat} {N0:List Int} {ℓ:Int} (hD:EvD c D n):∀ (l:List Int) (W:WS),EvI c D n N0 ℓ l W->EvI c D n N0 ℓ [] (Ub D W l)/\qLP c n (Ub D W l).nets W.nets/\(Ub D W l).ev=W.ev+l.length
 | [],W,h=>⟨h,fun i _ _=>rfl,by simp[Ub]⟩
 | x::l,W,h=>by
  obtain⟨a1,a2,a3⟩:=qLQ hD h
  obtain⟨b1,b2,b3⟩:=qH8 hD l (Nr D W x) a1
  refine⟨b1,fun i hi hc=>(b2 i hi hc).trans (a2 i hi hc),?_⟩
  show(Ub D (Nr D W x) l).ev=_
  rw[b3,a3,xq8];omega
theorem qLR {c:Bi} {D:Ci} {n m:Nat} {N0:List Int} {ℓ:Int} (hD:EvD c D n) (hO:DOk D n) {W:WS} (hL:LOk D n m W) (h:EvI c D n N0 ℓ [] W) (hne:W.wl≠[]) :
  ∃ ℓ',EvI c D n N0 ℓ' [] (Uc D n W)/\qLP c n (Uc D n W).nets W.nets/\(Uc D n W).ev+tot (Uc D n W)=W.ev+tot W:=by
 obtain⟨l,s1,s2,s3,s4,s5,s6⟩:=qAw hO hL hne
 have hg:Tv W.wl (Jy n W.wl)=l:=by unfold Tv;rw[s1];rfl
 have hlt:∀ k∈l,ℓ<Jy n W.wl:=fun k hk=>(h.qi.wk (Jy n W.wl) k (by rw[hg];exact hk)).2.2.2.2
 have hlo:ℓ<Jy n W.wl:=by
  match l,s2 with
  | k::l,_=>exact hlt k xqh
 have hmin:∀ a k,k∈Tv W.wl a->Jy n W.wl<=a:=fun a k hk=>by
  unfold Tv at hk
  cases hl:A5 W.wl a with
  | none=>rw[hl]at hk;cases hk
  | some q=>exact(q7M (n:=n)).2 _ (J4 hl)
 have hdel:=fun a=>qJx (lv:=Jy n W.wl) (a:=a) h.qi.kd
 have h1:EvI c D n N0 (Jy n W.wl) l { W with wl:=M7 (Jy n W.wl) W.wl }:=by
  refine⟨⟨h.qi.ql,(Wa.del ⟨fun p hp=>(hL.b.ok.wl.lt p hp),h.qi.kd⟩).nd,fun a k hk=>?_,fun a=>?_⟩,h.nl,fun k hk=>?_,?_,h.un,h.cg,h.cn,h.nq,h.qn,fun k hk hc hm=>?_,fun k hk hc hq hkr hw=>?_⟩
  ·simp only[hdel]at hk
   split at hk
   ·cases hk
   ·rename_i ha
    obtain⟨w1,w2,w3,w4,w5⟩:=h.qi.wk a k hk
    have:=hmin a k hk
    exact⟨w1,w2,w3,w4,by omega⟩
  ·simp only[hdel]
   split
   ·exact List.nodup_nil
   ·exact h.qi.nd a
  ·obtain⟨w1,w2,w3,w4,w5⟩:=h.qi.wk (Jy n W.wl) k (by rw[hg];exact hk)
   exact⟨w1,w2,w3,by omega⟩
  ·rw[<- hg];exact h.qi.nd _
  ·obtain⟨f1,f2,f3⟩:=h.fr k hk hc hm
   refine⟨f1,fun h2=>f3 (Jy n W.wl) (by rw[hg];exact h2),fun a ha=>?_⟩
   simp only[hdel]at ha
   split at ha
   ·cases ha
   ·exact f3 a ha
  ·have hw0:∀ a,k∉Tv W.wl a:=fun a ha=>by
    by_cases hal:a=Jy n W.wl
    ·rw[hal,hg]at ha;exact hkr ha
    ·exact hw a (by simp only[hdel];rw[if_neg hal];exact ha)
   obtain⟨d1,d2⟩:=h.dn k hk hc hq (by simp) hw0
   exact⟨d1,by omega⟩
 obtain⟨e1,e2,e3⟩:=qH8 hD l _ h1
 have hst:Uc D n W=Ub D { W with wl:=M7 (Jy n W.wl) W.wl } l:=by unfold Uc;rw[s1];rfl
 refine⟨Jy n W.wl,by rw[hst];exact e1,by rw[hst];exact e2,?_⟩
 have:(Uc D n W).ev=W.ev+l.length:=by rw[hst];exact e3
 rw[this];omega
theorem qH9 {c:Bi} {D:Ci} {n:Nat} {N0:List Int} (hD:EvD c D n) (hO:DOk D n):∀ (k m:Nat) (ℓ:Int) (W:WS),tot W<=k->LOk D n m W->EvI c D n N0 ℓ [] W ->
  ∃ ℓ',EvI c D n N0 ℓ' [] (Rk D n k W)/\qLP c n (Rk D n k W).nets W.nets/\(Rk D n k W).ev+tot (Rk D n k W)=W.ev+tot W/\(Rk D n k W).wl=[]
 | 0,m,ℓ,W,ht,hL,h=>by
  refine⟨ℓ,h,fun i _ _=>rfl,rfl,?_⟩
  show W.wl=[]
  match hwl:W.wl with
  | []=>rfl
  | p::wl =>
   have:=hL.w p (by rw[hwl];exact xqh)
   have h2:0<p.2.length:=xza.2 this.1
   unfold tot at ht
   rw[hwl]at ht
   simp only[q6E]at ht
   omega
 | k+1,m,ℓ,W,ht,hL,h=>by
  by_cases hw:W.wl=[]
  ·have:Rk D n (k+1) W=W:=by unfold Rk;rw[if_pos hw]
   rw[this]
   exact⟨ℓ,h,fun i _ _=>rfl,rfl,hw⟩
  ·have e:Rk D n (k+1) W=Rk D n k (Uc D n W):=by
    conv=>lhs;unfold Rk
    rw[if_neg hw]
   obtain⟨l,s1,s2,s3,s4,s5,s6⟩:=qAw hO hL hw
   have h2l:0<l.length:=xza.2 s2
   obtain⟨ℓ1,t1,t2,t3⟩:=qLR hD hO hL h hw
   obtain⟨ℓ2,u1,u2,u3,u4⟩:=qH9 hD hO k (m-l.length) ℓ1 (Uc D n W) (by omega) s5 t1
   rw[e]
   exact⟨ℓ2,u1,fun i hi hc=>(u2 i hi hc).trans (t2 i hi hc),u3.trans t3,u4⟩
theorem qLS {c:Bi} {D:Ci} {n:Nat} {N0:List Int} (hl:N0.length=n):EvI c D n N0 0 [] ⟨N0,List.replicate n false,[],[],0⟩:=by
 have hq:∀ k:Int,0<=k/\k<(n:Int)->qd ⟨N0,List.replicate n false,[],[],0⟩ k=false:=fun k hk=>by
  unfold qd
  have:k.toNat<n:=by omega
  simp[xqe,xz3,this]
 refine⟨⟨by simp,List.nodup_nil,(fun a k hk=>by simp[Tv,A5]at hk),(fun a=>by simp[Tv,A5])⟩,hl,(fun k hk=>nomatch hk),List.nodup_nil,(fun i _ _=>rfl),(fun i hi=>nomatch hi),List.nodup_nil,(fun k _ _ _ m _ hm=>nomatch hm),(fun k hk h=>?_),(fun k _ _ hm=>nomatch hm),(fun k hk _ h=>?_)⟩
 ·rw[hq k hk]at h;cases h
 ·rw[hq k hk]at h;cases h
theorem qCU {D:Ci}:∀ (l:List Int) (W:WS),(l.foldl (G8 D) W).nets=W.nets/\(l.foldl (G8 D) W).ch=W.ch
 | [],W=>⟨rfl,rfl⟩
 | k::l,W=>by
  obtain⟨a,b⟩:=qCU l (G8 D W k)
  obtain⟨d1,d2,_⟩:=qCT (D:=D) (W:=W) (k:=k)
  exact⟨a.trans d1,b.trans d2⟩
theorem qI7 {D:Ci} {W:WS} {x v:Int} (hx:x.toNat<W.nets.length):(Hj D W x v).nets=W.nets.set x.toNat v/\∀ i∈(Hj D W x v).ch,i∈W.ch\/i=x:=by
 unfold Hj
 split
 ·rename_i h
  refine⟨?_,fun i hi=>.inl hi⟩
  rw[Be hx]at h
  rw[<- h,List.set_getElem_self]
 ·obtain⟨a,b⟩:=qCU (D:=D) (D.rdr.l.getD x.toNat Sl.z).l { W with nets:=W.nets.set x.toNat v,ch:=W.ch++[x] }
  refine⟨a,fun i hi=>?_⟩
  rw[b]at hi
  simpa using hi
theorem qDH {c:Bi} {D:Ci} {n:Nat} {N0:List Int} (hD:EvD c D n):∀ (l vs:List Int) (W:WS),EvI c D n N0 0 [] W->l.Nodup->(∀ x∈l,(0<=x/\x<(n:Int))/\¬ q0o c x/\x∉W.ch) ->
  EvI c D n N0 0 [] (Ih D W l vs)/\(Ih D W l vs).nets=Ek l vs W.nets/\∀ i∈(Ih D W l vs).ch,i∈W.ch\/i∈l
 | [],vs,W,h,_,_=>by cases vs<;>exact⟨h,rfl,fun i hi=>.inl hi⟩
 | x::l,[],W,h,_,_=>⟨h,rfl,fun i hi=>.inl hi⟩
 | x::l,v::vs,W,h,hn,hl=>by
  obtain⟨n1,n2⟩:=xzj.1 hn
  obtain⟨x1,x2,x3⟩:=hl x xqh
  have h1:=qJy hD h x1 (v:=v) (rest:=[]) ((q2C hD.h).2.1 _) (.inr ⟨x2,rfl,x3⟩)
  obtain⟨s1,s2⟩:=qI7 (D:=D) (W:=W) (x:=x) (v:=v) (by have:=h.nl;omega)
  obtain⟨a1,a2,a3⟩:=qDH hD l vs (Hj D W x v) h1 n2 fun y hy=>by
   obtain⟨y1,y2,y3⟩:=hl y (xqf _ hy)
   refine⟨y1,y2,fun hm=>?_⟩
   rcases s2 y hm with h2|rfl
   ·exact y3 h2
   ·exact n1 hy
  refine⟨a1,?_,fun i hi=>?_⟩
  ·show(Ih D (Hj D W x v) l vs).nets=Ek l vs (W.nets.set x.toNat v)
   rw[a2,s1]
  ·rcases a3 i hi with h2|h2
   ·rcases s2 i h2 with h3|rfl
    ·exact .inl h3
    ·exact .inr xqh
   ·exact .inr (xqf _ h2)
theorem qB4 {D:Ci} {n:Nat} (hO:DOk D n):∀ (l vs:List Int) (W:WS),(∀ k∈l,0<=k/\k<(n:Int))->W.q.length=n->WI n W.wl->tot (Ih D W l vs)=tot W
 | [],vs,W,_,_,_=>by cases vs<;>rfl
 | x::l,[],W,_,_,_=>rfl
 | x::l,v::vs,W,hl,hq,hw=>by
  obtain⟨h1,h2,h3⟩:=qFn (v:=v) hO (hl x xqh) hq hw
  exact(qB4 hO l vs (Hj D W x v) (fun k hk=>hl k (xqf _ hk)) h3 h1).trans h2
theorem qFw {q:List Bool}:((rng q.length).filter fun k=>q.getD k.toNat true).length=q.count true:=by
 have key:∀ m,m<=q.length->((List.range m).filter fun i=>q.getD i true).length=(q.take m).count true:=by
  intro m
  induction m with
  | zero=>intro _;simp
  | succ m ih =>
   intro hm
   have hm2:m<q.length:=hm
   rw[List.range_succ,List.filter_append,xq6,ih (by omega),xz7,xqg hm2]
   simp only[Option.toList_some,List.count_append]
   congr 1
   have:q.getD m true=q[m]:=by simp[xqe,hm2]
   simp only[xzu,this,List.filter_nil]
   cases q[m]<;>rfl
 have h:=key q.length (xzo _)
 rw[xzn]at h
 rw[<- h,rng,List.filter_map,xq4]
 rfl
theorem qI8 {q:List Bool}:q.count true+q.count false=q.length:=by
 induction q with
 | nil=>rfl
 | cons b q ih=>cases b<;>simp[List.count_cons]<;>omega
def Ii (n:Nat) (A B:List Int):List Int:=(rng n).filter fun i=>decide (B.getD i.toNat 0≠A.getD i.toNat 0)
def q0p (c:Bi) (A B:List Int):Int:=(((rng c.nodes.l.length).filter fun k=>C2 (Aj c k.toNat)&&(D4 c k.toNat).any fun m=>decide (B.getD m.toNat 0≠A.getD m.toNat 0)).length:Nat)
theorem qLT {c:Bi} {A pin pst:List Int} (hA:A.length=c.nodes.l.length) (h1:pin.length=(Bd c).length) (h2:pst.length=(B8 c).length) (h0:∀ i:Nat,i<c.nodes.l.length->Aj c i≠0->Aj c i≠14->¬ C2 (Aj c i)=true->A.getD i 0=0)
  {i:Nat} (hi:i<c.nodes.l.length) (hc:¬ C2 (Aj c i)=true):(Ek (B8 c) pst (Ek (Bd c) pin A)).getD i 0=(Kq c pin pst).getD i 0:=by
 have r14:∀ n∈B8 c,0<=n:=fun n hn=>(F7 n hn).1
 have r0:∀ n∈Bd c,0<=n:=fun n hn=>(F7 n hn).1
 unfold Kq
 by_cases hs:(i:Int)∈B8 c
 ·obtain⟨j,hj,e⟩:=xqt hs
  have a1:=Zb (ns:=B8 c) (vs:=pst) (nets:=Ek (Bd c) pin A) (j:=j) (Nz [14] c.nodes.l 0).2 (fun n hn=>by rw[Qu,hA];have:=F7 n hn;omega) h2.symm hj
  have a2:=Zb (ns:=B8 c) (vs:=pst) (nets:=Ek (Bd c) pin (List.replicate c.nodes.l.length 0)) (j:=j) (Nz [14] c.nodes.l 0).2 (fun n hn=>by rw[Qu];have:=F7 n hn;simp;omega) h2.symm hj
  rw[e]at a1 a2
  simp only[xzl]at a1 a2
  rw[a1,a2]
 ·rw[Qv r14 hs,Qv r14 hs]
  by_cases hin:(i:Int)∈Bd c
  ·obtain⟨j,hj,e⟩:=xqt hin
   have a1:=Zb (ns:=Bd c) (vs:=pin) (nets:=A) (j:=j) (Nz [0] c.nodes.l 0).2 (fun n hn=>by rw[hA];have:=F7 n hn;omega) h1.symm hj
   have a2:=Zb (ns:=Bd c) (vs:=pin) (nets:=List.replicate c.nodes.l.length 0) (j:=j) (Nz [0] c.nodes.l 0).2 (fun n hn=>by have:=F7 n hn;simp;omega) h1.symm hj
   rw[e]at a1 a2
   simp only[xzl]at a1 a2
   rw[a1,a2]
  ·rw[Qv r0 hin,Qv r0 hin]
   have k0:Aj c i≠0:=fun e=>hin ((q6m hi).2 e)
   have k14:Aj c i≠14:=fun e=>hs ((q6m hi).2 e)
   rw[h0 i hi k0 k14 hc]
   simp[xqe,xz3]
   split<;>rfl
theorem qHA {c:Bi} {x:Int} (h:Aj c x.toNat=0\/Aj c x.toNat=14):¬ q0o c x:=by
 unfold q0o C2
 rcases h with e|e<;>rw[e]<;>decide
theorem qEi {c:Bi} {D:Ci} {n:Nat} (hn:n<=100000) (hD:EvD c D n) (hO:DOk D n) (hI:D.inp.l=Bd c) (hS:D.sts.l=B8 c) {pin0 pst0:List Int} (h1:pin0.length=(Bd c).length) (h2:pst0.length=(B8 c).length) (p:Pat) (h3:p.inn.l.length=(Bd c).length) (h4:p.st.l.length=(B8 c).length)
  (v0:∀ v∈Br c pin0 pst0,V4 v) (v1:∀ v∈p.inn.l,V4 v) (v2:∀ v∈p.st.l,V4 v) :
  (V2 D n (Br c pin0 pst0) p).nets=Br c p.inn.l p.st.l/\(V2 D n (Br c pin0 pst0) p).ch.Nodup/\(∀ i,i∈(V2 D n (Br c pin0 pst0) p).ch↔i∈Ii n (Br c pin0 pst0) (Br c p.inn.l p.st.l))/\(V2 D n (Br c pin0 pst0) p).ev=q0p c (Br c pin0 pst0) (Br c p.inn.l p.st.l):=by
 have hf0:=q1C hD.h pin0 pst0
 have hN0:(Br c pin0 pst0).length=n:=by rw[hf0.1,hD.cn]
 have hk:=hD.cn
 have hin:∀ x∈Bd c,(0<=x/\x<(n:Int))/\Aj c x.toNat=0:=fun x hx=>by have:=F7 x hx;exact⟨by omega,this.2.2⟩
 have hst:∀ x∈B8 c,(0<=x/\x<(n:Int))/\Aj c x.toNat=14:=fun x hx=>by have:=F7 x hx;exact⟨by omega,this.2.2⟩
 have hz:∀ i:Nat,i<c.nodes.l.length->Aj c i≠0->Aj c i≠14->¬ C2 (Aj c i)=true->(Br c pin0 pst0).getD i 0=0:=fun i hi k0 k14 hc=>by
  rw[hf0.2 i hi,if_neg hc,qGc h1 h2 hi,if_neg k0,if_neg k14]
 have L0:=qEf (D:=D) (nets:=Br c pin0 pst0) (n:=n) (by omega) hN0 v0
 have I0:=qLS (c:=c) (D:=D) hN0
 have il:=Js c
 have sl:=F3 c
 obtain⟨L1,L1c,_⟩:=q1e hO (Bd c) p.inn.l _ (fun k hk=>(hin k hk).1) v1 L0 (by simp only[xq9];omega)
 obtain⟨I1,n1,c1⟩:=qDH hD (Bd c) p.inn.l _ I0 (Nz [0] c.nodes.l 0).2 fun x hx=>⟨(hin x hx).1,qHA (.inl (hin x hx).2),fun hm=>by cases hm⟩
 simp only[xq9]at L1c
 generalize hR1:Ih D ⟨Br c pin0 pst0,List.replicate n false,[],[],0⟩ (Bd c) p.inn.l=R1 at *
 obtain⟨L2,_,L2e⟩:=q1e hO (B8 c) p.st.l R1 (fun k hk=>(hst k hk).1) v2 L1 (by omega)
 obtain⟨I2,n2,c2⟩:=qDH hD (B8 c) p.st.l R1 I1 (Nz [14] c.nodes.l 0).2 fun x hx=>⟨(hst x hx).1,qHA (.inr (hst x hx).2),fun hm=>by
  rcases c1 x hm with h|h
  ·cases h
  ·have:=(hin x h).2;have:=(hst x hx).2;omega⟩
 have hev:(Ih D R1 (B8 c) p.st.l).ev=0:=by
  have:=(q1e hO (Bd c) p.inn.l _ (fun k hk=>(hin k hk).1) v1 L0 (by simp only[xq9];omega)).2.2
  rw[hR1]at this
  exact L2e.trans this
 have htt:tot (Ih D R1 (B8 c) p.st.l)=n:=by
  rw[qB4 hO _ _ _ (fun k hk=>(hst k hk).1) L1.b.ok.ql L1.w,<- hR1,qB4 hO _ _ _ (fun k hk=>(hin k hk).1) L0.b.ok.ql L0.w]
  simp[tot,q6E]
 generalize hR2:Ih D R1 (B8 c) p.st.l=R2 at *
 have hap:V2 D n (Br c pin0 pst0) p=Rk D n n R2:=by
  unfold V2
  rw[hI,hS,hR1,hR2]
 obtain⟨ℓ,E,nc,ev,wl⟩:=qH9 hD hO n n 0 R2 (by omega) L2 I2
 rw[hap]
 generalize Rk D n n R2=R at *
 have hgw:∀ k a,k∉Tv R.wl a:=fun k a=>by rw[wl];simp[Tv,A5]
 have hfix:qFW c (Kq c p.inn.l p.st.l) R.nets:=by
  refine⟨by rw[E.nl,hk],fun i hi=>?_⟩
  have hir:(0:Int)<=(i:Int)/\(i:Int)<(n:Int):=by omega
  have hin':(i:Int).toNat=i:=by omega
  split
  ·rename_i hc
   have hcc:q0o c (i:Int):=hc
   by_cases hq:qd R (i:Int)=true
   ·have:=(E.dn i hir hcc hq (by simp) (hgw _)).1
    rwa [hin']at this
   ·have hq2:qd R (i:Int)=false:=by simpa using hq
    have hnch:(i:Int)∉R.ch:=fun hm=>hq (E.fr i hir hcc hm).1
    have e1:=E.un i hir hnch
    rw[hin']at e1
    rw[e1,hf0.2 i hi,if_pos hc]
    congr 1
    unfold Dx
    refine xq1 fun m hm=>?_
    have hmr:=(qDG hD.h (k:=(i:Int)) (by omega) hcc (m:=m) (by rw[hin'];exact hm)).1
    exact(E.un m (by omega) (E.nq i hir hcc hq2 m (by rw[hin'];exact hm))).symm
  ·rename_i hc
   have e1:=nc i hir hc
   rw[hin',n2,n1]at e1
   rw[e1]
   exact qLT (by rw[hN0,hk]) h3 h4 hz hi hc
 have hnets:R.nets=Br c p.inn.l p.st.l:=qAI hD.h hfix (q1C hD.h _ _)
 have hch:∀ i,i∈R.ch↔i∈Ii n (Br c pin0 pst0) (Br c p.inn.l p.st.l):=fun i=>by
  rw[<- hnets]
  simp only[Ii,xzi,Lm,xqu]
  constructor
  ·intro h;exact E.cg i h
  ·rintro⟨h5,h6⟩
   by_cases hm:i∈R.ch
   ·exact hm
   ·exact absurd (E.un i h5 hm) h6
 refine⟨hnets,E.cn,hch,?_⟩
 have hct:=qFw (q:=R.q)
 have hc2:=qI8 (q:=R.q)
 rw[E.qi.ql]at hct hc2
 have hto:tot R=R.q.count false:=by unfold tot;rw[wl];simp[q6E]
 have hfl:((rng n).filter fun k=>R.q.getD k.toNat true)=(rng n).filter fun k=>C2 (Aj c k.toNat)&&(D4 c k.toNat).any fun m=>decide ((Br c p.inn.l p.st.l).getD m.toNat 0≠(Br c pin0 pst0).getD m.toNat 0):=by
  refine List.filter_congr fun k hkm=>?_
  have hkr:=Lm.1 hkm
  have hmc:∀ m∈D4 c k.toNat,q0o c k->(m∈R.ch↔(Br c p.inn.l p.st.l).getD m.toNat 0≠(Br c pin0 pst0).getD m.toNat 0):=fun m hm hcc=>by
   rw[hch]
   simp only[Ii,xzi,Lm,xqu]
   have hmr:=(qDG hD.h (k:=k) (by omega) hcc (m:=m) hm).1
   constructor
   ·rintro⟨_,h⟩;exact h
   ·intro h;exact⟨by omega,h⟩
  rw[Bool.eq_iff_iff,xqc,xz1]
  constructor
  ·intro hq
   obtain⟨a1,m,a2,a3⟩:=E.qn k hkr hq
   exact⟨a1,m,a2,by simpa using(hmc m a2 a1).1 a3⟩
  ·rintro⟨a1,m,a2,a3⟩
   cases hq:R.q.getD k.toNat true with
   | true=>rfl
   | false=>exact absurd ((hmc m a2 a1).2 (by simpa using a3)) (E.nq k hkr a1 hq m a2)
 unfold q0p
 rw[hk,<- hfl,hct]
 omega
theorem qMG {n:Nat} {d:Int} {c:Bi}:∀ {r:M8} {s:LS},(∀ p∈r,C2 (Aj c p.1.toNat)=true->p.1.toNat≠n)->(∀ i,s.out.getD i 0<=d+1)->s.out.getD n 0<=d->∀ i,(r.foldl (E7 c n) s).out.getD i 0<=d+1
 | [],s,_,h,_=>h
 | p::r,s,hr,h,hn=>by
  simp only[xz4]
  have hp:=hr p xqh
  have key:∀ i,(E7 c n s p).out.getD i 0=if C2 (Aj c p.1.toNat)=true/\p.1.toNat=i/\i<s.out.length then max (s.out.getD p.1.toNat 0) (s.out.getD n 0+1)else s.out.getD i 0:=fun i=>by
   unfold E7
   by_cases hc:C2 (Aj c p.1.toNat)=true
   ·rw[if_pos hc]
    simp only[xqe,xzb]
    by_cases hi:p.1.toNat=i
    ·subst hi
     by_cases hl:p.1.toNat<s.out.length
     ·simp[hc,hl]
     ·simp[hc,hl]
    ·simp[hc,hi]
   ·rw[if_neg hc];simp[hc]
  refine qMG (fun q hq=>hr q (xqf _ hq)) (fun i=>?_) ?_
  ·rw[key]
   split
   ·have:=h p.1.toNat;omega
   ·exact h i
  ·rw[key,if_neg]
   ·exact hn
   ·rintro⟨h1,h2,_⟩;exact hp h1 h2
theorem qJz {c:Bi} {n:Nat} (hp:∀ x∈c.nodes.l,∀ p∈x.inn.l,0<=p/\p<c.nodes.l.length) {k:Int}:(∃ p∈Ej c n,p.1=k)↔(0<=k/\k<(c.nodes.l.length:Int))/\(n:Int)∈D4 c k.toNat:=by
 have hin:∀ p∈Ej c n,∃ i:Nat,i<c.nodes.l.length/\p.1=i:=by
  intro p hpp
  have hl:=Ht c
  by_cases hn:n<(B6 c).length
  ·have e:Ej c n=(B6 c)[n]:=by simp[Ej,List.getD,xqg hn]
   rw[e]at hpp
   exact Um c _ (xqj _) p hpp
  ·have e:Ej c n=[]:=by simp[Ej,List.getD,List.getElem?_eq_none (Nat.not_lt.1 hn)]
   rw[e]at hpp;cases hpp
 constructor
 ·rintro⟨p,hm,rfl⟩
  obtain⟨i,hi,e⟩:=hin p hm
  refine⟨by omega,?_⟩
  have h1:=q19 c hp i n hi
  have h2:0<Rl i (Ej c n):=by
   unfold Rl
   exact List.countP_pos_iff.2 ⟨p,hm,by simp[e]⟩
  rw[h1]at h2
  rw[e,xzl]
  exact List.count_pos_iff.1 h2
 ·rintro⟨hk,hm⟩
  have h1:=q19 c hp k.toNat n (by omega)
  have h2:=List.count_pos_iff.2 hm
  rw[<- h1]at h2
  unfold Rl at h2
  obtain⟨p,hpm,e⟩:=List.countP_pos_iff.1 h2
  exact⟨p,hpm,by simp at e;omega⟩
theorem qK0 {c:Bi} (h:Cf c=0) (hp:∀ x∈c.nodes.l,∀ p∈x.inn.l,0<=p/\p<c.nodes.l.length):∀ (f d:Nat) (s:LS),(∀ i,s.out.getD i 0<=d)->∀ i,(Ko c f d s).2.out.getD i 0<=(Ko c f d s).1
 | 0,d,s,hs=>hs
 | f+1,d,s,hs=>by
  simp only[Ko]
  split
  ·refine qK0 h hp f (d+1) _ fun i=>?_
   have:=qMG (c:=c) (n:=(s.rdy.getD d 0).toNat) (d:=(d:Int)) (r:=Ej c (s.rdy.getD d 0).toNat) (s:=s) (fun p hm hc e=>?_) (fun i=>by have:=hs i;omega) (hs _) i
   ·omega
   ·obtain⟨h1,h2⟩:=(qJz hp (k:=p.1)).1 ⟨p,hm,rfl⟩
    have:=(qDG h h1 hc h2).2
    simp only[xzl]at this
    rw[e]at this
    omega
  ·exact hs
theorem qNr {c:Bi} (h:Cf c=0) (i:Nat):Gz c i<=c.nodes.l.length:=by
 obtain⟨hs,hd⟩:=J8 h
 have hp:=q3g hs
 have h16:=(J7 hs).2.1
 have h0:=qGX c h16
 obtain⟨hJ,hle⟩:=q6k hp (c.nodes.l.length+1) 0 (Hf c) h0 (by omega)
 have hU:=qK0 h hp (c.nodes.l.length+1) 0 (Hf c) (fun i=>by
  simp only[Hf,xqe,xz3]
  split<;>simp) i
 obtain⟨M,hli⟩:=hJ.li
 have h3:=hli.len
 have h4:=hJ.le
 show(Hu c).2.out.getD i 0<=_
 have hU':(Hu c).2.out.getD i 0<=(Hu c).1:=hU
 have h3':(Hu c).2.rdy.length<=c.nodes.l.length:=h3
 have h4':(Hu c).1<=(Hu c).2.rdy.length:=h4
 omega
theorem qLU {c:Bi} {x:Int} (h:0<=x/\x<(c.nodes.l.length:Int)):nd (Ri c) x=q2P (nd c x):=by
 have h2:x.toNat<c.nodes.l.length:=by omega
 simp[nd,Ri,xqe,h2]
theorem qMH {l:List Int}:(rdS l).l=l:=by
 unfold rdS
 split
 ·rename_i h;rw[h];rfl
 ·rfl
theorem qNs {c:Bi} {m:Nat} (h:m<c.nodes.l.length):((Yg c).getD m Sl.z).l=Wl c (Ej c m):=by
 have h2:m<(B6 c).length:=by rw[Ht];exact h
 simp[Yg,Ej,xqe,h2,qMH]
theorem qCV {c:Bi} {r:M8} {k:Int}:k∈Wl c r↔C2 (Aj c k.toNat)=true/\∃ p∈r,p.1=k:=by
 unfold Wl
 simp only[xqy,xzi]
 constructor
 ·rintro⟨p,⟨h1,h2⟩,rfl⟩;exact⟨h2,p,h1,rfl⟩
 ·rintro⟨h1,p,h2,rfl⟩;exact⟨p,⟨h2,h1⟩,rfl⟩
theorem qK1 {c:Bi} (h:Cf c=0):EvD c (I3 c) c.nodes.l.length:=by
 have hp:=q3g (J8 h).1
 refine⟨rfl,h,fun x hx=>?_,fun m k hm=>?_,fun k hk=>?_⟩
 ·have:nd (I3 c).c x=q2P (nd c x):=qLU hx
  rw[this]
  refine⟨rfl,?_⟩
  have h2:x.toNat<c.nodes.l.length:=by omega
  simp[q2P,cpS,nd,D4,xqe,h2]
 ·show k∈((Yg c).getD m.toNat Sl.z).l↔_
  rw[qNs (by omega),qCV,qJz hp]
  have:((m.toNat:Nat):Int)=m:=by omega
  rw[this]
  constructor
  ·rintro⟨a,b,d⟩;exact⟨b,a,d⟩
  ·rintro⟨a,b,d⟩;exact⟨b,a,d⟩
 ·have h1:=(q2C h).2.1 k.toNat
  show((((Hu c).2.out.getD k.toNat 0).toNat:Nat):Int)=Gz c k.toNat
  have:Gz c k.toNat=(Hu c).2.out.getD k.toNat 0:=rfl
  omega
theorem qK2 {c:Bi} (h:Cf c=0) (hn:c.nodes.l.length<=900):DOk (I3 c) c.nodes.l.length:=by
 have hp:=q3g (J8 h).1
 have h16:=(J7 (J8 h).1).2.1
 obtain⟨l1,l2,_⟩:=q2C h
 have hv:∀ v∈(Hu c).2.out,0<=v/\v<=(c.nodes.l.length:Int):=fun v hv=>by
  obtain⟨i,hi,rfl⟩:=xqt hv
  have h1:=l2 i
  have h2:=qNr h i
  have e:Gz c i=(Hu c).2.out[i]:=by show(Hu c).2.out.getD i 0=_;rw[Be hi]
  omega
 refine⟨⟨l1,fun v hm=>?_,?_,fun r hr=>?_⟩,fun v hm=>(hv v hm).2⟩
 ·have:=hv v hm;omega
 ·show(Yg c).length=_
  simp[Yg,Ht]
 ·obtain⟨row,hrow,rfl⟩:=xqy.1 hr
  have hb:=q5u c (by omega) h16 row hrow
  rw[qMH]
  refine⟨?_,fun k hk=>?_⟩
  ·have:(Wl c row).length<=row.length:=by
    unfold Wl
    rw[xq4]
    exact List.length_filter_le _ _
   omega
  ·obtain⟨_,p,hpm,rfl⟩:=qCV.1 hk
   obtain⟨i,h5,h6⟩:=Um c row hrow p hpm
   omega
end Go.Lg
namespace Go.Lg
open Go Go.Proofs
variable {Γ:Tables}
theorem qNt {n:Nat}:(rng n).Pairwise (fun a b=>a<b):=by
 rw[rng,List.pairwise_map]
 exact List.pairwise_lt_range.imp fun h=>by omega
theorem qI9 {n:Nat} {A B l:List Int} (h1:l.Nodup) (h2:∀ i,i∈l↔i∈Ii n A B):Xv l=Ii n A B:=by
 have hp:(Xv l).Perm l:=List.mergeSort_perm _ _
 have hd:(Ii n A B).Nodup:=q1A.sublist List.filter_sublist
 refine List.Perm.eq_of_pairwise (le:=fun a b=>a<=b) (fun a b _ _ h3 h4=>by omega) ?_ ?_ (hp.trans ((List.perm_ext_iff_of_nodup h1 hd).2 h2))
 ·have:=List.pairwise_mergeSort (le:=fun x y:Int=>decide (x<=y)) (fun a b c h3 h4=>by simp at *;omega) (fun a b=>by simp;omega) l
  exact this.imp fun h=>by simpa using h
 ·exact(qNt.sublist List.filter_sublist).imp fun h=>by omega
theorem qLV (hΓ:GOk Γ) (c:Bi) (hR:ROk (Ri c)) (h:Cf c=0) (hn:c.nodes.l.length<=900) {pin0 pst0:List Int} (h1:pin0.length=(Bd c).length) (h2:pst0.length=(B8 c).length) (p:Pat) (h3:p.inn.l.length=(Bd c).length) (h4:p.st.l.length=(B8 c).length)
  (v0:∀ v∈Br c pin0 pst0,V4 v) (v1:∀ v∈p.inn.l,V4 v) (v2:∀ v∈p.st.l,V4 v) (ev:Int) :
  Bm Tryz.prog Γ 12 (hS (I3 c) c.nodes.l.length (Br c pin0 pst0) ev) [.lp 1000000 0 0,.t (.agg (tP p))] (.t (.tup [.sl (Af (Ii c.nodes.l.length (Br c pin0 pst0) (Br c p.inn.l p.st.l))) (some (Ii c.nodes.l.length (Br c pin0 pst0) (Br c p.inn.l p.st.l)).length) none,tI 0]))
   (hS (I3 c) c.nodes.l.length (Br c p.inn.l p.st.l) (q0p c (Br c pin0 pst0) (Br c p.inn.l p.st.l))):=by
 have hO:=qK2 h hn
 have hD:=qK1 h
 obtain⟨a1,a2,a3,a4⟩:=qEi (by omega) hD hO rfl rfl h1 h2 p h3 h4 v0 v1 v2
 have hs:=qI9 a2 a3
 have hl:(Br c pin0 pst0).length=c.nodes.l.length:=(q1C h _ _).1
 have hab:∀ {l:List Int},(∀ v∈l,V4 v)->l.any Cm=false:=fun h=>xz8.2 fun v hv=>by have:=(h v hv).2;simp[Cm];omega
 have he:Zv (I3 c) p=0:=by
  unfold Zv
  rw[if_neg,if_neg]
  ·rw[hab v1,hab v2];simp
  ·show ¬ (p.inn.l.length≠(Bd c).length\/p.st.l.length≠(B8 c).length)
   omega
 have il:=Js c
 have sl:=F3 c
 have hh:=qLN (Γ:=Γ) hΓ (I3 c) c.nodes.l.length hO (by omega) hR (by simp[I3,Ri]) il sl (fun k hk=>by have:=F7 k hk;omega) (fun k hk=>by have:=F7 k hk;omega) (Br c pin0 pst0) ev hl v0 p he ⟨fun v hv=>(v1 v hv).1,fun v hv=>(v2 v hv).1⟩
 rw[hs,a1,a4]at hh
 have hcl:(V2 (I3 c) c.nodes.l.length (Br c pin0 pst0) p).ch.length=(Ii c.nodes.l.length (Br c pin0 pst0) (Br c p.inn.l p.st.l)).length:=by rw[<- hs,V1]
 rw[hcl]at hh
 exact hh
theorem Bm.arg2 {P:Program} {f:FuncId} {hp hp':List (Nat×B9)} {a b res:AV} {x:T} (ha:toT a=some x) (h:Bm P Γ f hp [b,.t x] res hp'):Bm P Γ f hp [b,a] res hp':=by
 intro w X κ vs hg hk hs har
 refine h w X κ vs hg hk hs ⟨har.1,fun k c v hc hv=>?_⟩
 match k,hc with
 | 0,hc=>exact har.2 0 c v hc hv
 | 1,hc =>
  simp only[xzr,xzq,xqa]at hc
  subst hc
  exact .t _ _ (q5e (har.2 1 a v rfl hv) ha)
theorem Bm.arg1 {P:Program} {f:FuncId} {hp hp':List (Nat×B9)} {a res:AV} {x:T} (ha:toT a=some x) (h:Bm P Γ f hp [.t x] res hp'):Bm P Γ f hp [a] res hp':=by
 intro w X κ vs hg hk hs har
 refine h w X κ vs hg hk hs ⟨har.1,fun k c v hc hv=>?_⟩
 match k,hc with
 | 0,hc =>
  simp only[xzq,xqa]at hc
  subst hc
  exact .t _ _ (q5e (har.2 0 a v rfl hv) ha)
def qFx (D:Ci) (n:Nat) (nets:List Int) (ev:Int):List T:=[Aa D.c.nodes,Ad D.c.names,Ag D.c.mems,As D.c.outs,As D.inp,As D.sts,As D.lev,qJC D.rdr,.sl (Ar nets) (some n) none,tI ev]
theorem q7Q (D:Ci) (n:Nat) (nets:List Int) (ev:Int):A8 Tryz.prog Γ 15 [.ip (qFx D n nets ev) 0] (tI ev):=by
 refine Ae q49 rfl ?_
 simp[Xo,Xp,qFx]
theorem qEj {c:Bi} (h:ROk c):ROk (Ri c):=by
 have hl:(Ri c).nodes.l.length=c.nodes.l.length:=by simp[Ri]
 refine⟨⟨⟨by rw[hl];exact h.ok.nodes,h.ok.names,by simp[Ri],h.ok.outs,fun x hx=>?_,fun x hx=>?_,fun m hm=>nomatch hm⟩,h.ok.asc⟩,fun x hx=>?_⟩
 ·obtain⟨y,hy,rfl⟩:=xqy.1 hx
  exact h.ok.kind y hy
 ·obtain⟨y,hy,rfl⟩:=xqy.1 hx
  exact h.ok.inn y hy
 ·obtain⟨y,hy,rfl⟩:=xqy.1 hx
  rw[hl]
  exact h.inn y hy
theorem q4e {c:Bi}:POk c (Ig c):=⟨by simp[Ig],by simp[Ig],fun v hv=>by rw[xqx hv];simp[V4],fun v hv=>by rw[xqx hv];simp[V4]⟩
def nP (c:Bi) (p:Pat):List Int:=Br c p.inn.l p.st.l
theorem qMI (hΓ:GOk Γ) {c:Bi} (hc:NOk c) (hk:qHs c):Bm Tryz.prog Γ 11 [] [.t (.agg (tC c))] (.tu [.lp 31 0 0,.t (tI 0)]) [(31,.bx (Bg (I3 c) 634 c.nodes.l.length 0)),(634,.sl 65 1 (Ar (nP c (Ig c))))]:=by
 have hf:=qCI hc (q4e (c:=c))
 unfold q2K at hf
 rw[if_neg (by simp[hc.lev])]at hf
 exact qPk hΓ c hc.ok hk hc.ok.toCirOk hc.ok.asc (by have:=hc.n2;omega) hc.lev hf
theorem qHB (hΓ:GOk Γ) {c:Bi} (hc:NOk c) {p0 p:Pat} (hp0:POk c p0) (hp:POk c p) (ev:Int) :
  Bm Tryz.prog Γ 12 (hS (I3 c) c.nodes.l.length (nP c p0) ev) [.lp 1000000 0 0,.t (.agg (tP p))] (.t (.tup [.sl (Af (Ii c.nodes.l.length (nP c p0) (nP c p))) (some (Ii c.nodes.l.length (nP c p0) (nP c p)).length) none,tI 0]))
   (hS (I3 c) c.nodes.l.length (nP c p) (q0p c (nP c p0) (nP c p))) :=
 qLV hΓ c (qEj (q3v hc.ok hc.lev)) hc.lev (by have:=hc.n2;omega) hp0.i hp0.s p hp.i hp.s (qLA hc.lev hp0) hp.vi hp.vs ev
theorem qEk {c:Bi} (hc:NOk c) {p:Pat} (ev:Int):Bm Tryz.prog Γ 18 (hS (I3 c) c.nodes.l.length (nP c p) ev) [.lp 1000000 0 0] (.t (.sl (Ar (nP c p)) (some c.nodes.l.length) none)) (hS (I3 c) c.nodes.l.length (nP c p) ev) :=
 qAz (I3 c) c.nodes.l.length (nP c p) ev (by have:=hc.n2;omega) (q1C hc.lev _ _).1 (by have:=hc.n1;omega)
theorem qNu {x:CD} (hx:q4l x) (hm:x.mem=false):qHs (Po x):=by
 have hl4:=q29 hx
 have h5:=q2A hx
 have hN:(Po x).nodes.l=Et x:=rfl
 have hne:Et x≠[]:=xza.1 (by omega)
 have hnl:(Po x).names.l.length=(Dh x).length:=by simp[Po]
 have hol:(Po x).outs.l.length<=4:=by simp[Po];omega
 refine⟨hne,by rw[hN];omega,(fun h=>nomatch h),xza.1 (by omega),by omega,(fun h=>nomatch h),?_,?_,O5 (by simp) (by simp;omega)⟩
 ·simp[Po,qAG,hm]
 ·exact qHw hm
end Go.Lg
namespace Go.Lg
open Go
section
variable {P:Program} {Γ:Tables} {Q:AX->St->Prop} {s:St}
/- probecard/probecardlaw08.example (function 52) -/
abbrev q1h:IC:=(.seq (.reg [od 0 (.alloc false [(.slice none 0 0),(.slice none 0 0),(.slice none 0 0),(.slice none 0 0)])] [kp [0] [0]]) (.seq (.reg [od 1 (.build [(1,(ku 0)),(1,kN),(1,(ki 0)),(1,(ki 0))]),od 2 (.bsl true 3 1 [(ki
 3)]),od 3 (.build [(1,(ku 14)),(1,(tm 2)),(1,(ki 0)),(1,(ki 0))]),od 4 (.bsl true 3 1 [(ki 0)]),od 5 (.build [(1,(ku 4)),(1,(tm 4)),(1,(ki 0)),(1,(ki 0))]),od 6 (.bsl true 3 1 [(ki 1),(ki 2)]),od 7 (.build [(1,
 (ku 5)),(1,(tm 6)),(1,(ki 0)),(1,(ki 0))]),od 8 (.bsl true 3 1 [(ki 0),(ki 2)]),od 9 (.build [(1,(ku 12)),(1,(tm 8)),(1,(ki 0)),(1,(ki 0))]),od 10 (.bsl true 3 1 [(ki 4)]),od 11 (.build [(1,(ku 13)),(1,(tm
 10)),(1,(ki 0)),(1,(ki 0))]),od 12 (.bsl true 50 4 [(tm 1),(tm 3),(tm 5),(tm 7),(tm 9),(tm 11)]),od 13 (.bsl true 9 1 [(.const (sV [97])),(.const (sV [113])),(.const (sV [110])),(.const (sV [103])),(.const (sV
 [116])),(.const (sV [98]))]),od 14 (.bsl true 3 1 [(ki 3),(ki 5)]),od 15 (.build [(1,(tm 12)),(1,(tm 13)),(1,kN),(1,(tm 14))]),on (.store 4 (tm 0) (tm 15))] [kp [0] [0]]) .ret))
def q1i:List RV:=[.cell 0 4 true]
/- probecard/probecardlaw08.lives (function 16) -/
abbrev q4L:IC:=.gh (.seq (.seq (.reg [om 41 6,od 42 (.bin .lss (tm 41) (ki 4))] [kp [1,3,4,5,6,42] [1031,1634]]) (.cond (tm 42) .skip (.exit 0))) (.seq (.block 1 (.seq (.reg [om 46 3,om 47 6,od 48 (ia 1 46 47),od 49 (ld 1 48),od 50
 (.call 54 [(tm 49)]),om 45 50,od 51 (ex 45 0),od 52 (ex 45 1),om 7 51,om 8 52] [kp [1,3,4,5,6,7] [1031,1634]]) (.seq (.seq (.reg [om 53 7,od 54 (le 0 53),od 55 (.bin .neq (tm 54) (ki 2))] [kp [1,3,4,5,6,7,55]
 [1031,1634]]) (.cond (tm 55) (.seq (.reg [od 0 (.mv kF)] [kp [0] []]) .ret) .skip)) (.seq (.reg [om 57 1,om 58 7,od 59 (.slice 1 (tm 58) none (some (ki 1)) (some (ki 1))),om 60 7,od 61 (.slice 1 (tm 60) (some (ki 1)) none
 none),od 62 (.build [(1,(tm 59)),(1,(tm 61))]),od 63 (.hcallW 12 [(tm 57),(tm 62)] 0),om 56 63,od 64 (ex 56 0),od 65 (ex 56 1),om 9 64,om 10 65] [kp [1,3,4,5,6,9,10] [1031,1634]]) (.seq (.reg [om 66 10,od 67
 (.bin .neq (tm 66) (ki 0)),om 68 67,oF 69 (.mv (tm 9)) 68,oF 70 (.mv (tm 4)) 68,oF 71 (.mv (tm 6)) 68,oF 72 (ia 1 70 71) 68,oF 73 (ld 1 72) 68,oF 74 (.call 20 [(tm 69),(tm 73)]) 68,oF 75 (.bin .neq (tm 74) (ki 0)) 68,od
 76 (.pick (tm 68) kT (tm 75)),om 77 76,oF 78 (.mv (tm 1)) 77,oF 79 (.call 15 [(tm 78)]) 77,oF 80 (.mv (tm 5)) 77,oF 81 (.mv (tm 6)) 77,oF 82 (ia 1 80 81) 77,oF 83 (ld 1 82) 77,oF 84 (.bin .neq (tm 79) (tm 83)) 77,od 85
 (.pick (tm 77) kT (tm 84))] [kp [1,3,4,5,6,85] [1031,1634]]) (.cond (tm 85) (.seq (.reg [od 0 (.mv kF)] [kp [0] []]) .ret) .skip)))))) (.reg [om 43 6,od 44 (.bin .add (tm 43) (ki 1)),om 6 44] [kp [1,3,4,5,6] [1031,
 1634]]))) [kp [1,3,4,5,6] [1031,1634]]
def Zw:IC:=.loop q4L
abbrev q4M:IC:=(.seq (.reg [od 0 (.mv kF)] [kp [] []]) (.seq (.reg [od 14 (.call 52 []),od 15 (.ncall 11 [(tm 14)] 1000),om 13 15,od 16 (ex 13 0),od 17 (ex 13 1),om 1 16,om 2 17] [kp [1,2] [1031,1634]]) (.seq (.seq (.reg [om 18 2,od 19
 (.bin .neq (tm 18) (ki 0)),om 20 19,oF 21 (.mv (tm 1)) 20,oF 22 (.isNilP true (tm 21)) 20,od 23 (.pick (tm 20) kT (tm 22)),om 24 23,oF 25 (.mv (tm 1)) 24,oF 26 (.call 15 [(tm 25)]) 24,oF 27 (.bin .neq (tm 26) (ki 0)) 24,od
 28 (.pick (tm 24) kT (tm 27)),om 29 28,oF 30 (.mv (tm 1)) 29,oF 31 (.hcallW 18 [(tm 30)] 0) 29,oF 32 (.call 53 [(tm 31)]) 29,oF 33 (.bin .neq (tm 32) (.const (sV [88,88,88,88,88,88]))) 29,od 34 (.pick (tm 29) kT (tm
 33))] [kp [1,34] [1031,1634]]) (.cond (tm 34) (.seq (.reg [od 0 (.mv kF)] [kp [0] []]) .ret) .skip)) (.seq (.reg [od 35 (.bsl true 9 1 [(.const (sV [48,49])),(.const (sV [49,49])),(.const (sV [49,48])),(.const (sV [49,
 48]))]),om 3 35] [kp [1,3] [1031,1634]]) (.seq (.reg [od 36 (.bsl true 3 1 [(ki 0),(ki 1),(ki 2),(ki 3),(ki 4),(ki 5)]),od 37 (.bsl true 3 1 [(ki 0),(ki 2),(ki 3),(ki 4),(ki 5)]),od 38 (.bsl true 3 1 [(ki 1)]),od 39
 (.bsl true 33 1 [(tm 36),(tm 37),(tm 38),kN]),om 4 39] [kp [1,3,4] [1031,1634]]) (.seq (.reg [od 40 (.bsl true 3 1 [(ki 4),(ki 4),(ki 1),(ki 0)]),om 5 40] [kp [1,3,4,5] [1031,1634]]) (.seq (.seq (.reg [od 6 (.mv (ki
 0))] [kp [1,3,4,5,6] [1031,1634]]) (.block 0 Zw)) (.seq (.reg [om 87 1,od 88 (.bsl true 65 1 [(ku 1)]),od 89 (.build [(1,(tm 88)),(1,kN)]),od 90 (.hcallW 12 [(tm 87),(tm 89)] 0),om 86 90,od 91 (ex 86 0),
 od 92 (ex 86 1),om 11 91,om 12 92] [kp [1,12] [1031,1634]]) (.seq (.reg [om 93 12,od 94 (.bin .eql (tm 93) (ki 8)),om 95 94,oT 96 (.mv (tm 1)) 95,oT 97 (.hcallW 18 [(tm 96)] 0) 95,oT 98 (.call 53 [(tm 97)]) 95,oT 99 (.bin
 .eql (tm 98) (.const (sV [49,48,48,48,48,48]))) 95,od 100 (.pick (tm 95) (tm 99) kF),om 0 100] [kp [0] []]) .ret)))))))))
theorem H9 (h:∀ K:St->Prop,K=run P Γ Zw Q->run P Γ q4L (Aw K Q) s):run P Γ Zw Q s:=Ah h
def q4N:List RV:=[.tmp 0]
/- probecard/probecardlaw08.EventsApply (function 5) -/
abbrev Wm:IC:=.gh (.seq (.seq (.reg [om 91 17,om 92 14,od 93 (le 0 92),od 94 (.bin .lss (tm 91) (tm 93))] [kp [1,5,6,8,9,11,13,14,16,17,94] [5,13,109,1031,1634]]) (.cond (tm 94) .skip (.exit 2))) (.seq (.block 3 (.seq (.reg [om
 97 14,om 98 17,od 99 (ia 1 97 98),od 100 (ld 1 99),om 101 8,om 102 17,od 103 (ia 1 101 102),od 104 (ld 1 103),od 105 (.bin .neq (tm 100) (tm 104))] [kp [1,5,6,8,9,11,13,14,16,17,105] [5,13,109,1031,1634]])
 (.cond (tm 105) (.reg [om 106 16,om 107 17,od 108 (.bsl true 3 1 [(tm 107)]),od 109 (.app false 3 1 (tm 106) (tm 108)),om 16 109] [kp [1,5,6,8,9,11,13,14,16,17] [5,13,109,1031,1634]]) .skip))) (.reg [om 95 17,od
 96 (.bin .add (tm 95) (ki 1)),om 17 96] [kp [1,5,6,8,9,11,13,14,16,17] [5,13,109,1031,1634]]))) [kp [1,5,6,8,9,11,13,14,16,17] [5,13,109,1031,1634]]
def I4:IC:=.loop Wm
abbrev Wn:IC:=.gh (.seq (.seq (.reg [om 46 9,om 47 1,od 48 (le 0 47),od 49 (.bin .lss (tm 46) (tm 48))] [kp [1,5,6,8,9,49] [5,1031,1634]]) (.cond (tm 49) .skip (.exit 0))) (.seq (.block 1 (.seq (.reg [om 52 1,om 53 9,od 54 (ia 2 52
 53),od 55 (.ldT 2 true (tm 54)),od 56 (.ldR 5 4 true (tm 5)),od 57 (.call 13 [(tm 55),(tm 56)]),od 10 (.alloc false [(.slice none 0 0),(.slice none 0 0)]),on (.stR 10 2 (tm 10) (tm 57))] [kp [1,5,6,8,9,10] [5,10,1031,
 1634]]) (.seq (.reg [om 59 6,od 60 (lG 2 10),od 61 (.hcallW 12 [(tm 59),(tm 60)] 0),om 58 61,od 62 (ex 58 0),od 63 (ex 58 1),om 11 62,om 12 63] [kp [1,5,6,8,9,10,11,12] [5,10,1031,1634]]) (.seq (.reg [od 65 (lG 4
 5),od 66 (lG 2 10),od 67 (.call 22 [(tm 65),(tm 66)]),om 64 67,od 68 (ex 64 0),od 69 (ex 64 1),od 70 (ex 64 2),od 13 (.alloc false [(.slice none 0 0),(.slice none 0 0)]),on (.store 2 (tm 13) (tm 68)),om 14 69,om 15 70]
 [kp [1,5,6,8,9,11,12,13,14,15] [5,13,1031,1634]]) (.seq (.seq (.reg [om 71 12,od 72 (.bin .neq (tm 71) (ki 0)),om 73 72,oF 74 (.mv (tm 15)) 73,oF 75 (.bin .neq (tm 74) (ki 0)) 73,od 76 (.pick (tm 73) kT (tm 75)),
 om 77 76,oF 78 (.mv (tm 14)) 77,oF 79 (le 0 78) 77,oF 80 (.mv (tm 8)) 77,oF 81 (le 0 80) 77,oF 82 (.bin .neq (tm 79) (tm 81)) 77,od 83 (.pick (tm 77) kT (tm 82)),om 84 83,oF 85 (.mv (tm 6)) 84,oF 86 (.hcallW 18 [(tm 85)]
 0) 84,oF 87 (.mv (tm 14)) 84,oF 88 (.call 19 [(tm 86),(tm 87)]) 84,oF 89 (.bin .neq (tm 88) (ki 0)) 84,od 90 (.pick (tm 84) kT (tm 89))] [kp [1,5,6,8,9,11,13,14,90] [5,13,1031,1634]]) (.cond (tm 90) (.seq (.reg [od
 4 (.mv kF)] [kp [4] []]) .ret) .skip)) (.seq (.reg [od 16 (.mv kN)] [.nl 16 109 3 1,kp [1,5,6,8,9,11,13,14,16] [5,13,109,1031,1634]]) (.seq (.seq (.reg [od 17 (.mv (ki 0))] [kp [1,5,6,8,9,11,13,14,16,17] [5,
 13,109,1031,1634]]) (.block 2 I4)) (.seq (.reg [om 110 6,od 111 (.hcallW 23 [(tm 110)] 5000),od 18 (.alloc false [(.slice none 0 0),(.slice none 0 0)]),on (.store 2 (tm 18) (tm 111))] [kp [1,5,6,9,11,
 13,14,16,18] [5,13,18,109,1031,1634]]) (.seq (.seq (.reg [om 112 11,om 113 16,od 114 (.call 20 [(tm 112),(tm 113)]),od 115 (fa 0 18),od 116 (ld 1 115),od 117 (fa 0 13),od 118 (ld 1 117),od 119 (.call 19 [(tm 116),
 (tm 118)]),od 120 (.bin .add (tm 114) (tm 119)),od 121 (fa 1 18),od 122 (ld 1 121),od 123 (fa 1 13),od 124 (ld 1 123),od 125 (.call 19 [(tm 122),(tm 124)]),od 126 (.bin .add (tm 120) (tm 125)),od 127 (.bin .neq (tm 126)
 (ki 0))] [kp [1,5,6,9,14,127] [5,1031,1634]]) (.cond (tm 127) (.seq (.reg [od 4 (.mv kF)] [kp [4] []]) .ret) .skip)) (.reg [om 128 14,om 8 128] [kp [1,5,6,8,9] [5,1031,1634]])))))))))) (.reg [om 50 9,od 51 (.bin .add
 (tm 50) (ki 1)),om 9 51] [kp [1,5,6,8,9] [5,1031,1634]]))) [kp [1,5,6,8,9] [5,1031,1634]]
def I5:IC:=.loop Wn
abbrev Nv:IC:=(.seq (.reg [od 2 (.box false (tm 0)),od 4 (.mv kF)] [kp [1,2] [2]]) (.seq (.seq (.reg [om 19 1,od 20 (le 0 19),od 21 (.bin .gtr (tm 20) (ki 12))] [kp [1,2,21] [2]]) (.cond (tm 21) (.seq (.reg [od 22 (.call 16 []),om 4 22]
 [kp [4] []]) .ret) .skip)) (.seq (.reg [od 23 (fa 5 2),on (.store 1 (tm 23) kF)] [kp [1,2] [2]]) (.seq (.reg [od 24 (lG 12 2),od 25 (.call 10 [(tm 24)]),od 5 (.alloc false [(.slice none 0 0),(.slice none 0 0),(.slice none 0
 0),(.slice none 0 0)]),on (.store 4 (tm 5) (tm 25))] [kp [1,5] [5]]) (.seq (.reg [od 27 (lG 4 5),od 28 (.ncall 11 [(tm 27)] 1000),om 26 28,od 29 (ex 26 0),od 30 (ex 26 1),om 6 29,om 7 30] [kp [1,5,6,7] [5,1031,1634]])
 (.seq (.seq (.reg [om 31 7,od 32 (.bin .neq (tm 31) (ki 0)),om 33 32,oF 34 (.mv (tm 6)) 33,oF 35 (.isNilP true (tm 34)) 33,od 36 (.pick (tm 33) kT (tm 35))] [kp [1,5,6,36] [5,1031,1634]]) (.cond (tm 36) (.seq (.reg [od 4
 (.mv kF)] [kp [4] []]) .ret) .skip)) (.seq (.reg [od 37 (lG 4 5),od 38 (lG 4 5),od 39 (.call 17 [(tm 38)]),od 40 (.call 21 [(tm 37),(tm 39)]),om 8 40] [kp [1,5,6,8] [5,1031,1634]]) (.seq (.seq (.reg [om 41 6,od 42
 (.hcallW 18 [(tm 41)] 0),om 43 8,od 44 (.call 19 [(tm 42),(tm 43)]),od 45 (.bin .neq (tm 44) (ki 0))] [kp [1,5,6,8,45] [5,1031,1634]]) (.cond (tm 45) (.seq (.reg [od 4 (.mv kF)] [kp [4] []]) .ret) .skip)) (.seq (.seq
 (.reg [od 9 (.mv (ki 0))] [kp [1,5,6,8,9] [5,1031,1634]]) (.block 0 I5)) (.seq (.reg [od 129 (.call 16 []),om 4 129] [kp [4] []]) .ret))))))))))
theorem Pg (h:∀ K:St->Prop,K=run P Γ I4 Q->run P Γ Wm (Aw K Q) s):run P Γ I4 Q s:=Ah h
theorem Ph (h:∀ K:St->Prop,K=run P Γ I5 Q->run P Γ Wn (Aw K Q) s):run P Γ I5 Q s:=Ah h
def Nw:List RV:=[.tmp 4]
/- probecard/probecardlaw08.EventsEvals (function 3) -/
end
end Go.Lg
namespace Go.Lg
open Go Go.Proofs
theorem q7R:Ba Tryz.prog 52 q1h 16 0 q1i=true:=by kernel_rfl
theorem q9G:Ba Tryz.prog 16 q4M 101 0 q4N=true:=by kernel_rfl
theorem q38:Ba Tryz.prog 5 Nv 130 2 Nw=true:=by kernel_rfl
end Go.Lg
namespace Go.Lg
open Go Go.Proofs
variable {Γ:Tables}
theorem qK3 {Q:AX->St->Prop} (s:List UInt8) (hl:s.length<=1000) (hs:∀ b∈s,b=48\/b=49\/b=88\/b=90)
  (h0:Q (.exit 0) ⟨[(0,.t (tS s)),(4,.ls 9 0 s.length none),(11,.t (tI s.length)),(12,.t (tI s.length)),(13,.t (tB false))],[(9,.sl 65 1 (Ar (s.map W6)))]⟩) :
  ∀ (k i:Nat),k+i=s.length ->
  run Tryz.prog Γ T0 Q ⟨[(0,.t (tS s)),(4,.ls 9 0 s.length none),(11,.t (tI s.length)),(12,.t (tI i))],[(9,.sl 65 1 (Ar ((s.map W6).take i++List.replicate (s.length-i) 0)))]⟩
 | 0,i,h=>by
  refine Zk fun K hK=>?_
  have h2:i=s.length:=by omega
  subst h2
  rw[xqw (by simp),xjb,List.replicate_zero,List.append_nil]
  simp
  simpa using h0
 | k+1,i,h=>by
  refine Zk fun K hK=>?_
  have h2:i<s.length:=by omega
  have h2R:i<(s.map W6).length:=by simpa using h2
  have ih:=qK3 s hl hs h0 k (i+1) (by omega)
  have hb:=hs _ (xqj h2)
  have hget:(s[i]?.getD 0)=s[i]:=by simp[h2]
  have hRi:(s.map W6)[i]=W6 s[i]:=by simp
  have hset:∀ v:Int,v=W6 s[i]->(Ar ((s.map W6).take i++List.replicate (s.length-i) 0)).set i [tK v]=Ar ((s.map W6).take (i+1)++List.replicate (s.length-(i+1)) 0):=by
   rintro v rfl
   rw[show(Ar ((s.map W6).take i++List.replicate (s.length-i) 0)).set i [tK (W6 s[i])]=Ar (((s.map W6).take i++List.replicate (s.length-i) 0).set i (W6 s[i])) from Gf]
   congr 1
   have ht:((s.map W6).take i).length=i:=by rw[xzf];omega
   rw[List.set_append_right _ _ (by omega),ht,xjb,show s.length-i=(s.length-(i+1))+1 by omega,List.replicate_succ,List.set_cons_zero,xz7,xqg h2R,hRi]
   simp
  have hel:(Ar ((s.map W6).take i++List.replicate (s.length-i) 0)).length=s.length:=by rw[A6];simp;omega
  generalize Ar ((s.map W6).take i++List.replicate (s.length-i) 0)=E at *
  generalize Ar ((s.map W6).take (i+1)++List.replicate (s.length-(i+1)) 0)=E' at *
  generalize hbq:s[i]=b at *
  have hi:=q3X (Γ:=Γ) (ByteArray.mk #[48,49,88,90]) (b.toNat:Int)
  have hx:Lib.indexByte (ByteArray.mk #[48,49,88,90]).data.toList ((b.toNat:Int)).toNat.toUInt8=W6 b:=by
   rcases hb with rfl|rfl|rfl|rfl<;>rfl
  rw[hx]at hi
  have hp:0<=W6 b/\W6 b<=3:=by rcases hb with rfl|rfl|rfl|rfl<;>decide
  have hset:=hset _ rfl
  generalize W6 b=v at *
  have hneg:¬ v<0:=by omega
  have wv:IntKind.u8.wrap v=v:=by rw[C7]<;>omega
  have w1:=Nl (i:=i) (by omega)
  simp[tS,sV]at ih
  simp[tS,sV,h2,hget,hbq]
  refine A4 hi rfl ?_
  simp[hneg,wv,h2,hel,hset,w1]
  rw[hK]
  simpa using ih
theorem qFy (s:List UInt8) (hl:s.length<=1000) (hs:∀ b∈s,b=48\/b=49\/b=88\/b=90):A8 Tryz.prog Γ 54 [tS s] (.tup [.sl (Ar (s.map W6)) none none,tI 0]):=by
 refine Ae q99 rfl ?_
 have g:=fun Q h0=>qK3 (Γ:=Γ) (Q:=Q) s hl hs h0 s.length 0 (by omega)
 have hz:Ar ((s.map W6).take 0++List.replicate (s.length-0) 0)=List.replicate s.length [tK 0]:=by simp[Au]
 rw[hz]at g
 have vt:(Ar (s.map W6)).take s.length=Ar (s.map W6):=xqw (by rw[A6];simp)
 simp[tS,sV]at g
 simp[q43,tS,sV]
 refine⟨by omega,g _ ?_⟩
 simp[q44,Ai,vt]
structure qB5 (c:Bi) (s:Stt):Prop where
 d:s.dff.l.length=(B8 c).length
 w:s.words.l.length=c.mems.l.length
 r:s.read.l.length=c.mems.l.length
 wl:∀ i,i<c.mems.l.length->(s.words.l.getD i Sl.zz).l.length=2 ^ (c.mems.l.getD i Mm.d).addr.l.length
 wr:∀ i,i<c.mems.l.length->∀ w∈(s.words.l.getD i Sl.zz).l,w.l.length=(c.mems.l.getD i Mm.d).data.l.length
 rl:∀ i,i<c.mems.l.length->(s.read.l.getD i Sl.z).l.length=(c.mems.l.getD i Mm.d).data.l.length
 vd:∀ v∈s.dff.l,0<=v/\v<=2
 vw:∀ w∈s.words.l,∀ r∈w.l,∀ v∈r.l,0<=v/\v<=2
 vr:∀ r∈s.read.l,∀ v∈r.l,0<=v/\v<=2
theorem qIA {c:Bi} (h:Eg c=0):∀ m∈c.mems.l,(1<=m.addr.l.length/\m.addr.l.length<=8)/\(1<=m.data.l.length/\m.data.l.length<=32)/\(∀ n∈m.addr.l,0<=n/\n<c.nodes.l.length)/\(∀ n∈m.data.l,0<=n/\n<c.nodes.l.length)/\0<=m.write/\m.write<c.nodes.l.length:=by
 unfold Eg at h
 split at h
 ·cases h
 split at h
 ·cases h
 split at h
 ·rename_i h2;exact absurd h h2
 split at h
 ·rename_i h2;exact absurd h h2
 split at h
 ·rename_i h2;exact absurd h h2
 rename_i h2
 intro m hm
 have h3:=q0g (by simpa using h2) m hm
 unfold Q8 at h3
 split at h3
 ·cases h3
 rename_i h4
 split at h3
 ·cases h3
 rename_i h5
 simp only[not_or,xzm]at h4 h5
 obtain⟨a1,a2⟩:=h4
 obtain⟨a3,a4,a5⟩:=h5
 simp[Ww]at a1 a2
 simp[S5]at a5
 refine⟨⟨by have:=xza.2 a1.1;omega,by omega⟩,⟨by have:=xza.2 a2.1;omega,by omega⟩,q4X a3,q4X a4,a5.1,a5.2⟩
structure MOk (c:Bi):Prop where
 ok:COk c
 lev:Cf c=0
 n:c.nodes.l.length<=1000000
theorem MOk.mf {c:Bi} (h:MOk c):∀ m∈c.mems.l,(1<=m.addr.l.length/\m.addr.l.length<=8)/\(1<=m.data.l.length/\m.data.l.length<=32)/\(∀ n∈m.addr.l,0<=n/\n<c.nodes.l.length)/\(∀ n∈m.data.l,0<=n/\n<c.nodes.l.length)/\0<=m.write/\m.write<c.nodes.l.length:=qIA (J8 h.lev).1
theorem qCW {α:Type} {l:List α} {d:α} {i:Nat} (h:i<l.length):l.getD i d∈l:=by
 rw[show l.getD i d=l[i]by simp[xqe,h]]
 exact xqj h
theorem qB5.words {c:Bi} {s:Stt} (h:MOk c) (H:qB5 c s):∀ w∈s.words.l,w.l.length<=256/\w.l≠[]/\∀ r∈w.l,r.l.length<=32:=by
 intro w hw
 obtain⟨i,hi,rfl⟩:=xqt hw
 have hi':i<c.mems.l.length:=by rw[<- H.w];exact hi
 have e:s.words.l.getD i Sl.zz=s.words.l[i]:=by simp[xqe,hi]
 have h1:=H.wl i hi'
 have h2:=H.wr i hi'
 have h3:=h.mf _ (qCW (d:=Mm.d) hi')
 rw[e]at h1 h2
 have h4:2 ^ (c.mems.l.getD i Mm.d).addr.l.length<=2 ^ 8:=Nat.pow_le_pow_right (by omega) h3.1.2
 have h5:0<2 ^ (c.mems.l.getD i Mm.d).addr.l.length:=Nat.pow_pos (by omega)
 exact⟨by omega,fun e=>by have:=congrArg List.length e;rw[h1,xq9]at this;omega,fun r hr=>by rw[h2 r hr];exact h3.2.1.2⟩
theorem qB5.reads {c:Bi} {s:Stt} (h:MOk c) (H:qB5 c s):∀ r∈s.read.l,r.l.length<=32:=by
 intro r hr
 obtain⟨i,hi,rfl⟩:=xqt hr
 have hi':i<c.mems.l.length:=by rw[<- H.r];exact hi
 have e:s.read.l.getD i Sl.z=s.read.l[i]:=by simp[xqe,hi]
 have h1:=H.rl i hi'
 have h3:=h.mf _ (qCW (d:=Mm.d) hi')
 rw[e]at h1
 rw[h1];exact h3.2.1.2
def qK4 (R:List (List Int)):Sl (Sl Int):=⟨R.map fun r=>⟨r,none,none⟩,some R.length,none⟩
def qK5 (nets:List Int) (ms:List Mm) (ws:List (Sl (Sl Int))):List (Sl Int):=List.zipWith (fun m w=>⟨qLx (w.l.map (·.l)) (G1 nets m.addr.l),none,none⟩) ms ws
def qK6 (nets:List Int) (ms:List Mm) (ws:List (Sl (Sl Int))):List (Sl (Sl Int)):=List.zipWith (fun m w=>qK4 (qFb (G1 nets m.addr.l) (G1 nets m.data.l) (nets.getD m.write.toNat 0) 0 (w.l.map (·.l)))) ms ws
def qK7 (c:Bi) (s:Stt) (nets:List Int):Stt :=
 ⟨⟨Do c nets,some (Do c nets).length,none⟩,⟨qK6 nets c.mems.l s.words.l,some c.mems.l.length,none⟩,⟨qK5 nets c.mems.l s.words.l,some c.mems.l.length,none⟩⟩
def qK8 (c:Bi) (s:Stt) (inn:List Int):List Int:=qPa c inn s.dff.l s.rd
def qK9 (rel:Int->Int->Prop) (l m:List Int):Prop:=l.length=m.length/\∀ i,i<l.length->rel (l.getD i 0) (m.getD i 0)
structure qNv (rel:Int->Int->Prop) (a b:Stt):Prop where
 d:qK9 rel a.dff.l b.dff.l
 rl:a.read.l.length=b.read.l.length
 r:∀ i,i<a.read.l.length->qK9 rel (a.read.l.getD i Sl.z).l (b.read.l.getD i Sl.z).l
 wl:a.words.l.length=b.words.l.length
 w:∀ i,i<a.words.l.length->(a.words.l.getD i Sl.zz).l.length=(b.words.l.getD i Sl.zz).l.length/\∀ j,j<(a.words.l.getD i Sl.zz).l.length->qK9 rel ((a.words.l.getD i Sl.zz).l.getD j Sl.z).l ((b.words.l.getD i Sl.zz).l.getD j Sl.z).l
end Go.Lg
namespace Go.Lg
open Go Go.Proofs
def V3 (v:Int):Prop:=0<=v/\v<=2
end Go.Lg
namespace Go.Lg
open Go Go.Proofs
variable {Γ:Tables}
theorem qMJ {Q:AX->St->Prop} (c:Bi) (n:Nat) (hn:n<=1000000) (x:Nd) (hxl:x.inn.l.length<=1000000) (hin:∀ p∈x.inn.l,0<=p/\p<n) (nets:List Int) (hl:nets.length=n) (ord:T) (i:Nat) (R:List Int)
  (h0:Q (.exit 2) ⟨[(2,.t (.ip (tC c) 0)),(5,.ls 12 0 n none),(6,.t ord),(7,.t (tI i)),(8,.lp 8 0 0),(9,.ls 46 0 x.inn.l.length none),(10,.t (tI x.inn.l.length)),(33,.t (tB false))],[(8,.bx ((Dl x).map .t)),(12,.sl 65 1 (Ar nets)),(46,.sl 65 1 (Ar R))]⟩) :
  ∀ (f j:Nat) (out:List Int),f+j=x.inn.l.length->out.length=j->out++(x.inn.l.drop j).map (fun k=>nets.getD k.toNat 0)=R ->
  run Tryz.prog Γ Pz Q ⟨[(2,.t (.ip (tC c) 0)),(5,.ls 12 0 n none),(6,.t ord),(7,.t (tI i)),(8,.lp 8 0 0),(9,.ls 46 0 j none),(10,.t (tI j))],[(8,.bx ((Dl x).map .t)),(12,.sl 65 1 (Ar nets)),(46,.sl 65 1 (Ar out))]⟩
 | 0,j,out,h,ho,hR=>by
  refine Xt fun K hK=>?_
  have h2:j=x.inn.l.length:=by omega
  rw[xq2 (by omega),xq3,List.append_nil]at hR
  subst hR
  subst h2
  simp[Dl,As]at h0
  simp[Dl,As,A6]
  simpa using h0
 | f+1,j,out,h,ho,hR=>by
  refine Xt fun K hK=>?_
  have h2:j<x.inn.l.length:=by omega
  rw[xqq h2,xqm]at hR
  have e1:=gE (f:=tI) 0 h2
  have e1':=gE' (f:=tI) 0 h2
  obtain⟨p0,p1⟩:=hin _ (xqj h2)
  rw[Be h2]at e1 e1'
  generalize x.inn.l[j]=p at *
  have hq:p.toNat<nets.length:=by omega
  have hqn:p.toNat<n:=by omega
  have e2:=gE (f:=tK) 0 hq
  have e2':=gE' (f:=tK) 0 hq
  have ih:=qMJ c n hn x hxl hin nets hl ord i R h0 f (j+1) (out++[nets.getD p.toNat 0]) (by omega) (by simp[ho]) (by rw[<- hR];simp)
  generalize nets.getD p.toNat 0=v at *
  have vs:=Ur (l:=out) (v:=v)
  have vt:(Ar out).take j=Ar out:=by rw[<- ho];exact C4
  have w1:IntKind.i64.wrap ((j:Int)+1)=(j:Int)+1:=by rw[A7]<;>omega
  simp[Dl,As]at ih
  simp[Dl,As,A6,A9,h2,e1,e1',p0,p1,hq,hqn,hl,e2,e2',vt,vs,ho,w1]
  refine⟨by omega,?_⟩
  rw[hK]
  simpa using ih
theorem qMK {Q:AX->St->Prop} (c:Bi) (H:ROk c) (hk:∀ i,i<c.nodes.l.length->0<=Aj c i/\Aj c i<=15) (hn:c.nodes.l.length<=1000000) (ord:List Int) (oc:Option Nat) (on':Option Bool) (ho:ord.length<=1000000) (hin:∀ n∈ord,0<=n/\n<c.nodes.l.length) (R:List Int)
  (h0:Q (.exit 0) ⟨[(2,.t (.ip (tC c) 0)),(5,.ls 12 0 c.nodes.l.length none),(6,.t (.sl (Af ord) oc on')),(7,.t (tI ord.length)),(18,.t (tB false))],[(12,.sl 65 1 (Ar R))]⟩) :
  ∀ (f i:Nat) (nets:List Int),f+i=ord.length->nets.length=c.nodes.l.length->(∀ v∈nets,V4 v)->q4m c (ord.drop i) nets=R ->
  run Tryz.prog Γ Q0 Q ⟨[(2,.t (.ip (tC c) 0)),(5,.ls 12 0 c.nodes.l.length none),(6,.t (.sl (Af ord) oc on')),(7,.t (tI i))],[(12,.sl 65 1 (Ar nets))]⟩
 | 0,i,nets,h,hl,hv,hR=>by
  refine Xu fun K hK=>?_
  have h2:i=ord.length:=by omega
  subst h2
  rw[xzs]at hR
  have hR':nets=R:=hR
  subst hR'
  simp[tC,Aa,Ad,Ag,As]at h0
  simp[tC,Aa,Ad,Ag,As,A6]
  simpa using h0
 | f+1,i,nets,h,hl,hv,hR=>by
  refine Xu fun K hK=>?_
  have h2:i<ord.length:=by omega
  rw[xqq h2]at hR
  have hR:q4m c (ord.drop (i+1)) (S8 c nets ord[i])=R:=hR
  have e1:=gE (f:=tI) 0 h2
  have e1':=gE' (f:=tI) 0 h2
  have hnn:=hin _ (xqj h2)
  rw[Be h2]at e1 e1'
  generalize ord[i]=n at *
  have ih:=qMK c H hk hn ord oc on' ho hin R h0 f (i+1) (S8 c nets n) (by omega) (by rw[q4b];exact hl) (qGg hv) hR
  have hget:=q3u hnn.1 hnn.2
  have hget':=q7J hnn.1 hnn.2
  have hmem:=qCt hnn.1 hnn.2
  have hxi:=H.inn _ hmem
  have hn2:n.toNat<c.nodes.l.length:=by omega
  have hkk:0<=(nd c n).k/\(nd c n).k<=15:=hk n.toNat hn2
  have hinv:Dx c nets n.toNat=(nd c n).inn.l.map fun k=>nets.getD k.toNat 0:=rfl
  have hlR:(Dx c nets n.toNat).length=(nd c n).inn.l.length:=by rw[hinv];simp
  have hvR:∀ v∈Dx c nets n.toNat,V4 v:=fun v hv'=>by
   rw[hinv]at hv'
   obtain⟨q,hq,rfl⟩:=xqy.1 hv'
   exact q2B hv _
  have hev:=qD6 (Γ:=Γ) (nd c n).k hkk ⟨Dx c nets n.toNat,none,none⟩ (by show(Dx c nets n.toNat).length<=_;omega)
  have heq:=qLD hkk hvR
  simp only[heq]at hev
  have hcb:=q2S (Γ:=Γ) (nd c n).k
  have hst:S8 c nets n=if C2 (nd c n).k then nets.set n.toNat (Gs (nd c n).k (Dx c nets n.toNat))else nets:=rfl
  have g:=fun Q h0=>qMJ (Γ:=Γ) (Q:=Q) c c.nodes.l.length hn (nd c n) (by omega) hxi.2 nets hl (.sl (Af ord) oc on') i (Dx c nets n.toNat) h0 (nd c n).inn.l.length 0 [] (by omega) rfl (by rw[hinv];simp)
  rw[hst]at ih
  have vt:(Ar (Dx c nets n.toNat)).take (nd c n).inn.l.length=Ar (Dx c nets n.toNat):=by rw[<- hlR];exact C4
  generalize Dx c nets n.toNat=RV at *
  generalize nd c n=x at *
  obtain⟨hn0,hn1⟩:=hnn
  have hn3:n.toNat<nets.length:=by omega
  have w1:IntKind.i64.wrap ((i:Int)+1)=(i:Int)+1:=by rw[A7]<;>omega
  simp[tV]at hev
  simp[tC,Aa,Ad,Ag,As,Dl,Gy]at g
  simp[tC,Aa,Ad,Ag,As,Ab,Bq,A6,A9,h2,e1,e1',hn0,hn1,hn2,hget,hget',Dl]
  refine g _ ?_
  simp
  refine A4 hcb rfl ?_
  by_cases hc:C2 x.k=true
  ·rw[if_pos hc]at ih
   have hs:(Ar nets).set n.toNat [tK (Gs x.k RV)]=Ar (nets.set n.toNat (Gs x.k RV)):=Gf
   generalize Gs x.k RV=v at *
   simp[tC,Aa,Ad,Ag,As]at ih
   simp[hc,A6,A9,h2,e1,e1']
   refine A4 hev (by simp[Ai,vt]) ?_
   simp[hn0,hn1,hn2,hn3,A6,hl,hs,w1]
   rw[hK]
   simpa using ih
  ·rw[if_neg hc]at ih
   simp only[xzm]at hc
   simp[tC,Aa,Ad,Ag,As]at ih
   simp[hc,w1]
   rw[hK]
   simpa using ih
theorem qB6 (c:Bi) (hc:COk c) (h:Cf c=0) (hk:∀ i,i<c.nodes.l.length->0<=Aj c i/\Aj c i<=15) (hn:c.nodes.l.length<=1000000) (hn1:1<=c.nodes.l.length) (init:List Int) (hi:init.length=c.nodes.l.length) (hv:∀ v∈init,V4 v) (f:List Int) (hf:qFW c init f) (ic:Option Nat) (inl:Option Bool):A8 Tryz.prog Γ 60 [.agg (tC c),.sl (Ar init) ic inl] (.sl (Ar f) none none):=by
 refine Ae q8D rfl ?_
 obtain⟨o,⟨v,ho,hol⟩,e1⟩:=qBU (Γ:=Γ) c hc h hn
 have hL:=q8F h
 have hfo:q4m c o init=f:=by
  rw[ho]
  exact qAI h (qFg h hL (by rw[<- ho];exact hol) hi) hf
 have hoin:∀ n∈o,0<=n/\n<c.nodes.l.length:=fun n hn=>by
  rw[ho]at hn
  exact Lm.1 (Jx.1 hn).1
 have hole:o.length<=c.nodes.l.length:=by rw[ho];exact qAm
 have g:=fun Q oc on' h0=>qMK (Γ:=Γ) (Q:=Q) c (q3v hc h) hk hn o oc on' (by omega) hoin f h0 o.length 0 init (by omega) hi hv (by rw[xzt];exact hfo)
 have ht:(Ar f).take c.nodes.l.length=Ar f:=by rw[<- hf.1];exact C4
 have hne:¬ init=[]:=fun e=>by rw[e]at hi;simp at hi;omega
 simp[tC,Aa,Ad,Ag,As]at e1 g
 simp[q2r,tC,Aa,Ad,Ag,As,A6,A9,hi,hne]
 refine⟨by omega,?_⟩
 refine Aq e1 rfl ?_
 simp
 refine g _ _ _ ?_
 simp[q2s,Ai,ht]
theorem qML {Q:AX->St->Prop} (c:Bi) (p:Pat) (ns:List Int) (nc:Option Nat) (nn:Option Bool) (n:Nat) (hn:n<=1000000) (hns:ns.length<=1000000) (hin:∀ x∈ns,0<=x/\x<n) (hp:p.inn.l.length=ns.length) (R:List Int)
  (h0:Q (.exit 0) ⟨[(2,.t (.ip (tC c) 0)),(3,.t (.ip (tP p) 0)),(5,.ls 12 0 n none),(6,.t (.sl (Af ns) nc nn)),(7,.t (tI ns.length)),(18,.t (tB false))],[(12,.sl 65 1 (Ar R))]⟩) :
  ∀ (k i:Nat) (l:List Int),k+i=ns.length->l.length=n->Ek (ns.drop i) (p.inn.l.drop i) l=R ->
  run Tryz.prog Γ Vh Q ⟨[(2,.t (.ip (tC c) 0)),(3,.t (.ip (tP p) 0)),(5,.ls 12 0 n none),(6,.t (.sl (Af ns) nc nn)),(7,.t (tI i))],[(12,.sl 65 1 (Ar l))]⟩
 | 0,i,l,h,hl,hR=>by
  refine q0Q fun K hK=>?_
  have h2:i=ns.length:=by omega
  subst h2
  rw[xzs]at hR
  simp only[Ek]at hR
  subst hR
  simp[tC,Aa,Ad,Ag,As,tP,tV]at h0
  simp[tC,Aa,Ad,Ag,As,tP,tV,A6]
  simpa using h0
 | k+1,i,l,h,hl,hR=>by
  refine q0Q fun K hK=>?_
  have h2:i<ns.length:=by omega
  have h3:i<p.inn.l.length:=by omega
  rw[q2H h2 h3]at hR
  have ih:=qML c p ns nc nn n hn hns hin hp R h0 k (i+1) _ (by omega) (by simp[hl]) hR
  have e1:=gE (f:=tI) 0 h2
  have e1':=gE' (f:=tI) 0 h2
  have e2:=gE (f:=tK) 0 h3
  have e2':=gE' (f:=tK) 0 h3
  have hx:=hin (ns.getD i 0) (by rw[Be h2];exact xqj h2)
  have hs:∀ (j:Nat) (v:Int),(Ar l).set j [tK v]=Ar (l.set j v):=fun j v=>Gf
  generalize ns.getD i 0=x at *
  generalize p.inn.l.getD i 0=v at *
  have hx2:x.toNat<n:=by omega
  have hx3:x.toNat<l.length:=by omega
  obtain⟨hx0,hx1⟩:=hx
  have w1:IntKind.i64.wrap ((i:Int)+1)=(i:Int)+1:=by rw[A7]<;>omega
  simp[tC,Aa,Ad,Ag,As,tP,tV]at ih
  simp[tC,Aa,Ad,Ag,As,tP,tV,A6,A9,h2,h3,e1,e1',e2,e2',hx0,hx1,hx2,hx3,hl,hs,hp,w1]
  rw[hK]
  simpa using ih
theorem qMM {Q:AX->St->Prop} (c:Bi) (p:Pat) (ns:List Int) (nc:Option Nat) (nn:Option Bool) (n:Nat) (hn:n<=1000000) (hns:ns.length<=1000000) (hin:∀ x∈ns,0<=x/\x<n) (hp:p.st.l.length=ns.length) (R:List Int)
  (h0:Q (.exit 2) ⟨[(2,.t (.ip (tC c) 0)),(3,.t (.ip (tP p) 0)),(5,.ls 12 0 n none),(6,.t (.sl (Af ns) nc nn)),(8,.t (tI ns.length)),(37,.t (tB false))],[(12,.sl 65 1 (Ar R))]⟩) :
  ∀ (k i:Nat) (l:List Int),k+i=ns.length->l.length=n->Ek (ns.drop i) (p.st.l.drop i) l=R ->
  run Tryz.prog Γ Vi Q ⟨[(2,.t (.ip (tC c) 0)),(3,.t (.ip (tP p) 0)),(5,.ls 12 0 n none),(6,.t (.sl (Af ns) nc nn)),(8,.t (tI i))],[(12,.sl 65 1 (Ar l))]⟩
 | 0,i,l,h,hl,hR=>by
  refine q0R fun K hK=>?_
  have h2:i=ns.length:=by omega
  subst h2
  rw[xzs]at hR
  simp only[Ek]at hR
  subst hR
  simp[tC,Aa,Ad,Ag,As,tP,tV]at h0
  simp[tC,Aa,Ad,Ag,As,tP,tV,A6]
  simpa using h0
 | k+1,i,l,h,hl,hR=>by
  refine q0R fun K hK=>?_
  have h2:i<ns.length:=by omega
  have h3:i<p.st.l.length:=by omega
  rw[q2H h2 h3]at hR
  have ih:=qMM c p ns nc nn n hn hns hin hp R h0 k (i+1) _ (by omega) (by simp[hl]) hR
  have e1:=gE (f:=tI) 0 h2
  have e1':=gE' (f:=tI) 0 h2
  have e2:=gE (f:=tK) 0 h3
  have e2':=gE' (f:=tK) 0 h3
  have hx:=hin (ns.getD i 0) (by rw[Be h2];exact xqj h2)
  have hs:∀ (j:Nat) (v:Int),(Ar l).set j [tK v]=Ar (l.set j v):=fun j v=>Gf
  generalize ns.getD i 0=x at *
  generalize p.st.l.getD i 0=v at *
  have hx2:x.toNat<n:=by omega
  have hx3:x.toNat<l.length:=by omega
  obtain⟨hx0,hx1⟩:=hx
  have w1:IntKind.i64.wrap ((i:Int)+1)=(i:Int)+1:=by rw[A7]<;>omega
  simp[tC,Aa,Ad,Ag,As,tP,tV]at ih
  simp[tC,Aa,Ad,Ag,As,tP,tV,A6,A9,h2,h3,e1,e1',e2,e2',hx0,hx1,hx2,hx3,hl,hs,hp,w1]
  rw[hK]
  simpa using ih
theorem qDI {c:Bi} (hc:NOk c) {p:Pat} (hp:POk c p):Az Tryz.prog Γ 21 [.agg (tC c),.agg (tP p)] (.sl (Ar (Br c p.inn.l p.st.l)) none none):=by
 refine Bz qAl rfl ?_
 have hn1:=hc.n1
 have hn2:=hc.n2
 have hil:=Js c
 have hsl:=F3 c
 have e1:=qAp (Γ:=Γ) c hc.ok 0 (by omega)
 have e2:=qAp (Γ:=Γ) c hc.ok 14 (by omega)
 have hin1:∀ n∈Bd c,0<=n/\n<c.nodes.l.length:=fun n hn=>⟨(F7 n hn).1,(F7 n hn).2.1⟩
 have hin2:∀ n∈B8 c,0<=n/\n<c.nodes.l.length:=fun n hn=>⟨(F7 n hn).1,(F7 n hn).2.1⟩
 have g1:=fun Q nc nn h0=>qML (Γ:=Γ) (Q:=Q) c p (Bd c) nc nn c.nodes.l.length (by omega) (by omega) hin1 hp.i (Ek (Bd c) p.inn.l (List.replicate c.nodes.l.length 0)) h0 (Bd c).length 0 (List.replicate c.nodes.l.length 0) (by omega) (by simp) (by rw[xzt,xzt])
 have g3:=fun Q nc nn h0=>qMM (Γ:=Γ) (Q:=Q) c p (B8 c) nc nn c.nodes.l.length (by omega) (by omega) hin2 hp.s (Kq c p.inn.l p.st.l) h0 (B8 c).length 0 (Ek (Bd c) p.inn.l (List.replicate c.nodes.l.length 0)) (by omega) (by rw[Qu];simp) (by rw[xzt,xzt];rfl)
 have h4:∀ v∈Kq c p.inn.l p.st.l,V4 v:=q2L hp.vs (q2L hp.vi fun v hv=>by rw[xqx hv];simp[V4])
 have es:=fun ic inl=>qB6 (Γ:=Γ) c hc.ok hc.lev (fun i hi=>⟨(hc.k i hi).1,by have:=(hc.k i hi).2;omega⟩) (by omega) hn1 (Kq c p.inn.l p.st.l) Ky h4 (Br c p.inn.l p.st.l) (q1C hc.lev p.inn.l p.st.l) ic inl
 have hll:(Kq c p.inn.l p.st.l).length=c.nodes.l.length:=Ky
 have ht:(Ar (Kq c p.inn.l p.st.l)).take c.nodes.l.length=Ar (Kq c p.inn.l p.st.l):=by rw[<- hll];exact C4
 have hz:Ar (List.replicate c.nodes.l.length (0:Int))=List.replicate c.nodes.l.length [tK 0]:=by simp[Au]
 rw[hz]at g1
 have hi0:N8 [0] c.nodes.l 0=Bd c:=rfl
 have hs0:N8 [14] c.nodes.l 0=B8 c:=rfl
 rw[hi0]at e1
 rw[hs0]at e2
 generalize Ek (Bd c) p.inn.l (List.replicate c.nodes.l.length 0)=L1 at *
 generalize Kq c p.inn.l p.st.l=L2 at *
 generalize Br c p.inn.l p.st.l=N at *
 generalize Bd c=is at *
 generalize B8 c=ss at *
 simp[tC,Aa,Ad,Ag,As,tP,tV]at e1 e2 g1 g3 es
 simp[q5M,tC,Aa,Ad,Ag,As,tP,tV,Ab]
 refine⟨by omega,?_⟩
 refine Aq e1 rfl ?_
 simp
 refine g1 _ _ _ ?_
 simp
 refine Aq e2 rfl ?_
 simp
 refine g3 _ _ _ ?_
 simp
 refine A4 (es none none) (by simp[Ai,ht]) ?_
 simp[q5N,Ai]
theorem qMN {α:Type} {l:List α} (h:l.length=1):∃ a,l=[a]:=by
 match l,h with
 | [a],_=>exact⟨a,rfl⟩
theorem qHC {α:Type} {l:List α} (h:l.length=2):∃ a b,l=[a,b]:=by
 match l,h with
 | [a,b],_=>exact⟨a,b,rfl⟩
theorem st2 {c:Bi} {s:Stt} (H:qB5 c s) {m:Mm} (hm:c.mems.l=[m]) (ha:m.addr.l.length=1) (hd:m.data.l.length=2) :
  ∃ W r0 r1 a b cc d rd e f,s.words.l=[W]/\W.l=[r0,r1]/\r0.l=[a,b]/\r1.l=[cc,d]/\s.read.l=[rd]/\rd.l=[e,f]/\V3 a/\V3 b/\V3 cc/\V3 d/\V3 e/\V3 f:=by
 have hl:c.mems.l.length=1:=by rw[hm];rfl
 obtain⟨W,hW⟩:=qMN (H.w.trans hl)
 obtain⟨rd,hr⟩:=qMN (H.r.trans hl)
 have wl:=H.wl 0 (by omega)
 have wr:=H.wr 0 (by omega)
 have rl:=H.rl 0 (by omega)
 have em:c.mems.l.getD 0 Mm.d=m:=by rw[hm];rfl
 have eW:s.words.l.getD 0 Sl.zz=W:=by rw[hW];rfl
 have er:s.read.l.getD 0 Sl.z=rd:=by rw[hr];rfl
 rw[eW,em,ha]at wl
 rw[eW,em,hd]at wr
 rw[er,em,hd]at rl
 obtain⟨r0,r1,hW2⟩:=qHC (show W.l.length=2 from wl)
 obtain⟨e,f,hrd⟩:=qHC rl
 obtain⟨a,b,h0⟩:=qHC (wr r0 (by rw[hW2];simp))
 obtain⟨cc,d,h1⟩:=qHC (wr r1 (by rw[hW2];simp))
 have v0:=H.vw W (by rw[hW];simp) r0 (by rw[hW2];simp)
 have v1:=H.vw W (by rw[hW];simp) r1 (by rw[hW2];simp)
 have v2:=H.vr rd (by rw[hr];simp)
 exact⟨W,r0,r1,a,b,cc,d,rd,e,f,hW,hW2,h0,h1,hr,hrd,v0 a (by rw[h0];simp),v0 b (by rw[h0];simp),v1 cc (by rw[h1];simp),v1 d (by rw[h1];simp),v2 e (by rw[hrd];simp),v2 f (by rw[hrd];simp)⟩
theorem qBK.rel {a b:List Int} (h:qBK a b):qK9 Blw a b:=⟨h.1,fun i _=>h.2 i⟩
end Go.Lg
namespace Go.Lg
open Go Go.Proofs
structure q4O (a b:Stt):Prop where
 d:a.dff.l=b.dff.l
 w:a.ws=b.ws
 r:a.rd=b.rd
theorem q4O.refl (a:Stt):q4O a a:=⟨rfl,rfl,rfl⟩
theorem q4O.symm {a b:Stt} (h:q4O a b):q4O b a:=⟨h.d.symm,h.w.symm,h.r.symm⟩
theorem q4O.trans {a b d:Stt} (h:q4O a b) (g:q4O b d):q4O a d:=⟨h.d.trans g.d,h.w.trans g.w,h.r.trans g.r⟩
theorem qB7 {nets:List Int}:∀ {ms:List Mm} {ws:List (Sl (Sl Int))},qK5 nets ms ws=List.zipWith (fun m w=>⟨qLx w (G1 nets m.addr.l),none,none⟩) ms (ws.map fun w=>w.l.map (·.l))
 | [],_=>rfl
 | _::_,[]=>rfl
 | m::ms,w::ws=>by
  have:=qB7 (nets:=nets) (ms:=ms) (ws:=ws)
  unfold qK5 at this ⊢
  simp only[List.zipWith_cons_cons,xqm,this]
theorem qB8 {nets:List Int}:∀ {ms:List Mm} {ws:List (Sl (Sl Int))},qK6 nets ms ws=List.zipWith (fun m w=>qK4 (qFb (G1 nets m.addr.l) (G1 nets m.data.l) (nets.getD m.write.toNat 0) 0 w)) ms (ws.map fun w=>w.l.map (·.l))
 | [],_=>rfl
 | _::_,[]=>rfl
 | m::ms,w::ws=>by
  have:=qB8 (nets:=nets) (ms:=ms) (ws:=ws)
  unfold qK6 at this ⊢
  simp only[List.zipWith_cons_cons,xqm,this]
theorem q4O.nets {c:Bi} {a b:Stt} (h:q4O a b) (i:List Int):qK8 c a i=qK8 c b i:=by unfold qK8;rw[h.d,h.r]
theorem q4O.next {c:Bi} {a b:Stt} (h:q4O a b) (N:List Int):qK7 c a N=qK7 c b N:=by
 unfold qK7
 rw[qB7,qB7,qB8,qB8]
 have hw:=h.w
 unfold Stt.ws at hw
 rw[hw]
theorem q6G {a b:List (Sl Int)} (h:a.map (·.l)=b.map (·.l)) (i:Nat):(a.getD i Sl.z).l=(b.getD i Sl.z).l:=by
 have:=congrArg (fun x=>x.getD i []) h
 simp only[xqe,xqr]at this ⊢
 cases ha:a[i]?<;>cases hb:b[i]?<;>simp[ha,hb]at this ⊢<;>first|exact this|(simp[Sl.z,this])
theorem Ym {α β:Type} {f:α->β} {a b:List α} (h:a.map f=b.map f):a.length=b.length:=by
 have:=congrArg List.length h
 simpa using this
theorem q6H {a b:List (Sl (Sl Int))} (h:(a.map fun w=>w.l.map (·.l))=b.map fun w=>w.l.map (·.l)) (i:Nat):(a.getD i Sl.zz).l.map (·.l)=(b.getD i Sl.zz).l.map (·.l):=by
 have:=congrArg (fun x=>x.getD i []) h
 simp only[xqe,xqr]at this ⊢
 cases ha:a[i]?<;>cases hb:b[i]?<;>simp[ha,hb]at this ⊢<;>first|exact this|(simp[Sl.zz,this])
theorem qKA {a b:List Int} (h:a=b):qK9 (·=·) a b:=by subst h;exact⟨rfl,fun _ _=>rfl⟩
theorem q4O.rel {a b:Stt} (h:q4O a b):qNv (·=·) a b:=by
 have hw:=h.w
 have hr:=h.r
 unfold Stt.ws at hw
 unfold Stt.rd at hr
 refine⟨qKA h.d,Ym hr,fun i _=>qKA (q6G hr i),Ym hw,fun i _=>?_⟩
 have:=q6H hw i
 exact⟨Ym this,fun j _=>qKA (q6G this j)⟩
theorem q8N {a b:List (Sl Int)} (h:a.map (·.l)=b.map (·.l)) {r:Sl Int} (hr:r∈a):∃ q∈b,q.l=r.l:=by
 have:r.l∈b.map (·.l):=by rw[<- h];exact xqy.2 ⟨r,hr,rfl⟩
 obtain⟨q,hq,e⟩:=xqy.1 this
 exact⟨q,hq,e⟩
theorem q4O.ok {c:Bi} {a b:Stt} (h:q4O a b) (H:qB5 c b):qB5 c a:=by
 have hw:=h.w
 have hr:=h.r
 unfold Stt.ws at hw
 unfold Stt.rd at hr
 refine⟨by rw[h.d,H.d],(Ym hw).trans H.w,(Ym hr).trans H.r,fun i hi=>(Ym (q6H hw i)).trans (H.wl i hi),fun i hi w hw'=>?_,fun i hi=>by rw[q6G hr i];exact H.rl i hi,by rw[h.d];exact H.vd,fun w hw' r hr'=>?_,fun r hr'=>?_⟩
 ·obtain⟨q,hq,e⟩:=q8N (q6H hw i) hw'
  rw[<- e];exact H.wr i hi q hq
 ·have:w.l.map (·.l)∈b.words.l.map fun w=>w.l.map (·.l):=by rw[<- hw];exact xqy.2 ⟨w,hw',rfl⟩
  obtain⟨W,hW,e⟩:=xqy.1 this
  obtain⟨q,hq,e2⟩:=q8N e.symm hr'
  rw[<- e2];exact H.vw W hW q hq
 ·obtain⟨q,hq,e⟩:=q8N hr hr'
  rw[<- e];exact H.vr q hq
def qPl (c:Bi) (is:List (List Int)):Prop:=∀ i∈is,i.length=(Bd c).length/\∀ v∈i,V4 v
end Go.Lg
namespace Go.Lg
open Go
section
variable {P:Program} {Γ:Tables} {Q:AX->St->Prop} {s:St}
/- probecard/cycles.Run (function 27) -/
abbrev q5X:IC:=.gh (.seq (.seq (.reg [om 18 5,om 19 0,od 20 (le 0 19),od 21 (.bin .lss (tm 18) (tm 20))] [kp [0,1,5,21] []]) (.cond (tm 21) .skip (.exit 0))) (.seq (.block 1 (.seq (.reg [om 24 0,om 25 5,od 26 (ia 1 24 25),od 27 (ld 1
 26),om 28 1,om 29 5,od 30 (ia 1 28 29),od 31 (ld 1 30),od 32 (.bin .neq (tm 27) (tm 31))] [kp [0,1,5,32] []]) (.cond (tm 32) (.seq (.reg [od 4 (.mv (ki 1))] [kp [4] []]) .ret) .skip))) (.reg [om 22 5,od 23 (.bin .add (tm
 22) (ki 1)),om 5 23] [kp [0,1,5] []]))) [kp [0,1,5] []]
def Vl:IC:=.loop q5X
abbrev q5Y:IC:=(.seq (.reg [od 4 (.mv (ki 0))] [kp [0,1] []]) (.seq (.seq (.reg [om 6 0,od 7 (le 0 6),om 8 1,od 9 (le 0 8),od 10 (.bin .neq (tm 7) (tm 9)),om 11 10,oF 12 (.mv (tm 0)) 11,oF 13 (.cap (tm 12)) 11,oF 14 (.mv (tm 0)) 11,oF
 15 (le 0 14) 11,oF 16 (.bin .gtr (tm 13) (tm 15)) 11,od 17 (.pick (tm 11) kT (tm 16))] [kp [0,1,17] []]) (.cond (tm 17) (.seq (.reg [od 4 (.mv (ki 1))] [kp [4] []]) .ret) .skip)) (.seq (.seq (.reg [od 5 (.mv (ki 0))] [kp [0,1,
 5] []]) (.block 0 Vl)) (.seq (.reg [od 4 (.mv (ki 0))] [kp [4] []]) .ret))))
theorem q0X (h:∀ K:St->Prop,K=run P Γ Vl Q->run P Γ q5X (Aw K Q) s):run P Γ Vl Q s:=Ah h
def q5Z:List RV:=[.tmp 4]
end
end Go.Lg
namespace Go.Lg
open Go Go.Proofs
theorem qB9:Ba Tryz.prog 20 q5Y 33 2 q5Z=true:=by kernel_rfl
end Go.Lg
namespace Go.Lg
open Go Go.Proofs
variable {Γ:Tables}
theorem qNv.refl (s:Stt):qNv (·=·) s s:=⟨⟨rfl,fun _ _=>rfl⟩,rfl,fun _ _=>⟨rfl,fun _ _=>rfl⟩,rfl,fun _ _=>⟨rfl,fun _ _=>⟨rfl,fun _ _=>rfl⟩⟩⟩
def qPm (c:Bi) (l:List (Sl Int)):Prop:=∀ x∈l,x.l.length=(Bd c).length/\∀ v∈x.l,V4 v
theorem qPm.seq {c:Bi} {l:List (Sl Int)} (h:qPm c l):qPl c (l.map (·.l)):=fun i hi=>by
 obtain⟨x,hx,rfl⟩:=xqy.1 hi
 exact h x hx
theorem qHD {Q:AX->St->Prop} (l:List Int) (hl:l.length<=1000000) (c1 c2:Option Nat) (n1 n2:Option Bool)
  (h0:Q (.exit 0) ⟨[(0,.t (.sl (Af l) c1 n1)),(1,.t (.sl (Af l) c2 n2)),(5,.t (tI l.length)),(21,.t (tB false))],[]⟩) :
  ∀ (k i:Nat),k+i=l.length->run Tryz.prog Γ Vl Q ⟨[(0,.t (.sl (Af l) c1 n1)),(1,.t (.sl (Af l) c2 n2)),(5,.t (tI i))],[]⟩
 | 0,i,h=>by
  refine q0X fun K hK=>?_
  have h2:i=l.length:=by omega
  subst h2
  simp[A6]
  simpa using h0
 | k+1,i,h=>by
  refine q0X fun K hK=>?_
  have h2:i<l.length:=by omega
  have e1:=gE (f:=tI) 0 h2
  have e1':=gE' (f:=tI) 0 h2
  rw[Be h2]at e1 e1'
  generalize l[i]=x at *
  have ih:=qHD l hl c1 c2 n1 n2 h0 k (i+1) (by omega)
  have h3:(i:Int)<l.length:=by omega
  have w1:=Nl (i:=i) (by omega)
  simp[A6,A9,h2,h3,e1,e1',w1]
  rw[hK]
  simpa using ih
theorem q1j (l:List Int) (hl:l.length<=1000000) (c2:Option Nat) (n1 n2:Option Bool) :
  A8 Tryz.prog Γ 20 [.sl (Af l) (some l.length) n1,.sl (Af l) c2 n2] (tI 0):=by
 refine Ae qB9 rfl ?_
 have g:=fun Q h0=>qHD (Γ:=Γ) (Q:=Q) l hl (some l.length) c2 n1 n2 h0 l.length 0 (by omega)
 simp at g
 simp[q5Y,A6]
 refine g _ ?_
 simp[q5Z]
theorem qKB:Az Tryz.prog Γ 52 [] (.agg (tC Wp)):=by
 refine Bz q7R rfl ?_
 simp[q1h,q1i,tC,Wp,Aa,Ad,Ag,As,Bc,Au,Dl,tS,sV,Em]
theorem qHE:NOk Wp:=by
 refine⟨qQW,qPV,rfl,by decide +kernel,by decide,by decide,fun i hi=>?_⟩
 have:i=0\/i=1\/i=2\/i=3\/i=4\/i=5:=by simp[Wp]at hi;omega
 rcases this with rfl|rfl|rfl|rfl|rfl|rfl<;>simp[Aj,Wp]
theorem qNw:qHs Wp:=by
 refine⟨by simp[Wp],by simp[Wp],by simp[Wp],by simp[Wp],by simp[Wp],by simp[Wp],rfl,fun x hx=>?_,Rj (by simp)⟩
 simp[Wp]at hx
 rcases hx with rfl|rfl|rfl|rfl|rfl|rfl
 ·exact qAd
 ·exact Rj (by simp)
 ·exact Rj (by simp)
 ·exact Rj (by simp)
 ·exact Rj (by simp)
 ·exact Rj (by simp)
def p8 (a b:Int):Pat:=⟨⟨[a],some 1,none⟩,⟨[b],none,none⟩⟩
theorem exN (a b:Int) (ha:V4 a) (hb:V4 b):POk Wp (p8 a b):=⟨by rw[show(Bd Wp).length=1 by decide +kernel];rfl,by rw[show(B8 Wp).length=1 by decide +kernel];rfl,fun v hv=>by simp[p8]at hv;subst hv;exact ha,fun v hv=>by simp[p8]at hv;subst hv;exact hb⟩
theorem qKC (l:List Int) (s:List UInt8) (hl:l.length<=1000) (hv:∀ v∈l,0<=v) (h:qGi l=s):A8 Tryz.prog Γ 53 [.sl (Ar l) (some 6) none] (.v (.string ⟨s.toArray⟩)):=by
 have:=qHr (Γ:=Γ) ⟨l,some 6,none⟩ (by show l.length<=_;omega) hv
 rw[h]at this
 exact this
theorem qNx (a b:UInt8) (x y:Int) (ha:a=48\/a=49) (hb:b=48\/b=49) (hx:W6 a=x) (hy:W6 b=y):A8 Tryz.prog Γ 54 [.v (.string ⟨#[a,b]⟩)] (.tup [.sl (Ar [x,y]) none none,tI 0]):=by
 have:=qFy (Γ:=Γ) [a,b] (by simp) (fun q hq=>by
  simp only[xqv,xz2,or_false]at hq
  rcases hq with rfl|rfl
  ·rcases ha with rfl|rfl<;>simp
  ·rcases hb with rfl|rfl<;>simp)
 simp only[xqm,xq3,hx,hy]at this
 exact this
theorem ap8 (hΓ:GOk Γ) {p0:Pat} (h0:POk Wp p0) (a b:Int) (ha:V4 a) (hb:V4 b) (N0 N1 d:List Int) (e ev:Int) (h1:nP Wp p0=N0) (h2:nP Wp (p8 a b)=N1) (h3:Ii 6 N0 N1=d) (h4:q0p Wp N0 N1=e) :
  Bm Tryz.prog Γ 12 (hS (I3 Wp) 6 N0 ev) [.lp 1000000 0 0,.ag [.t (.sl [[tK a]] (some 1) none),.t (.sl [[tK b]] none none)]] (.t (.tup [.sl (Af d) (some d.length) none,tI 0])) (hS (I3 Wp) 6 N1 e):=by
 refine Bm.arg2 (x:=.agg (tP (p8 a b))) rfl ?_
 have:=qHB (Γ:=Γ) hΓ qHE h0 (exN a b ha hb) ev
 rw[show Wp.nodes.l.length=6 from rfl,h1,h2,h3,h4]at this
 exact this
theorem q7S (hΓ:GOk Γ):Az Tryz.prog Γ 16 [] (tB true):=by
 refine Bz q9G rfl ?_
 have enew:=qMI (Γ:=Γ) hΓ qHE qNw
 have n0:nP Wp (Ig Wp)=[2,2,2,2,2,2]:=by decide +kernel
 rw[n0]at enew
 have h6:Wp.nodes.l.length=6:=rfl
 rw[h6]at enew
 have et:=qKC (Γ:=Γ) [2,2,2,2,2,2] [88,88,88,88,88,88] (by decide) (by decide) (by decide +kernel)
 have ev0:=q7Q (Γ:=Γ) (I3 Wp) 6 [2,2,2,2,2,2] 0
 have vv:=qAz (Γ:=Γ) (I3 Wp) 6 [2,2,2,2,2,2] 0 (by omega) rfl (by omega)
 simp only[qFx]at ev0
 have hix:List.idxOf 1634 [1031,1634]=1:=rfl
 simp[q4M]
 refine Aq qKB rfl ?_
 simp
 refine⟨_,_,enew,?_⟩
 simp[Bg]
 refine A4 ev0 (by simp[Ai,Ak];exact C4 (l:=[2,2,2,2,2,2])) ?_
 simp
 refine⟨[1031,1634],by simp,.t (.sl (Ar [2,2,2,2,2,2]) (some 6) none),hS (I3 Wp) 6 [2,2,2,2,2,2] 0,by simpa[hS,Bg,hix]using vv,by simp[X5,B9.sh,hS,Bg],?_⟩
 simp[hS,Bg,hix]
 refine A4 et (by simp[Ai]) ?_
 simp[sV]
 have q1:=qNx (Γ:=Γ) 48 49 0 1 (by simp) (by simp) rfl rfl
 have q2:=qNx (Γ:=Γ) 49 49 1 1 (by simp) (by simp) rfl rfl
 have q3:=qNx (Γ:=Γ) 49 48 1 0 (by simp) (by simp) rfl rfl
 have a0:=ap8 (Γ:=Γ) hΓ (q4e (c:=Wp)) 0 1 (by simp[V4]) (by simp[V4]) [2,2,2,2,2,2] [0,1,1,1,3,3] [0,1,2,3,4,5] 4 0 n0 (by decide +kernel) (by decide +kernel) (by decide +kernel)
 have i0:=q1j (Γ:=Γ) [0,1,2,3,4,5] (by decide) (some 6) none (some false)
 have v0:=q7Q (Γ:=Γ) (I3 Wp) 6 [0,1,1,1,3,3] 4
 simp only[qFx]at v0
 refine H9 fun K0 hK0=>?_
 simp[E5]
 refine A4 q1 rfl ?_
 simp[Au,E5]
 refine⟨[1031,1634],by simp,.t (.tup [.sl (Af [0,1,2,3,4,5]) (some 6) none,tI 0]),hS (I3 Wp) 6 [0,1,1,1,3,3] 4,by simpa[hS,Bg,hix,Au]using a0,by simp[X5,B9.sh,hS,Bg,A6],?_⟩
 simp[hS,Bg,hix,E5]
 refine A4 i0 rfl ?_
 simp[E5]
 refine A4 v0 (by simp[Ai,Ak];exact C4 (l:=[0,1,1,1,3,3])) ?_
 simp[E5,A7]
 rw[hK0]
 have a1:=ap8 (Γ:=Γ) hΓ (exN 0 1 (by simp[V4]) (by simp[V4])) 1 1 (by simp[V4]) (by simp[V4]) [0,1,1,1,3,3] [1,1,0,0,0,0] [0,2,3,4,5] 4 4 (by decide +kernel) (by decide +kernel) (by decide +kernel) (by decide +kernel)
 have i1:=q1j (Γ:=Γ) [0,2,3,4,5] (by decide) (some 5) none (some false)
 have v1:=q7Q (Γ:=Γ) (I3 Wp) 6 [1,1,0,0,0,0] 4
 simp only[qFx]at v1
 refine H9 fun K1 hK1=>?_
 simp[E5]
 refine A4 q2 rfl ?_
 simp[Au,E5]
 refine⟨[1031,1634],by simp,.t (.tup [.sl (Af [0,2,3,4,5]) (some 5) none,tI 0]),hS (I3 Wp) 6 [1,1,0,0,0,0] 4,by simpa[hS,Bg,hix,Au]using a1,by simp[X5,B9.sh,hS,Bg,A6],?_⟩
 simp[hS,Bg,hix,E5]
 refine A4 i1 rfl ?_
 simp[E5]
 refine A4 v1 (by simp[Ai,Ak];exact C4 (l:=[1,1,0,0,0,0])) ?_
 simp[E5,A7]
 rw[hK1]
 have a2:=ap8 (Γ:=Γ) hΓ (exN 1 1 (by simp[V4]) (by simp[V4])) 1 0 (by simp[V4]) (by simp[V4]) [1,1,0,0,0,0] [1,0,0,0,0,0] [1] 1 4 (by decide +kernel) (by decide +kernel) (by decide +kernel) (by decide +kernel)
 have i2:=q1j (Γ:=Γ) [1] (by decide) (some 1) none (some false)
 have v2:=q7Q (Γ:=Γ) (I3 Wp) 6 [1,0,0,0,0,0] 1
 simp only[qFx]at v2
 refine H9 fun K2 hK2=>?_
 simp[E5]
 refine A4 q3 rfl ?_
 simp[Au,E5]
 refine⟨[1031,1634],by simp,.t (.tup [.sl (Af [1]) (some 1) none,tI 0]),hS (I3 Wp) 6 [1,0,0,0,0,0] 1,by simpa[hS,Bg,hix,Au]using a2,by simp[X5,B9.sh,hS,Bg,A6],?_⟩
 simp[hS,Bg,hix,E5]
 refine A4 i2 rfl ?_
 simp[E5]
 refine A4 v2 (by simp[Ai,Ak];exact C4 (l:=[1,0,0,0,0,0])) ?_
 simp[E5,A7]
 rw[hK2]
 have a3:=ap8 (Γ:=Γ) hΓ (exN 1 0 (by simp[V4]) (by simp[V4])) 1 0 (by simp[V4]) (by simp[V4]) [1,0,0,0,0,0] [1,0,0,0,0,0] [] 0 1 (by decide +kernel) (by decide +kernel) (by decide +kernel) (by decide +kernel)
 have i3:=q1j (Γ:=Γ) [] (by decide) (some 0) none (some true)
 have v3:=q7Q (Γ:=Γ) (I3 Wp) 6 [1,0,0,0,0,0] 0
 simp only[qFx]at v3
 refine H9 fun K3 hK3=>?_
 simp[E5]
 refine A4 q3 rfl ?_
 simp[Au,E5]
 refine⟨[1031,1634],by simp,.t (.tup [.sl (Af []) (some 0) none,tI 0]),hS (I3 Wp) 6 [1,0,0,0,0,0] 0,by simpa[hS,Bg,hix,Au]using a3,by simp[X5,B9.sh,hS,Bg,A6],?_⟩
 simp[hS,Bg,hix,E5]
 refine A4 i3 rfl ?_
 simp[E5]
 refine A4 v3 (by simp[Ai,Ak];exact C4 (l:=[1,0,0,0,0,0])) ?_
 simp[E5,A7]
 rw[hK3]
 have p9:Bm Tryz.prog Γ 12 (hS (I3 Wp) 6 [1,0,0,0,0,0] 0) [.lp 1000000 0 0,.ag [.t (.sl [[tK 1]] (some 1) (some false)),.t (.sl [] (some 0) (some true))]] (.t (.tup [.sl [] (some 0) (some true),tI 8])) (hS (I3 Wp) 6 [1,0,0,0,0,0] 0):=by
  refine Bm.arg2 (x:=.agg (tP ⟨⟨[1],some 1,some false⟩,⟨[],some 0,some true⟩⟩)) rfl ?_
  refine qI6 (I3 Wp) 6 [1,0,0,0,0,0] 0 ⟨⟨[1],some 1,some false⟩,⟨[],some 0,some true⟩⟩ (by simp) 8 ?_ (by simp)
  unfold Zv
  rw[if_pos]
  right
  show ¬ ([]:List Int).length=(B8 Wp).length
  rw[show(B8 Wp).length=1 by decide +kernel]
  simp
 have v9:=qAz (Γ:=Γ) (I3 Wp) 6 [1,0,0,0,0,0] 0 (by omega) rfl (by omega)
 have t9:=qKC (Γ:=Γ) [1,0,0,0,0,0] [49,48,48,48,48,48] (by decide) (by decide) (by decide +kernel)
 refine H9 fun K9 hK9=>?_
 simp[E5]
 refine⟨[1031,1634],by simp,.t (.tup [.sl [] (some 0) (some true),tI 8]),hS (I3 Wp) 6 [1,0,0,0,0,0] 0,by simpa[hS,Bg,hix,Au]using p9,by simp[X5,B9.sh,hS,Bg,A6],?_⟩
 simp[hS,Bg,hix]
 refine⟨[1031,1634],by simp,.t (.sl (Ar [1,0,0,0,0,0]) (some 6) none),hS (I3 Wp) 6 [1,0,0,0,0,0] 0,by simpa[hS,Bg,hix]using v9,by simp[X5,B9.sh,hS,Bg,A6],?_⟩
 simp[hS,Bg,hix]
 refine A4 t9 (by simp[Ai]) ?_
 simp[q4N,Ai]
def qBV (q:Sl PD):T:=.sl (Bc tPD q.l) q.cap q.nl
theorem qKD {n:Nat}:rng (n+1)=rng n++[(n:Int)]:=by simp[rng,List.range_succ]
theorem qFz {n:Nat} {A B:List Int}:Ii (n+1) A B=Ii n A B++if B.getD n 0≠A.getD n 0 then[(n:Int)] else[]:=by
 unfold Ii
 rw[qKD,List.filter_append]
 congr 1
 by_cases h:B.getD n 0=A.getD n 0
 ·simp[h]
 ·simp[h]
def cB (c:Bi):B9:=.bx [.t (Aa c.nodes),.t (Ad c.names),.t (Ag c.mems),.t (As c.outs)]
theorem qKE {Q:AX->St->Prop} (A B:List Int) (hAB:A.length=B.length) (hn:B.length<=1000) (q1 q9 q11:T) (c1 c2:Option Nat) (t1 t2 t3 t4 u1 u2:T) (D:Ci) (m:Nat) (ev:Int) (es:List (List T))
  (h0:Q (.exit 2) ⟨[(1,.t q1),(5,.lp 5 0 0),(6,.lp 1031 0 0),(8,.t (.sl (Ar A) c1 none)),(9,.t q9),(11,.t q11),(13,.lp 13 0 0),(14,.t (.sl (Ar B) c2 none)),(16,.ls 109 0 (Ii B.length A B).length none),(17,.t (tI B.length)),(94,.t (tB false))],[(5,.bx [.t t1,.t t2,.t t3,.t t4]),(13,.bx [.t u1,.t u2]),(109,.sl 3 1 (Af (Ii B.length A B))),(1031,.bx (Bg D 1634 m ev)),(1634,.sl 65 1 es)]⟩) :
  ∀ (k i:Nat),k+i=B.length ->
  run Tryz.prog Γ I4 Q ⟨[(1,.t q1),(5,.lp 5 0 0),(6,.lp 1031 0 0),(8,.t (.sl (Ar A) c1 none)),(9,.t q9),(11,.t q11),(13,.lp 13 0 0),(14,.t (.sl (Ar B) c2 none)),(16,.ls 109 0 (Ii i A B).length none),(17,.t (tI i))],[(5,.bx [.t t1,.t t2,.t t3,.t t4]),(13,.bx [.t u1,.t u2]),(109,.sl 3 1 (Af (Ii i A B))),(1031,.bx (Bg D 1634 m ev)),(1634,.sl 65 1 es)]⟩
 | 0,i,h=>by
  refine Pg fun K hK=>?_
  have h2:i=B.length:=by omega
  subst h2
  have:¬ ((B.length:Int)<B.length):=by omega
  simp[Bg]at h0
  simp[A6,Bg]
  simpa using h0
 | k+1,i,h=>by
  refine Pg fun K hK=>?_
  have h2:i<B.length:=by omega
  have h3:i<A.length:=by omega
  have e:=gE (f:=tK) 0 h2
  have e':=gE' (f:=tK) 0 h2
  have q:=gE (f:=tK) 0 h3
  have q':=gE' (f:=tK) 0 h3
  have ih:=qKE A B hAB hn q1 q9 q11 c1 c2 t1 t2 t3 t4 u1 u2 D m ev es h0 k (i+1) (by omega)
  rw[qFz]at ih
  have w1:=Nl (i:=i) (by omega)
  have hdl:(Ii i A B).length<=i:=by
   unfold Ii
   refine Nat.le_trans (List.length_filter_le _ _) ?_
   rw[Hv];exact xzo _
  generalize Ii i A B=acc at *
  generalize A.getD i 0=a at *
  generalize B.getD i 0=b at *
  by_cases hab:b=a
  ·subst hab
   simp[Bg]at ih
   simp[Bg,A6,A9,h2,h3,e,e',q,q',w1]
   rw[hK]
   simpa using ih
  ·have hE:Af acc++[[tI (i:Int)]]=Af (acc++[(i:Int)]):=E0
   simp[hab,Bg]at ih
   simp[Bg,A6,A9,h2,h3,e,e',q,q',w1,hab,hE]
   refine⟨by omega,?_⟩
   rw[hK]
   simpa using ih
theorem qG0 {Γ:Tables} (l:List Int) (c1 c2:Option Nat) (n1 n2:Option Bool) (hl:l.length<=1000000000):A8 Tryz.prog Γ 19 [.sl (Ar l) c1 n1,.sl (Ar l) c2 n2] (tI 0):=by
 have:=qCC (Γ:=Γ) ⟨l,c1,n1⟩ ⟨l,c2,n2⟩ (by show l.length<=_;omega)
 have e:q8n l l=0:=by unfold q8n;rw[if_pos rfl]
 simpa[tV,e]using this
theorem qIB {c:Bi} {N:List Int}:O3 (Ri c) N=O3 c N/\Do (Ri c) N=Do c N:=by
 refine⟨rfl,?_⟩
 have hs:∀ (l:List Nd) (i:Nat),N8 [14] (l.map q2P) i=N8 [14] l i:=by
  intro l
  induction l with
  | nil=>intro i;rfl
  | cons x l ih =>
   intro i
   simp only[xqm,N8,ih]
   rfl
 have hi:∀ i,D4 (Ri c) i=D4 c i:=fun i=>by
  unfold D4
  show((c.nodes.l.map q2P).getD i Nd.d).inn.l=_
  by_cases h:i<c.nodes.l.length
  ·simp[xqe,h,q2P,cpS]
  ·simp[xqe,h]
 unfold Do B8
 rw[show(Ri c).nodes.l=c.nodes.l.map q2P from rfl,hs]
 refine xq1 fun n _=>?_
 unfold qAQ
 rw[hi]
set_option maxHeartbeats 2000000 in
theorem qKF {Q:AX->St->Prop} (hΓ:GOk Γ) {c:Bi} (hc:NOk c) (hk:qHs c) (q:Sl PD) (hq:∀ p∈q.l,qEF p) (hql:q.l.length<=12)
  (h0:∀ N cp ev,Q (.exit 0) ⟨[(1,.t (qBV q)),(5,.lp 5 0 0),(6,.lp 1031 0 0),(8,.t (.sl (Ar N) cp none)),(9,.t (tI q.l.length)),(49,.t (tB false))],[(5,cB c),(1031,.bx (Bg (I3 c) 1634 c.nodes.l.length ev)),(1634,.sl 65 1 (Ar N))]⟩) :
  ∀ (k i:Nat) (p0:Pat) (N:List Int) (cp:Option Nat) (ev:Int),k+i=q.l.length->POk c p0->N=nP c p0 ->
  run Tryz.prog Γ I5 Q ⟨[(1,.t (qBV q)),(5,.lp 5 0 0),(6,.lp 1031 0 0),(8,.t (.sl (Ar N) cp none)),(9,.t (tI i))],[(5,cB c),(1031,.bx (Bg (I3 c) 1634 c.nodes.l.length ev)),(1634,.sl 65 1 (Ar N))]⟩
 | 0,i,p0,N,cp,ev,h,_,_=>by
  refine Ph fun K hK=>?_
  have h2:i=q.l.length:=by omega
  subst h2
  have h0:=h0 N cp ev
  simp[Bg,qBV,cB]at h0
  simp[Bg,qBV,cB,Ab]
  simpa using h0
 | k+1,i,p0,N,cp,ev,h,hp0,hN=>by
  refine Ph fun K hK=>?_
  have h2:i<q.l.length:=by omega
  have ih:=fun p N cp ev=>qKF hΓ hc hk q hq hql h0 k (i+1) p N cp ev (by omega)
  have hqi:=hq _ (xqj h2)
  have e:∀ h,(Bc tPD q.l)[i]'h=tPD q.l[i]:=fun h=>by simp[Bc]
  generalize q.l[i]=qi at *
  have hpo:=qHx (Γ:=Γ) qi hqi c hc.ok
  have hP:=qJK hqi c
  have hpE:H6 qi c=⟨⟨qL4 qi c,none,none⟩,⟨qL5 qi c,none,none⟩⟩:=rfl
  have hap:=qHB (Γ:=Γ) hΓ hc hp0 hP ev
  have hrun:=qNW hΓ hc hP
  have hnP:Br c (H6 qi c).inn.l (H6 qi c).st.l=nP c (H6 qi c):=rfl
  rw[hnP]at hrun
  rw[<- hN]at hap
  have hn1:=hc.n1
  have hn2:=hc.n2
  have hlN:N.length=c.nodes.l.length:=by rw[hN];exact q74
  have hlM:(nP c (H6 qi c)).length=c.nodes.l.length:=q74
  have hval:=qEk (Γ:=Γ) hc (p:=H6 qi c) (q0p c N (nP c (H6 qi c)))
  have hrs:=qFq (Γ:=Γ) (I3 c) c.nodes.l.length (nP c (H6 qi c)) (q0p c N (nP c (H6 qi c))) (qEj (q3v hc.ok hc.lev)).ok (by omega) hlM
  have hcr:=qIB (c:=c) (N:=nP c (H6 qi c))
  have hsd:(I3 c).c=Ri c:=rfl
  rw[hsd,hcr.1,hcr.2]at hrs
  have s1:=fun c1 c2 n1 n2=>qG0 (Γ:=Γ) (nP c (H6 qi c)) c1 c2 n1 n2 (by omega)
  have s2:=fun c1 c2 n1 n2=>qG0 (Γ:=Γ) (O3 c (nP c (H6 qi c))) c1 c2 n1 n2 (by unfold O3;rw[xq4];exact hc.ok.outs)
  have s3:=fun c1 c2 n1 n2=>qG0 (Γ:=Γ) (Do c (nP c (H6 qi c))) c1 c2 n1 n2 (by unfold Do;rw[xq4];have:=F3 c;omega)
  have hdl:(Ii c.nodes.l.length N (nP c (H6 qi c))).length<=1000000:=by
   unfold Ii
   refine Nat.le_trans (List.length_filter_le _ _) ?_
   rw[Hv];omega
  have hin:=q1j (Γ:=Γ) (Ii c.nodes.l.length N (nP c (H6 qi c))) hdl none none none
  have hl1:=fun Q q1 q9 q11 c1 c2 t1 t2 t3 t4 u1 u2 g0=>qKE (Γ:=Γ) (Q:=Q) N (nP c (H6 qi c)) (by omega) (by omega) q1 q9 q11 c1 c2 t1 t2 t3 t4 u1 u2 (I3 c) c.nodes.l.length (q0p c N (nP c (H6 qi c))) (Ar (nP c (H6 qi c))) g0 (nP c (H6 qi c)).length 0 (by omega)
  rw[hlM]at hl1
  have ih:=ih (H6 qi c) (nP c (H6 qi c)) (some c.nodes.l.length) (q0p c N (nP c (H6 qi c))) hP rfl
  have hd0:Ii 0 N (nP c (H6 qi c))=[]:=rfl
  rw[hd0]at hl1
  generalize O3 c (nP c (H6 qi c))=O at *
  generalize Do c (nP c (H6 qi c))=X at *
  generalize q0p c N (nP c (H6 qi c))=EV at *
  generalize Ii c.nodes.l.length N (nP c (H6 qi c))=DL at *
  generalize nP c (H6 qi c)=M at *
  have hix:List.idxOf 1634 [1031,1634]=1:=rfl
  have w1:=Nl (i:=i) (by omega)
  rw[hpE]at hpo hap hrun
  simp[tC,Aa,Ad,Ag,As,tP,tV,tVs,tPD]at hpo hrun
  simp[tP,tV]at hap
  generalize I3 c=D at *
  have hwid:Em 2 (Bc tPD q.l):=q0y fun _=>rfl
  simp[hS,Bg,Aa,Ad,Ag,As]at hap hval hrs
  simp[Bg,qBV,cB,Aa,Ad,Ag,As]at ih
  simp[Bg,Aa,Ad,Ag,As]at hl1
  simp[Bg,qBV,cB,Ab,h2,e,tPD,tV,Aa,Ad,Ag,As,hwid]
  refine A4 hpo (by simp[Ai,Ak]) ?_
  simp
  refine⟨[1031,1634],by simp,.t (.tup [.sl (Af DL) (some DL.length) none,tI 0]),hS D c.nodes.l.length M EV,by simpa[hS,Bg,Aa,Ad,Ag,As,hix]using Bm.arg2 (a:=.ag [.t (.sl (Ar (qL4 qi c)) none none),.t (.sl (Ar (qL5 qi c)) none none)]) rfl hap,by simp[X5,B9.sh,hS,Bg,A6,hlN,hlM],?_⟩
  simp[hS,Bg,Aa,Ad,Ag,As,hix]
  refine Aq hrun (by simp[toT,Ak]) ?_
  simp[A6,hlN,hlM]
  refine⟨[1031,1634],by simp,.t (.sl (Ar M) (some c.nodes.l.length) none),hS D c.nodes.l.length M EV,by simpa[hS,Bg,Aa,Ad,Ag,As,hix]using hval,by simp[X5,B9.sh,hS,Bg,A6,hlN,hlM],?_⟩
  simp[hS,Bg,Aa,Ad,Ag,As,hix]
  refine A4 (s1 _ _ _ _) rfl ?_
  simp
  refine hl1 _ _ _ _ _ _ _ _ _ _ _ _ ?_
  have htk:(Af DL).take DL.length=Af DL:=by rw[<- A6 (f:=tI) (l:=DL)];exact xzn
  simp
  refine⟨[1031,1634],by simp,.ag [.t (tVs O),.t (tVs X)],(2,.bx [.t (tVs O),.t (tVs X)])::hS D c.nodes.l.length M EV,by simpa[hS,Bg,Aa,Ad,Ag,As,hix]using hrs,by simp[X5,B9.sh,hS,Bg,A6,hlN,hlM],?_⟩
  simp[hS,Bg,Aa,Ad,Ag,As,hix,tVs]
  refine A4 hin (by simp[Ai,htk]) ?_
  simp
  refine A4 (s2 _ _ _ _) rfl ?_
  simp
  refine A4 (s3 _ _ _ _) rfl ?_
  have w0:IntKind.i64.wrap 0=0:=by decide
  simp[w0,w1]
  rw[hK]
  simpa using ih
set_option maxHeartbeats 2000000 in
theorem qKJ (hΓ:GOk Γ) (x:CD) (hx:q4l x) (q:Sl PD) (hq:∀ p∈q.l,qEF p):Az Tryz.prog Γ 5 [.agg (P7 x),qBV q] (tB true):=by
 refine Bz q38 rfl ?_
 by_cases h12:12<q.l.length
 ·have h12':(12:Int)<q.l.length:=by omega
  simp[Nv,P7,qBV,Ab,h12']
  refine Aq (q7S hΓ) rfl ?_
  simp[Nw,Ai]
 have hx':=qJI hx
 have hc:=qNV hx' rfl
 have hk:=qNu hx' rfl
 have hof:=qKy (Γ:=Γ) (qJH x) hx'
 generalize Po (qJH x)=c at *
 have enew:=qMI (Γ:=Γ) hΓ hc hk
 have hn1:=hc.n1
 have hn2:=hc.n2
 have hil:=Js c
 have hsl:=F3 c
 have ebl:=qAi (Γ:=Γ) c hc.ok (by omega) (by omega)
 have href:=qDI (Γ:=Γ) hc (q4e (c:=c))
 have v0:=qEk (Γ:=Γ) hc (p:=Ig c) 0
 have hN0:(nP c (Ig c)).length=c.nodes.l.length:=q74
 have hnP:Br c (Ig c).inn.l (Ig c).st.l=nP c (Ig c):=rfl
 rw[hnP]at href
 have sameT:∀ (l:List Int) (c1 c2:Option Nat) (n1 n2:Option Bool),l.length<=1000000000->A8 Tryz.prog Γ 19 [.sl (Ar l) c1 n1,.sl (Ar l) c2 n2] (tI 0):=fun l c1 c2 n1 n2 hl=>by
  have:=qCC (Γ:=Γ) ⟨l,c1,n1⟩ ⟨l,c2,n2⟩ (by show l.length<=_;omega)
  have e:q8n l l=0:=by unfold q8n;rw[if_pos rfl]
  simpa[tV,e]using this
 obtain⟨N0,hNE⟩:∃ N0,N0=nP c (Ig c):=⟨_,rfl⟩
 rw[<- hNE]at href v0 hN0 enew
 have s0:=fun c1 c2 n1 n2=>sameT N0 c1 c2 n1 n2 (by omega)
 simp[tC,Aa,Ad,Ag,As,tP,tV,tVs,Ig]at href ebl enew
 have hix:List.idxOf 1634 [1031,1634]=1:=rfl
 have h12':¬ (12:Int)<q.l.length:=by omega
 simp[Nv,P7,qBV,Ab,h12']
 refine Aq hof rfl ?_
 simp[tC,Aa,Ad,Ag,As]
 refine⟨_,_,Bm.arg1 rfl enew,?_⟩
 simp[Bg]
 refine Aq ebl (by simp[toT,Ak]) ?_
 simp
 refine Aq href (by simp[toT,Ak]) ?_
 simp
 refine⟨[1031,1634],by simp,.t (.sl (Ar N0) (some c.nodes.l.length) none),hS (I3 c) c.nodes.l.length N0 0,by simpa[hS,Bg,hix]using v0,by simp[X5,B9.sh,hS,Bg],?_⟩
 simp[hS,Bg,hix]
 refine A4 (s0 _ _ _ _) rfl ?_
 simp
 have hloop:=fun Q h0=>qKF (Γ:=Γ) (Q:=Q) hΓ hc hk q hq (by omega) h0 q.l.length 0 (Ig c) N0 none 0 (by omega) q4e hNE
 generalize I3 c=D at *
 simp[qBV,cB,Bg,Aa,Ad,Ag,As]at hloop
 simp[Aa,Ad,Ag,As]
 refine hloop _ fun N cp ev=>?_
 simp
 refine Aq (q7S hΓ) rfl ?_
 simp[Nw,Ai]
end Go.Lg
