/- events: eval evaluates a node: its walk. Conditions: none. -/
import Derived.Test.YtafhjckfgmcphaaGreatDoorPkE
import Derived.Test.YtafhjckfgmcphaaGreatDoorPkC
import Derived.Laws.IdiomRangeMap
import Derived.Shelf.Sort.Plain
import Derived.Shelf.Slices.In.SortNone
import Derived.Test.YtafhjckfgmcphaaGreatDoorPkD
import Derived.Test.YtafhjckfgmcphaaGreatDoorProg
import Derived.KernelRfl
set_option linter.unusedSimpArgs false
set_option linter.unusedVariables false
set_option maxRecDepth 100000
namespace Go.Lg
open Go Go.Proofs
variable {Γ:Tables}
theorem qHU {rs:List Nat} {hp':List (Nat×Aw)} {i:Nat} (h:A0 hp' (1000000+rs.idxOf i)≠none):N3 rs hp' i=some i:=by
 unfold N3
 rw[if_neg]
 cases hl:A0 hp' (1000000+rs.idxOf i) with
 | none=>exact absurd hl h
 | some r=>simp
theorem q5X {J ν ν':Nat->Nat} {D:C5} {n:Nat} {W':WS} {c:Nat} (hc1:800000<=c) (hc2:c<=900000) (h:JOk J ν) (hν':NuC c ν') {i:Nat} (hi:i<5):N3 (O1 J ν) (hW D n W' ν') (J i)=some (J i):=by
 refine qHU ?_
 rw[qDO h hi]
 obtain⟨k0,k1,k2,k3,k4⟩:=S1 (D:=D) (n:=n) (W:=W') (kJ hν')
 rw[q7x]
 have:i=0\/i=1\/i=2\/i=3\/i=4:=by omega
 rcases this with rfl|rfl|rfl|rfl|rfl
 ·rw[k0];simp
 ·rw[k1];simp
 ·rw[k2];simp
 ·rw[k3];simp
 ·rw[k4];simp
theorem qFx {rs:List Nat} {hp':List (Nat×Aw)} {i:Nat} (h:i∉rs):N3 rs hp' i=some i:=by
 unfold N3
 rw[if_neg]
 simp[h]
theorem W9 {c:Nat} (hc1:800000<=c) (hc2:c<=900000) {P:Program} {f:FuncId} {J ν ν':Nat->Nat} {D:C5} {n base:Nat} {W W':WS} {hp:List (Nat×Aw)} {E:List (Nat×AV)} {args:List AV} {lst:List Nat->List AV} {res:T} {K:AV->St->Prop} (h:JOk J ν) (hν:q5R ν) (hw:WOk n W) (hw':WOk n W') (hν':NuC c ν') (hk:Kp D2 W ν' W') (hl:∀ t,t∈O1 J ν->A0 hp t=A0 (hG J D n W ν) t)
  (hf:∀ u,u<1000->A0 hp (base+(c+u))=none) (hb:base+c<=999000) (hnb:∀ u v,u<1000->v<1000->ν u≠base+(c+v)) (hJb:∀ i v,i<5->v<1000->J i≠base+(c+v))
  (hs:Bf P Γ f (hW D n W D2) args (.t res) (hW D n W' ν')) (has:lst (O1 J ν)=args) (hE:E.map (fun p=>(p.1,A8 (N3 (O1 J ν) (hW D n W' ν')) p.2))=E)
  (hK:∀ Bh,(∀ t,(t∈O1 J ν\/(∃ u,u<1000/\t=base+(c+u)))->A0 Bh t=A0 (hG J D n W' (D6 ν ν' base)) t)->(∀ t,¬ (t∈O1 J ν\/∃ u,u<1000/\t=base+(c+u))->A0 Bh t=(A0 hp t).map (Au (N3 (O1 J ν) (hW D n W' ν'))))->K (.t res) ⟨E,Bh⟩) :
  ∃ rs,rs.Nodup/\Wg P Γ ⟨E,hp⟩ f rs base (Bv rs hp) (lst rs) K ⟨⟩:=by
 refine⟨O1 J ν,qCK h,.t res,hW D n W' ν',?_,qFw hc1 hc2 h hν hw hw' hν' hk hl hf hb,?_⟩
 ·rw[has]
  exact hs.alike fun t=>qET h hν hw.wl hl t
 ·have hB:=qEU (E:=E) hc1 hc2 h hν hw hw' hν' hk hl hf hnb hJb
  have:=hK (Ea (O1 J ν) base (hW D n W' ν') ⟨E,hp⟩).hp (fun t ht=>(hB t).1 ht) (fun t ht=>(hB t).2 ht)
  have e:Ea (O1 J ν) base (hW D n W' ν') ⟨E,hp⟩=⟨E,(Ea (O1 J ν) base (hW D n W' ν') ⟨E,hp⟩).hp⟩:=by
   show(⟨E.map (fun p=>(p.1,A8 (N3 (O1 J ν) (hW D n W' ν')) p.2)),_⟩:St)=_
   rw[hE];rfl
  rw[e]
  exact this
theorem qFy {ν:Nat->Nat} {W:WS} {K:Nat} (hν:q5R ν) (hw:U7 W.wl) (hK:K<800000):List.map (fun p:Nat×Aw=>(p.1,Bd K p.2)) (List.filter (fun p=>p.1 != K) (Ug ν W))=Ug ν W:=by
 have hne:∀ p∈Ug ν W,p.1≠K/\Bd K p.2=p.2:=fun p hp=>by
  obtain⟨u,l,hu,_,rfl⟩:=q6a hw hp
  have:=hν.rg u hu
  exact⟨by simp only;omega,rfl⟩
 rw[List.filter_eq_self.2 fun p hp=>by simpa using(hne p hp).1]
 conv=>rhs;rw[<- List.map_id (Ug ν W)]
 refine xq1 fun p hp=>?_
 rw[(hne p hp).2];rfl
theorem qFz {ν:Nat->Nat} {wl:List (Nat×List Int)} {K:Nat} (hν:q5R ν) (hw:U7 wl) (hK:K<800000):List.map (fun e:Value×AV=>(e.1,Ae K e.2)) (Eo ν wl)=Eo ν wl:=by
 simp only[Eo,xq5]
 refine xq1 fun p hp=>?_
 have:=hν.rg p.1 (by have:=hw.lt p hp;omega)
 simp only[Function.comp]
 rw[Kq (by omega)]
theorem kJk:JOk (fun i=>1000000+i) D2:=kJ q0c
theorem qHV {J ν:Nat->Nat} {D:C5} {n:Nat} {W:WS} {K t:Nat} (h:JOk J ν) (hw:U7 W.wl) (hK:∀ i,i<5->J i≠K) (hK2:∀ u,u<1000->ν u≠K):(A0 (hG J D n W ν) t).map (Bd K)=A0 (hG J D n W ν) t:=by
 have hJ:=fun i hi=>hK i hi
 have e9:Ae K (.ls (ν 999) 0 W.ch.length none)=.ls (ν 999) 0 W.ch.length none:=Kq (hK2 999 (by omega))
 have e0:Bd K (.bx [.lp (J 1) 0 0,.lm (J 4),.ls (J 3) 0 n none,.ls (ν 999) 0 W.ch.length none])=.bx [.lp (J 1) 0 0,.lm (J 4),.ls (J 3) 0 n none,.ls (ν 999) 0 W.ch.length none]:=by
  simp only[Vy,xqm,xq3,e9,Yd (hK 1 (by omega)),Ye (hK 4 (by omega)),Kq (hK 3 (by omega))]
 have e1:Bd K (.bx (Ax D (J 2) n W.ev))=.bx (Ax D (J 2) n W.ev):=by
  simp only[Vy,Ax,xqm,xq3,q4h,Kq (hK 2 (by omega))]
 have e4:Bd K (.mr (Eo ν W.wl))=.mr (Eo ν W.wl):=by
  simp only[q6Z,Eo,xq5]
  congr 1
  refine xq1 fun p hp=>?_
  simp only[Function.comp]
  rw[Kq (hK2 p.1 (by have:=hw.lt p hp;omega))]
 have e5:∀ l:List (Nat×Aw),(∀ p∈l,Bd K p.2=p.2)->(A0 l t).map (Bd K)=A0 l t:=by
  intro l
  induction l with
  | nil=>intro _;rfl
  | cons p l ih =>
   intro h
   simp only[A0]
   split
   ·simp only[xql];rw[h p xqh]
   ·exact ih fun q hq=>h q (xqf _ hq)
 refine e5 _ fun p hp=>?_
 unfold hG at hp
 rcases xqv.1 hp with rfl|hp
 ·exact e0
 rcases xqv.1 hp with rfl|hp
 ·exact e1
 rcases xqv.1 hp with rfl|hp
 ·rfl
 rcases xqv.1 hp with rfl|hp
 ·rfl
 rcases xqv.1 hp with rfl|hp
 ·exact e4
 obtain⟨u,l,_,_,rfl⟩:=q6a hw hp
 rfl
theorem qJY {ν':Nat->Nat} {W W':WS} (h:Nu9 ν') (hk:Kp D2 W ν' W'):Nu9 (D6 D2 ν' 0)/\Kp D2 W (D6 D2 ν' 0) W':=by
 have e:∀ u,D6 D2 ν' 0 u=ν' u:=fun u=>by
  unfold D6
  split
  ·rename_i e;rw[e];rfl
  ·omega
 have:D6 D2 ν' 0=ν':=funext e
 rw[this];exact⟨h,hk⟩
def Lm (D:C5) (W:WS) (x:Int):WS:=Gv D { W with ev:=W.ev+1 } x (Ih (nd D.c x).k (F5 W.nets (nd D.c x).inn.l))
theorem q4i {D:C5} {n:Nat} (hD:q36 D n) {W:WS} (hw:WOk n W) {x v:Int} (hx:0<=x/\x<n):WOk n (Gv D W x v):=by
 unfold Gv
 split
 ·exact hw
 ·have key:∀ (l:List Int) (W:WS),WOk n W->(∀ k∈l,0<=k/\k<n)->WOk n (l.foldl (Ff D) W):=by
   intro l
   induction l with
   | nil=>exact fun W h _=>h
   | cons k l ih =>
    intro W h hk
    refine ih _ ?_ fun q hq=>hk q (xqf _ hq)
    unfold Ff
    split
    ·exact h
    ·rename_i hq
     have hkn:=hk k xqh
     have hkl:k.toNat<D.lev.l.length:=by rw[hD.ln];omega
     refine h.enq (by omega) (by simpa using hq) ?_
     have:=hD.lv _ (xqj hkl)
     unfold Zw
     rw[Bn hkl];omega
  have hxr:x.toNat<D.rdr.l.length:=by rw[hD.rn];omega
  refine key _ _ ⟨by simpa using hw.nl,hw.ql,hw.wl,hw.wn⟩ ?_
  have:D.rdr.l.getD x.toNat Sl.z=D.rdr.l[x.toNat]:=by simp[xqe,hxr]
  rw[this]
  exact(hD.rr _ (xqj hxr)).2
theorem qIE {Q:AX->St->Prop} (D:C5) (n:Nat) (hn:n<=1000000) (W:WS) (hw:WOk n W) (x:Int) (inn:Sl Int) (hi:inn.l.length<=1000000) (hin:∀ k∈inn.l,0<=k/\k<n) (ν:Nat->Nat) (hν:q5R ν) (R:List Int)
  (h0:Q (.exit 0) ⟨[(0,.lp 1000000 0 0),(1,.t (tI x)),(4,.ls 46 0 inn.l.length none),(28,.t (B8 inn)),(29,.t (tI inn.l.length)),(30,.t (tI inn.l.length)),(31,.t (tB false))],(46,.sl 65 1 (B7 R))::hW D n W ν⟩) :
  ∀ (j i:Nat) (out:List Int),j+i=inn.l.length->out.length=i->out++F5 W.nets (inn.l.drop i)=R ->
  run Tryz.prog Γ Hw Q ⟨[(0,.lp 1000000 0 0),(1,.t (tI x)),(4,.ls 46 0 i none),(28,.t (B8 inn)),(29,.t (tI inn.l.length)),(30,.t (tI i))],(46,.sl 65 1 (B7 out))::hW D n W ν⟩
 | 0,i,out,h,ho,hR=>by
  refine P1 fun K hK=>?_
  have h2:i=inn.l.length:=by omega
  subst h2
  rw[xzs]at hR
  simp only[F5,xq3,List.append_nil]at hR
  subst hR
  simp[hW,Ax,B8]at h0
  simp[hW,Ax,B8]
  simpa using h0
 | j+1,i,out,h,ho,hR=>by
  refine P1 fun K hK=>?_
  have h2:i<inn.l.length:=by omega
  rw[xqq h2]at hR
  have e:=gE (f:=tI) 0 h2
  have e':=gE' (f:=tI) 0 h2
  have hq:=hin _ (xqj h2)
  rw[Bn h2]at e e'
  generalize inn.l[i]=k at *
  have hkn:k.toNat<n:=by omega
  have hkl:k.toNat<W.nets.length:=by rw[hw.nl];exact hkn
  have ek:=gE (f:=tK) 0 hkl
  have ek':=gE' (f:=tK) 0 hkl
  have hva:F5 W.nets (k::inn.l.drop (i+1))=W.nets.getD k.toNat 0::F5 W.nets (inn.l.drop (i+1)):=rfl
  rw[hva]at hR
  generalize W.nets.getD k.toNat 0=v at *
  have ih:=qIE D n hn W hw x inn hi hin ν hν R h0 j (i+1) (out++[v]) (by omega) (by simp[ho]) (by rw[<- hR];simp)
  have vs:B7 out++[[tK v]]=B7 (out++[v]):=W8
  have vt:(B7 out).take i=B7 out:=by rw[<- ho];exact E5
  have w1:=Jm (i:=i) (by omega)
  simp[hW,Ax,B8]at ih
  have f9:¬ ν 999=46:=by have:=hν.rg 999 (by omega);omega
  have k1:=qFy (W:=W) (K:=46) hν hw.wl (by omega)
  have k2:=qFz (K:=46) hν hw.wl (by omega)
  have l46:A0 (Ug ν W) 46=none:=Dj hw.wl fun u hu e=>by have:=hν.rg u hu;omega
  simp[-Bd,-Ae,-kill1,Yd,Ye,Kq,Xk,q4h,q3q,Vy,q0b,q6Z,hW,Ax,B8,h2,A5,Aa,e,e',ek,ek',hq,hw.nl,hkn,w1,vs,vt,ho,f9,k1,k2,l46]
  refine⟨by omega,?_⟩
  rw[hK]
  simpa[ho]using ih
theorem qJZ (hΓ:GOk Γ) (D:C5) (n:Nat) (hD:q36 D n) (hn:n<=1000000) (H:ROk D.c) (hcn:D.c.nodes.l.length=n) (W:WS) (hw:WOk n W) (hv:∀ v∈W.nets,V4 v) (hc:W.ch.length<=1000000) (hev:0<=W.ev/\W.ev<=1000000) (x:Int) (hx:0<=x/\x<n) :
  ∃ ν',Nu9 ν'/\Kp D2 W ν' (Lm D W x)/\Bf Tryz.prog Γ 47 (hW D n W D2) [.lp 1000000 0 0,.t (tI x)] (.t (.tup [])) (hW D n (Lm D W x) ν'):=by
 have key:∃ res hp',Bf Tryz.prog Γ 47 (hW D n W D2) [.lp 1000000 0 0,.t (tI x)] res hp'/\(res=.t (.tup [])/\∃ ν',Nu9 ν'/\Kp D2 W ν' (Lm D W x)/\hp'=hWX D n (Lm D W x) ν'):=by
  refine q47 q28 rfl ?_
  have hx0:=hx.1
  have hx1:x<D.c.nodes.l.length:=by rw[hcn];exact hx.2
  have hget:=q5Q hx0 hx1
  have hget':=q9u hx0 hx1
  have hmem:=qC9 hx0 hx1
  have hxi:=H.inn _ hmem
  have hkk:=H.ok.kind _ hmem
  have hw1:WOk n { W with ev:=W.ev+1 }:=⟨hw.nl,hw.ql,hw.wl,hw.wn⟩
  have hlR:(F5 W.nets (nd D.c x).inn.l).length=(nd D.c x).inn.l.length:=by simp[F5]
  have hvR:∀ v∈F5 W.nets (nd D.c x).inn.l,V4 v:=fun v hv'=>by
   obtain⟨q,hq,rfl⟩:=xqy.1 hv'
   exact q1e hv _
  have hevl:=q99 hΓ (nd D.c x).k hkk (F5 W.nets (nd D.c x).inn.l) none none (by rw[hlR];omega) hvR
  have hdef:Lm D W x=Gv D { W with ev:=W.ev+1 } x (Ih (nd D.c x).k (F5 W.nets (nd D.c x).inn.l)):=rfl
  obtain⟨ν',hν',hk',hs⟩:=qCJ (Γ:=Γ) D n hD hn { W with ev:=W.ev+1 } hw1 hc x (Ih (nd D.c x).k (F5 W.nets (nd D.c x).inn.l)) hx D2 q0c
  have hw2:=q4i (v:=Ih (nd D.c x).k (F5 W.nets (nd D.c x).inn.l)) hD hw1 hx
  rw[<- hdef]at hk' hs hw2
  have hl:=fun Q h0=>qIE (Γ:=Γ) (Q:=Q) D n hn { W with ev:=W.ev+1 } hw1 x (nd D.c x).inn (by omega) (by rw[<- hcn];exact hxi.2) D2 q0c.ok (F5 W.nets (nd D.c x).inn.l) h0 (nd D.c x).inn.l.length 0 [] (by omega) rfl (by simp)
  generalize Ih (nd D.c x).k (F5 W.nets (nd D.c x).inn.l)=EV at *
  generalize Lm D W x=RW at *
  generalize F5 W.nets (nd D.c x).inn.l=VA at *
  generalize hX:nd D.c x=X at *
  have hx2:x.toNat<D.c.nodes.l.length:=by omega
  have wev:IntKind.i64.wrap (W.ev+1)=W.ev+1:=by rw[A6]<;>omega
  have htk:(B7 VA).take X.inn.l.length=B7 VA:=by rw[<- hlR];exact E5
  have l46:A0 (Ug D2 W) 46=none:=Dj hw.wl fun u hu e=>by unfold D2 at e;omega
  have hlc:Ug D2 { W with ev:=W.ev+1 }=Ug D2 W:=rfl
  simp[hW,Ax,B8,A9,Pn,hlc]at hl
  simp[Vd,hW,Ax,B8,A9,Ab,A5,Bj,hx0,hx1,hx2,hget,hget',E3,wev,l46]
  refine hl _ ?_
  simp[hx0,hx1,hx2,hget,hget',E3,Ab,Bj]
  refine A4 hevl (by simp[Aj,htk]) ?_
  simp[-Bv,-A8,-Qh,-Au]
  have gJ:=fun i hi=>q5X (J:=fun i=>1000000+i) (ν:=D2) (ν':=ν') (D:=D) (n:=n) (W':=RW) (c:=900000) (by omega) (by omega) kJk hν' (i:=i) hi
  have g0:=gJ 0 (by omega)
  have g1:=gJ 1 (by omega)
  have n46:46∉O1 (fun i=>1000000+i) D2:=fun hm=>by
   rcases Eu.1 hm with⟨i,hi,e⟩|⟨u,hu,e⟩
   ·omega
   ·unfold D2 at e;omega
  have g46:=qFx (hp':=hW D n RW ν') n46
  have fJ0:=q9K (J:=fun i=>1000000+i) (ν:=D2) kJk (i:=0) (by omega)
  simp only[xzp,Nat.reduceAdd]at g0 g1 fJ0
  have hlk:∀ t,t≠46->A0 ((46,Aw.sl 65 1 (B7 VA))::hW D n { W with ev:=W.ev+1 } D2) t=A0 (hG (fun i=>1000000+i) D n { W with ev:=W.ev+1 } D2) t:=fun t ht=>by
   simp only[A0];rw[if_neg (fun e=>ht e.symm)];rfl
  refine W9 (base:=0) (c:=900000) (by omega) (by omega) (J:=fun i=>1000000+i) (ν:=D2) (ν':=ν') (D:=D) (n:=n) (W:={ W with ev:=W.ev+1 }) (W':=RW) kJk q0c.ok hw1 hw2 hν' hk' (fun t ht=>?_) (fun u hu=>?_) (by omega) (fun u v hu hv e=>by unfold D2 at e;omega) (fun i v hi hv e=>by omega) hs ?_ ?_ fun Bh hB1 hB2=>?_
  ·have:=hlk t (fun e=>n46 (e ▸ ht))
   exact this
  ·have h1:=hlk (0+(900000+u)) (by omega)
   have h2:A0 (hG (fun i=>1000000+i) D n { W with ev:=W.ev+1 } D2) (0+(900000+u))=none:=Df (t:=0+(900000+u)) (J:=fun i=>1000000+i) (ν:=D2) (W:={ W with ev:=W.ev+1 }) hw.wl (fun i hi e=>by omega) fun v hv e=>by unfold D2 at e;omega
   rw[h2]at h1
   exact h1
  ·simp[-Qh,A8,ren1,ren0,fJ0]
  ·simp[-N3,A8,ren1,ren0,g0,g1,g46]
  ·simp
   obtain⟨b1,b2⟩:=qJY hν' hk'
   have hJ9:JOk (fun i=>1000000+i) (D6 D2 ν' 0):=kJ b1
   refine⟨⟨[],hW D n RW (D6 D2 ν' 0)⟩,?_,?_⟩
   ·refine Imp.trans (Imp.gh (.drop [46]) ⟨[],Bh⟩) ?_
    show Imp Γ (St.kill 46 ⟨[],Bh⟩) _
    refine Imp.like (fun t a h=>by simp[A0]at h) fun t=>?_
    refine Eq.trans ?_ (Lp (st:=⟨[],Bh⟩) 46 t).symm
    have hno:∀ t,¬ (t∈O1 (fun i=>1000000+i) D2\/(∃ u,u<1000/\t=0+(900000+u)))->A0 (hG (fun i=>1000000+i) D n RW (D6 D2 ν' 0)) t=none:=fun t ht=>by
     refine Df hw2.wl (fun i hi e=>ht (.inl (Eu.2 (.inl ⟨i,hi,e⟩)))) fun u hu e=>?_
     rcases b1 u hu with e2|e2
     ·exact ht (.inl (Eu.2 (.inr ⟨u,hu,by rw[e,e2];rfl⟩)))
     ·exact ht (.inr ⟨u,hu,by omega⟩)
    split
    ·rename_i e
     subst e
     exact hno 46 (by rintro(h|⟨u,_,h⟩);exact n46 h;omega)
    ·rename_i hne
     by_cases ht:(t∈O1 (fun i=>1000000+i) D2\/(∃ u,u<1000/\t=0+(900000+u)))
     ·show _=(A0 Bh t).map (Bd 46)
      rw[hB1 t ht,qHV hJ9 hw2.wl (fun i hi=>by omega) (fun u hu=>by have:=b1 u hu;omega)]
      rfl
     ·show _=(A0 Bh t).map (Bd 46)
      rw[hB2 t ht]
      refine(hno t ht).trans ?_
      have h1:=hlk t hne
      have h2:A0 (hG (fun i=>1000000+i) D n { W with ev:=W.ev+1 } D2) t=none:=Df (J:=fun i=>1000000+i) (ν:=D2) (W:={ W with ev:=W.ev+1 }) hw.wl (fun i hi e=>ht (.inl (Eu.2 (.inl ⟨i,hi,e⟩)))) fun u hu e=>ht (.inl (Eu.2 (.inr ⟨u,hu,e⟩)))
      rw[h2]at h1
      have h3:A0 ((46,Aw.sl 65 1 (B7 VA))::hW D n { W with ev:=W.ev+1 } D2) t=none:=h1
      refine Eq.symm (Eq.trans (congrArg (fun q=>Option.map (Bd 46) (Option.map _ q)) h3) rfl)
   ·simp[Ve]
    exact⟨_,b1,b2,rfl⟩
 obtain⟨res,hp',h,rfl,ν',hν',hk',rfl⟩:=key
 exact⟨ν',hν',hk',h⟩
theorem qEV {ν:Nat->Nat} {u:Nat}:G2 ν u (ν u)=ν:=funext fun v=>by unfold G2;split;rename_i e;rw[e];rfl
theorem qB7 {a b:Nat} {ν:Nat->Nat} {u:Nat} (hni:∀ u v,u<1000->v<1000->ν u=ν v->u=v) (hu:u<1000) (ha:a=ν u):∀ (wl:List (Nat×List Int)),(∀ p∈wl,p.1<999)->Jd a b (wl.map fun p=>(ν p.1,Aw.sl 3 1 (Av p.2)))=wl.map fun p=>(G2 ν u b p.1,Aw.sl 3 1 (Av p.2))
 | [],_=>rfl
 | p::wl,h=>by
  have ih:=qB7 (b:=b) hni hu ha wl fun q hq=>h q (xqf _ hq)
  have hp:=h p xqh
  simp only[xqm,Jd,ih,Au]
  congr 2
  unfold G2
  by_cases e:p.1=u
  ·rw[if_pos (by rw[e,ha]),if_pos e]
  ·rw[if_neg (fun e2=>e (hni p.1 u (by omega) hu (e2.trans ha))),if_neg e]
theorem qG0 {J ν:Nat->Nat} {D:C5} {n u b:Nat} {W:WS} (h:JOk J ν) (hw:U7 W.wl) (hu:u<1000):Jd (ν u) b (hG J D n W ν)=hG J D n W (G2 ν u b):=by
 have hJ:∀ i,i<5->¬ J i=ν u:=fun i hi=>h.jn i u hi hu
 have hJ':∀ i,i<5->¬ ν u=J i:=fun i hi e=>h.jn i u hi hu e.symm
 have hcell:∀ v len,v<1000->A8 (Aq (ν u) b) (.ls (ν v) 0 len none)=.ls (G2 ν u b v) 0 len none:=fun v len hv=>by
  unfold G2
  by_cases e:v=u
  ·subst e;simp[A8,ren1,ren0,Aq]
  ·have:¬ ν v=ν u:=fun e2=>e (h.ni v u hv hu e2)
   simp[A8,ren1,ren0,Aq,this,e]
 have r1:A8 (Aq (ν u) b) (.lp (J 1) 0 0)=.lp (J 1) 0 0:=by simp[A8,ren1,ren0,Aq,hJ]
 have r4:A8 (Aq (ν u) b) (.lm (J 4))=.lm (J 4):=by simp[A8,ren1,ren0,Aq,hJ]
 have r3:A8 (Aq (ν u) b) (.ls (J 3) 0 n none)=.ls (J 3) 0 n none:=by simp[A8,ren1,ren0,Aq,hJ]
 have r2:A8 (Aq (ν u) b) (.ls (J 2) 0 n (some n))=.ls (J 2) 0 n (some n):=by simp[A8,ren1,ren0,Aq,hJ]
 have rt:∀ x,A8 (Aq (ν u) b) (.t x)=.t x:=fun x=>rfl
 have hes:(Eo ν W.wl).map (fun e=>(e.1,A8 (Aq (ν u) b) e.2))=Eo (G2 ν u b) W.wl:=by
  simp only[Eo,xq5]
  refine xq1 fun p hp=>?_
  simp only[Function.comp]
  rw[hcell p.1 _ (by have:=hw.lt p hp;omega)]
 have hls:Jd (ν u) b (Ug ν W)=Ug (G2 ν u b) W:=by
  simp only[Ug,Jd,Au]
  rw[qB7 h.ni hu rfl W.wl hw.lt]
  congr 2
  unfold G2
  by_cases e:999=u
  ·subst e;rw[if_pos rfl,if_pos rfl]
  ·rw[if_neg (fun e2=>e (h.ni 999 u (by omega) hu e2)),if_neg e]
 simp only[hG,Jd,hls,Au,xqm,xq3,r1,r4,r3,hcell 999 _ (by omega),hes,Ax,rt,r2,if_neg (hJ 0 (by omega)),if_neg (hJ 1 (by omega)),if_neg (hJ 2 (by omega)),if_neg (hJ 3 (by omega)),if_neg (hJ 4 (by omega))]
theorem qHW {E:List (Nat×AV)} {J ν:Nat->Nat} {D:C5} {n u b:Nat} {W:WS} (h:JOk J ν) (hν:q5R ν) (hw:U7 W.wl) (hu:u<1000) (ha:ν u<1000000) (hb:b<1000000) (hbJ:∀ i,i<5->b≠J i) (hbN:∀ v,v<1000->b≠ν v) (hE:E.map (fun p=>(p.1,A8 (Aq (ν u) b) p.2))=E) :
  Imp Γ ⟨E,hG J D n W ν⟩ ⟨E,hG J D n W (G2 ν u b)⟩:=by
 have hlb:A0 (hG J D n W ν) b=none:=Df hw hbJ hbN
 cases hc:Ie W u with
 | none =>
  have hu9:¬ u=999:=fun e=>by subst e;simp[Ie]at hc
  simp only[Ie,if_neg hu9]at hc
  have hk:∀ p∈W.wl,G2 ν u b p.1=ν p.1:=fun p hp=>by unfold G2;rw[if_neg (Np hc p hp)]
  have h9:G2 ν u b 999=ν 999:=by unfold G2;rw[if_neg (fun e=>hu9 e.symm)]
  have e1:Eo (G2 ν u b) W.wl=Eo ν W.wl:=xq1 fun p hp=>by rw[hk p hp]
  have e2:Ug (G2 ν u b) W=Ug ν W:=by
   unfold Ug
   rw[h9]
   congr 1
   exact xq1 fun p hp=>by rw[hk p hp]
  have:hG J D n W (G2 ν u b)=hG J D n W ν:=by simp only[hG,e1,e2,h9]
  rw[this];exact Imp.refl _
 | some l =>
  have hla:=S3 (D:=D) (n:=n) h hν hw hu
  rw[hc]at hla
  refine Imp.trans (Imp.gh (.ren (ν u) b) _) ?_
  have:Gh.run (.ren (ν u) b) ⟨E,hG J D n W ν⟩=⟨E,hG J D n W (G2 ν u b)⟩:=by
   simp only[Gh.run,Uw]
   rw[if_pos,hE,qG0 h hw hu]
   simp[hlb,hla,ha,hb]
  rw[this]
  exact Imp.refl _
def q2e (k:Nat) (ν2 ν:Nat->Nat) (u:Nat):Nat:=if u<k then ν2 u else ν u
theorem qG1 {J ν ν2:Nat->Nat} {D:C5} {n:Nat} {W:WS} (hw:U7 W.wl) (h:∀ u,u<1000->ν u=ν2 u):hG J D n W ν=hG J D n W ν2:=by
 have e1:Eo ν W.wl=Eo ν2 W.wl:=xq1 fun p hp=>by rw[h p.1 (by have:=hw.lt p hp;omega)]
 have e2:Ug ν W=Ug ν2 W:=by
  unfold Ug
  rw[h 999 (by omega)]
  congr 1
  exact xq1 fun p hp=>by rw[h p.1 (by have:=hw.lt p hp;omega)]
 simp only[hG,e1,e2,h 999 (by omega)]
theorem qB8 {E:List (Nat×AV)} {J ν ν2:Nat->Nat} {D:C5} {n:Nat} {W:WS} (hw:U7 W.wl) (hJ:∀ i,i<5->(J i<800000\/(1000000<=J i/\J i<1000005))/\∀ j,j<5->J i=J j->i=j)
  (h1:∀ u,u<1000->ν u=1000005+u\/ν u=800000+u\/ν u=900000+u) (h2:∀ u,u<1000->ν2 u=ν u\/(ν u=900000+u/\ν2 u=800000+u)) (hE:∀ u,u<1000->E.map (fun p=>(p.1,A8 (Aq (900000+u) (800000+u)) p.2))=E) :
  Imp Γ ⟨E,hG J D n W ν⟩ ⟨E,hG J D n W ν2⟩:=by
 have key:∀ k,k<=1000->Imp Γ ⟨E,hG J D n W ν⟩ ⟨E,hG J D n W (q2e k ν2 ν)⟩:=by
  intro k
  induction k with
  | zero=>intro _;exact Imp.refl _
  | succ k ih =>
   intro hk
   refine Imp.trans (ih (by omega)) ?_
   have hn:∀ u,u<1000->q2e k ν2 ν u=1000005+u\/q2e k ν2 ν u=800000+u\/q2e k ν2 ν u=900000+u:=fun u hu=>by
    unfold q2e
    split
    ·rcases h2 u hu with e|⟨_,e⟩
     ·rw[e];exact h1 u hu
     ·exact .inr (.inl e)
    ·exact h1 u hu
   have hnk:q5R (q2e k ν2 ν):=⟨fun u v hu hv e=>by have:=hn u hu;have:=hn v hv;omega,fun u hu=>by have:=hn u hu;omega⟩
   have hjk:JOk J (q2e k ν2 ν):=⟨fun i j hi hj e=>(hJ i hi).2 j hj e,hnk.inj,fun i u hi hu e=>by have:=hn u hu;have:=(hJ i hi).1;omega⟩
   have hkk:q2e k ν2 ν k=ν k:=by unfold q2e;rw[if_neg (by omega)]
   have e0:q2e (k+1) ν2 ν=G2 (q2e k ν2 ν) k (ν2 k):=funext fun u=>by
    unfold G2 q2e
    by_cases e:u=k
    ·subst e;rw[if_pos (by omega),if_pos rfl]
    ·rw[if_neg e]
     by_cases hlt:u<k
     ·rw[if_pos hlt,if_pos (by omega)]
     ·rw[if_neg hlt,if_neg (by omega)]
   rw[e0]
   rcases h2 k (by omega)with e|⟨e1,e2⟩
   ·have:G2 (q2e k ν2 ν) k (ν2 k)=q2e k ν2 ν:=by rw[e,<- hkk];exact qEV
    rw[this];exact Imp.refl _
   ·refine qHW hjk hnk hw (by omega) (by rw[hkk,e1];omega) (by rw[e2];omega) (fun i hi=>by have:=(hJ i hi).1;omega) (fun v hv e=>?_) ?_
    ·have:=hn v hv
     by_cases hvk:v=k
     ·subst hvk;omega
     ·omega
    ·rw[hkk,e1,e2]
     exact hE k (by omega)
 have e:hG J D n W (q2e 1000 ν2 ν)=hG J D n W ν2:=qG1 hw fun u hu=>by unfold q2e;rw[if_pos hu]
 rw[<- e]
 exact key 1000 (by omega)
def Qz (D:C5) (W:WS) (l:List Int):WS:=l.foldl (Lm D) W
structure EvB (D:C5) (n m:Nat) (W:WS):Prop where
 ok:WOk n W
 v4:∀ v∈W.nets,V4 v
 ch:W.ch.length+m<=1000000
 e0:0<=W.ev
 e1:W.ev+m<=1000000
theorem q5Y {D:C5} {W:WS} {x v:Int}:(Gv D W x v).ev=W.ev/\((Gv D W x v).nets=W.nets\/(Gv D W x v).nets=W.nets.set x.toNat v)/\(Gv D W x v).ch.length<=W.ch.length+1:=by
 unfold Gv
 split
 ·exact⟨rfl,.inl rfl,by omega⟩
 ·have key:∀ (l:List Int) (W:WS),(l.foldl (Ff D) W).ev=W.ev/\(l.foldl (Ff D) W).nets=W.nets/\(l.foldl (Ff D) W).ch=W.ch:=by
   intro l
   induction l with
   | nil=>exact fun W=>⟨rfl,rfl,rfl⟩
   | cons k l ih =>
    intro W
    have h:=ih (Ff D W k)
    have h2:(Ff D W k).ev=W.ev/\(Ff D W k).nets=W.nets/\(Ff D W k).ch=W.ch:=by unfold Ff;split<;>exact⟨rfl,rfl,rfl⟩
    exact⟨h.1.trans h2.1,h.2.1.trans h2.2.1,h.2.2.trans h2.2.2⟩
  obtain⟨h1,h2,h3⟩:=key (D.rdr.l.getD x.toNat Sl.z).l { W with nets:=W.nets.set x.toNat v,ch:=W.ch++[x] }
  exact⟨h1,.inr h2,by rw[h3];simp⟩
theorem qG2 {D:C5} {W:WS} {x v:Int} (h:∀ u∈W.nets,V4 u) (hv:V4 v):∀ u∈(Gv D W x v).nets,V4 u:=fun u hu=>by
 rcases(q5Y (D:=D) (W:=W) (x:=x) (v:=v)).2.1 with e|e
 ·rw[e]at hu;exact h u hu
 ·rw[e]at hu
  rcases xz9 hu with hu|rfl
  ·exact h u hu
  ·exact hv
theorem EvB.eval {D:C5} {n m:Nat} {W:WS} (hD:q36 D n) (h:EvB D n (m+1) W) {x:Int} (hx:0<=x/\x<n):EvB D n m (Lm D W x):=by
 have hv:V4 (Ih (nd D.c x).k (F5 W.nets (nd D.c x).inn.l)):=q9n fun u hu=>by
  obtain⟨q,_,rfl⟩:=xqy.1 hu
  exact q1e h.v4 _
 have hf:=q5Y (D:=D) (W:={ W with ev:=W.ev+1 }) (x:=x) (v:=Ih (nd D.c x).k (F5 W.nets (nd D.c x).inn.l))
 have h1:=h.ch
 have h2:=h.e0
 have h3:=h.e1
 refine⟨q4i (W:={ W with ev:=W.ev+1 }) hD ⟨h.ok.nl,h.ok.ql,h.ok.wl,h.ok.wn⟩ hx,qG2 (W:={ W with ev:=W.ev+1 }) h.v4 hv,?_,?_,?_⟩
 ·have:=hf.2.2;unfold Lm;simp only at this ⊢;omega
 ·have:=hf.1;unfold Lm;simp only at this ⊢;omega
 ·have:=hf.1;unfold Lm;simp only at this ⊢;omega
theorem qDQ {Q:AX->St->Prop} (hΓ:GOk Γ) (D:C5) (n:Nat) (hD:q36 D n) (hn:n<=1000000) (H:ROk D.c) (hcn:D.c.nodes.l.length=n) (l:Sl Int) (hl:l.l.length<=1000000) (hin:∀ k∈l.l,0<=k/\k<n) (W0:WS) (R:WS)
  (h0:∀ ν,NuC 800000 ν->Kp D2 W0 ν R->Q (.exit 0) ⟨[(1,.fn (47+1000000000) [.lp 1000000 0 0]),(6,.t (B8 l)),(7,.t (tI l.l.length)),(8,.t (tI l.l.length)),(9,.t (tB false))],hW D n R ν⟩) :
  ∀ (j i:Nat) (W:WS) (ν:Nat->Nat),j+i=l.l.length->NuC 800000 ν->Kp D2 W0 ν W->EvB D n j W->Qz D W (l.l.drop i)=R ->
  run Tryz.prog Γ Qe Q ⟨[(1,.fn (47+1000000000) [.lp 1000000 0 0]),(6,.t (B8 l)),(7,.t (tI l.l.length)),(8,.t (tI i))],hW D n W ν⟩
 | 0,i,W,ν,h,hν,hk,hB,hR=>by
  refine Xg fun K hK=>?_
  have h2:i=l.l.length:=by omega
  subst h2
  rw[xzs]at hR
  have hR:W=R:=hR
  subst hR
  have:=h0 ν hν hk
  simp[hW,Ax,B8]at this
  simp[hW,Ax,B8]
  simpa using this
 | j+1,i,W,ν,h,hν,hk,hB,hR=>by
  refine Xg fun K hK=>?_
  have h2:i<l.l.length:=by omega
  rw[xqq h2]at hR
  have e:=gE (f:=tI) 0 h2
  have e':=gE' (f:=tI) 0 h2
  have hq:=hin _ (xqj h2)
  rw[Bn h2]at e e'
  generalize l.l[i]=x at *
  have hR:Qz D (Lm D W x) (l.l.drop (i+1))=R:=hR
  have hB2:=hB.eval hD hq
  obtain⟨ν',hν',hk',hs⟩:=qJZ hΓ D n hD hn H hcn W hB.ok hB.v4 (by have:=hB.ch;omega) ⟨hB.e0,by have:=hB.e1;omega⟩ x hq
  have ih:=fun ν=>qDQ hΓ D n hD hn H hcn l hl hin W0 R h0 j (i+1) (Lm D W x) ν (by omega)
  have hJ8:JOk (fun i=>1000000+i) ν:=kJ hν
  have gJ:=fun i hi=>q5X (J:=fun i=>1000000+i) (ν:=ν) (ν':=ν') (D:=D) (n:=n) (W':=Lm D W x) (c:=900000) (by omega) (by omega) hJ8 hν' (i:=i) hi
  have g0:=gJ 0 (by omega)
  have fJ0:=q9K (J:=fun i=>1000000+i) (ν:=ν) hJ8 (i:=0) (by omega)
  simp only[xzp]at g0 fJ0
  have w1:=Jm (i:=i) (by omega)
  generalize Lm D W x=RW at *
  simp[-Bv,-A8,-Qh,-Au,hW,Ax,B8,h2,A5,Aa,e,e']
  refine W9 (base:=0) (c:=900000) (by omega) (by omega) (J:=fun i=>1000000+i) (ν:=ν) (ν':=ν') (D:=D) (n:=n) (W:=W) (W':=RW) hJ8 hν.ok hB.ok hB2.ok hν' hk' (fun t ht=>rfl) (fun u hu=>?_) (by omega) (fun u v hu hv e=>by have:=hν u hu;omega) (fun i v hi hv e=>by omega) hs ?_ ?_ fun Bh hB1 hB3=>?_
  ·exact Df (t:=0+(900000+u)) (J:=fun i=>1000000+i) (ν:=ν) hB.ok.wl (fun i hi e=>by omega) fun v hv e=>by have:=hν v hv;omega
  ·simp[-Qh,A8,ren1,ren0,fJ0]
  ·simp[-N3,A8,ren1,ren0,g0]
  ·simp
   have hn2:∀ u,u<1000->D6 ν ν' 0 u=1000005+u\/D6 ν ν' 0 u=800000+u\/D6 ν ν' 0 u=900000+u:=fun u hu=>by
    unfold D6
    have:=hν u hu
    have:=hν' u hu
    split<;>omega
   have hν2:NuC 800000 (fun u=>if ν' u=1000005+u then ν u else 800000+u):=fun u hu=>by
    simp only
    have:=hν u hu
    split<;>omega
   have hk2:Kp D2 W0 (fun u=>if ν' u=1000005+u then ν u else 800000+u) RW:=fun u hu e=>by
    simp only at e
    split at e
    ·rename_i e2
     exact⟨rfl,((hk' u hu e2).2).trans (hk u hu e).2⟩
    ·omega
   refine⟨⟨_,hW D n RW (fun u=>if ν' u=1000005+u then ν u else 800000+u)⟩,Imp.trans (Imp.like (fun t a h=>h) fun t=>?_) (qB8 (J:=fun i=>1000000+i) (ν:=D6 ν ν' 0) (ν2:=fun u=>if ν' u=1000005+u then ν u else 800000+u) (D:=D) (n:=n) (W:=RW) hB2.ok.wl (fun i hi=>⟨.inr ⟨by omega,by omega⟩,fun j hj e=>by omega⟩) hn2 (fun u hu=>?_) fun u hu=>?_),?_⟩
   ·by_cases ht:(t∈O1 (fun i=>1000000+i) ν\/(∃ u,u<1000/\t=0+(900000+u)))
    ·exact(hB1 t ht).symm
    ·rw[hB3 t ht]
     have h3:A0 (hG (fun i=>1000000+i) D n W ν) t=none:=Df hB.ok.wl (fun i hi e=>ht (.inl (Eu.2 (.inl ⟨i,hi,e⟩)))) fun u hu e=>ht (.inl (Eu.2 (.inr ⟨u,hu,e⟩)))
     refine Eq.trans ?_ (congrArg (Option.map _) h3).symm
     refine Df hB2.ok.wl (fun i hi e=>ht (.inl (Eu.2 (.inl ⟨i,hi,e⟩)))) fun u hu e=>?_
     unfold D6 at e
     have:=hν' u hu
     split at e
     ·exact ht (.inl (Eu.2 (.inr ⟨u,hu,e⟩)))
     ·exact ht (.inr ⟨u,hu,by omega⟩)
   ·unfold D6
    have:=hν' u hu
    split
    ·exact .inl rfl
    ·exact .inr ⟨by omega,rfl⟩
   ·have:¬ 1000000=900000+u:=by omega
    simp[A8,ren1,ren0,Aq,this]
   ·simp[w1]
    rw[hK]
    have:=ih _ hν2 hk2 hB2 hR
    simpa[hW,Ax,B8]using this
theorem qJa (hΓ:GOk Γ) (D:C5) (n:Nat) (hD:q36 D n) (hn:n<=1000000) (H:ROk D.c) (hcn:D.c.nodes.l.length=n) (l:Sl Int) (hl:l.l.length<=1000000) (hin:∀ k∈l.l,0<=k/\k<n) (W:WS) (hB:EvB D n l.l.length W) :
  ∃ ν',NuC 800000 ν'/\Kp D2 W ν' (Qz D W l.l)/\Bf Tryz.prog Γ 46 (hW D n W D2) [.t (B8 l),.fn (47+1000000000) [.lp 1000000 0 0]] (.t (.tup [])) (hW D n (Qz D W l.l) ν'):=by
 have key:∃ res hp',Bf Tryz.prog Γ 46 (hW D n W D2) [.t (B8 l),.fn (47+1000000000) [.lp 1000000 0 0]] res hp'/\(res=.t (.tup [])/\∃ ν',NuC 800000 ν'/\Kp D2 W ν' (Qz D W l.l)/\hp'=hWX D n (Qz D W l.l) ν'):=by
  refine q47 q6N rfl ?_
  have hl1:=fun Q h0=>qDQ (Γ:=Γ) (Q:=Q) hΓ D n hD hn H hcn l hl hin W (Qz D W l.l) h0 l.l.length 0 W D2 (by omega) (fun u hu=>.inl rfl) (Kp.refl _ _) hB (by rw[xzt])
  generalize Qz D W l.l=RW at *
  simp[hW,Ax,B8]at hl1
  simp[q26,hW,Ax,B8,A5]
  refine hl1 _ fun ν' hν' hk'=>?_
  simp[q27]
  exact⟨ν',hν',hk',rfl⟩
 obtain⟨res,hp',h,rfl,ν',hν',hk',rfl⟩:=key
 exact⟨ν',hν',hk',h⟩
end Go.Lg
namespace Go.Lg
open Go Go.Proofs
section
variable {P:Program} {Γ:Tables} {w0:World} {B:Nat} {κ:D7} {X0:Nat->Prop} {N:Nat} {a:Act} {w:World}
theorem q9L {Q:Exit->Act->World->Prop} {ops:List Oper} (hN:N<=1000000):∀ {ros:List RO} {os rest:List Oper} {st st2:St} {a:Act} {w:World},Ut Γ w0 B κ X0 N st a w->Uu P N ops ros os=true->Kw P Γ ros st st2->(∀ a' w',Ut Γ w0 B κ X0 N st2 a' w'->wpList P ops.toArray Q rest a' w')->wpList P ops.toArray Q (os++rest) a w
 | [],[],rest,st,st2,a,w,hI,hc,hs,hQ=>by
  simp only[Kw]at hs;subst hs
  exact hQ a w hI
 | [],_::_,_,_,_,_,_,_,hc,_,_=>by simp[Uu]at hc
 | _::_,[],_,_,_,_,_,_,hc,_,_=>by simp[Uu]at hc
 | ro::ros,o::os,rest,st,st2,a,w,hI,hc,hs,hQ=>by
  simp only[Uu,xqc]at hc
  obtain⟨st1,h1,h2⟩:=hs
  exact q3O hI hN hc.1 h1 fun a' w' hI'=>q9L hN hI' hc.2 h2 hQ
def Vz (o:Oper) (d:Nat) (f:Op->Bool):Bool:=o.dst==some d&&o.guard.isNone&&f o.op
theorem q0r {Q:Exit->Act->World->Prop} {ops:Array Oper} {o:Oper} {rest:List Oper} {d:Nat} {f:Op->Bool} {v:Value} {w':World} (ho:Vz o d f=true) (hr:(execOp a.eval o).run P w=.ok (.value v) w') (hK:wpList P ops Q rest (a.put (some d) v) w'):wpList P ops Q (o::rest) a w:=by
 simp only[Vz,xqc,Option.isNone_iff_eq_none,xz0]at ho
 have hw:Region.wanted o (yielded ops a.tmps)=true:=by simp[Region.wanted,ho.1.2]
 unfold wpList
 rw[if_pos hw]
 refine .inl ?_
 unfold Oper.wp
 rw[hr]
 show wpList P ops Q rest (a.put o.dst v) w'
 rw[ho.1.1]
 exact hK
def mvB (t:Nat):Op->Bool | .move (.tmp s) | .assign (.tmp s)=>s==t|_=>false
theorem q6b {t:Nat} {o:Oper} (h:mvB t o.op=true):(execOp a.eval o).run P w=.ok (.value (a.tmps.getD t undef)) w:=by
 unfold mvB at h
 split at h<;>simp only[xz0,xqn]at h
 ·rename_i s hs;subst h;simp[execOp,hs,Act.eval]
 ·rename_i s hs;subst h;simp[execOp,hs,Act.eval]
def qEW (t i:Nat):Op->Bool | .extract (.tmp s) j=>s==t&&j==i|_=>false
theorem q7y {t i:Nat} {o:Oper} {xs:Array Value} {y:Value} (h:qEW t i o.op=true) (hx:a.tmps.getD t undef=.tuple xs) (hy:xs[i]? = some y):(execOp a.eval o).run P w=.ok (.value y) w:=by
 unfold qEW at h
 split at h<;>simp only[xqc,xz0,xqn]at h
 rename_i s j hs
 obtain⟨rfl,rfl⟩:=h
 simp[execOp,hs,Act.eval,hx,Instr.extract,hy]
def qHX (t u:Nat):Op->Bool
 | .call c=>(match c.callee,c.args.toList with | .builtin .min,[.tmp x,.tmp y]=>x==t&&y==u|_,_=>false)
 | _=>false
theorem qG3 {t u:Nat} {o:Oper} {k:IntKind} {x y:Int} (h:qHX t u o.op=true) (hx:a.tmps.getD t undef=.int k x) (hy:a.tmps.getD u undef=.int k y):(execOp a.eval o).run P w=.ok (.value (.int k (if y<x then y else x))) w:=by
 unfold qHX at h
 generalize hop:o.op=op at h
 split at h
 case h_2=>cases h
 rename_i c
 split at h
 case h_2=>cases h
 rename_i x' y' h1 h2
 simp only[xqc,xz0]at h
 obtain⟨rfl,rfl⟩:=h
 have ha:c.args.map a.eval=#[.int k x,.int k y]:=by
  apply Array.toList_inj.1
  simp[h2,Act.eval,hx,hy]
 simp[execOp,hop,resolve,h1,invoke,builtin,ha,Builtin.min_,Builtin.min2]
def qDR (t:Nat):Op->Bool | .next (.tmp s) b=>s==t && !b|_=>false
def qHY (t:Nat):Op->Bool | .entry (.tmp s)=>s==t|_=>false
def qJb (P:Program) (t:Nat):Op->Bool | .range ty (.tmp s)=>s==t&&(q1A P ty).isSome|_=>false
theorem qG4 {r g since c0 clock:Nat} {seen:Array Nat} {es:Array MapEntry} {ty:TypeId} (hr:w.heap[r]? = some (.mapIter (some g) since seen c0)) (hg:w.heap[g]? = some (.map es clock)) (hold:∀ x∈es.toList,x.born<since) (hsc:since<=c0) :
  ((_root_.Go.leftOf es seen).size=0/\(Instr.next (.pointer (some ⟨r,0,none⟩)) false ty).run P w=.ok (.tuple #[.bool false]) w) \/
  ∃ e∈(_root_.Go.leftOf es seen).toList,∃ dr,(Instr.next (.pointer (some ⟨r,0,none⟩)) false ty).run P w=.ok (.tuple #[.bool true,e.key,e.val]) { w with drawn:=dr,heap:=w.heap.setIfInBounds r (.mapIter (some g) since (seen.push e.born) clock) }:=by
 have htest:=next_test_false seen es since c0 hold hsc
 have hmem:∀ x∈(_root_.Go.leftOf es seen).toList,x.born<since:=fun x hx=>hold x (_root_.Go.mem_left hx).1
 have e1:(_root_.Go.leftOf es seen).filter (fun x=>decide (x.born<since))=_root_.Go.leftOf es seen:=Array.filter_eq_self.2 (fun x hx=>by simpa using hmem x (by simpa using hx))
 have e2:(_root_.Go.leftOf es seen).filter (fun x=>decide (x.born ≥ since))=#[]:=by
  rw[Array.filter_eq_empty_iff]
  intro x hx
  have:=hmem x (by simpa using hx)
  simp only[ge_iff_le,xqu];omega
 simp only[Instr.next,getObj,Sem.run_bind,Sem.run,hr,hg,Result.andThen,htest,xqn,if_false]
 unfold _root_.Go.leftOf at hmem e1 e2 ⊢
 generalize Array.filter (fun e=>!seen.contains e.born) es=L at *
 simp only[e1,e2,Array.append_empty]
 by_cases h0:L.size=0
 ·left
  have:L=#[]:=Array.eq_empty_of_size_eq_zero h0
  subst this
  refine⟨rfl,?_⟩
  simp[choose,Sem.run,Question.forced]
 ·right
  have hne:L.isEmpty=false:=by simp[Array.isEmpty,h0]
  simp only[hne,xqn,if_false,Array.empty_append,Array.size_map]
  have hch:∃ (j dr:Nat),j<L.size/\(choose (Question.mapNext L.size)).run P w=.ok j { w with drawn:=dr }:=by
   by_cases hf:L.size<=1
   ·exact⟨0,w.drawn,by omega,by simp[choose,Sem.run,Question.forced,hf]⟩
   ·exact⟨_,_,Nat.mod_lt _ (by omega),by
     simp only[choose,Sem.run,Question.forced,xqu,hf,if_false,Question.cut]
     rfl⟩
  obtain⟨j,dr,hj,hrun⟩:=hch
  refine⟨L[j],by simp,dr,?_⟩
  simp only[hrun,Array.getElem?_map,xzw hj,xql,Sem.run_bind,setObj,Sem.run,hr,Result.andThen]
  rfl
theorem qEX {r g since clock:Nat} {seen:Array Nat} {es:Array MapEntry} {e:MapEntry} (hr:w.heap[r]? = some (.mapIter (some g) since (seen.push e.born) clock)) (hg:w.heap[g]? = some (.map es clock)) (he:e∈es.toList) (hn:(es.toList.map (·.born)).Nodup) :
  (Instr.entry (.pointer (some ⟨r,0,none⟩))).run P w=.ok (.tuple #[e.key,e.val]) w:=by
 have hf:es.find? (·.born==e.born)=some e:=by rw[<- Array.find?_toList];exact find_born e es.toList hn he
 simp only[Instr.entry,getObj,Sem.run_bind,Sem.run,hr,hg,Result.andThen,Array.back?_push,bne_self_eq_false,xqn,if_false,hf]
 rfl
end
section
variable {P:Program} {Γ:Tables} {N:Nat}
theorem qLX {f:FuncId} {ic:IC} {n:Nat} {rvs:List RV} {args:List AV} {hp hp':List (Nat×Aw)} {res:AV} (hc:Bc P f ic N n rvs=true) (hn:args.length=n)
  (h:∀ (w:World) (X:Nat->Prop) (κ:D7) (c:Code) (a:Act),N<=1000000->P.follows .mixedOrders=true->Rk P N ic c=true->(P.funcs[f]?).bind (·.body)=some c->Ut Γ w w.heap.size κ X N ⟨q6A 0 args,hp⟩ a w->∀ Qw:Exit->Act->World->Prop,
   (∀ rest d2 s' a' w',Rk P N rest d2=true->Ut Γ w w.heap.size κ X N s' a' w'->awp P Γ rest (qCt rvs res hp') s'->d2.wp P Qw a' w')->c.wp P Qw a w):Bf P Γ f hp args res hp':=by
 intro w X κ vs hg hk hs hts
 refine .inl ⟨q1M hc _,?_⟩
 unfold Bc at hc
 split at hc
 case h_2=>cases hc
 rename_i fn hf
 simp only[xqc,Bool.not_eq_true',xqu,xz0]at hc
 obtain⟨⟨⟨⟨⟨⟨h1,h2⟩,h3⟩,h4⟩,h5⟩,h6⟩,h7⟩:=hc
 cases hb:fn.body with
 | none=>rw[hb]at h1;cases h1
 | some c =>
  rw[hb]at h1
  subst h3
  refine calls_of_wp hf hb ?_
  have hlen:vs.length<=fn.ntmps:=by rw[<- hts.1,hn];exact h5
  have hI:Ut Γ w w.heap.size κ X fn.ntmps ⟨q6A 0 args,hp⟩ { tmps:=vs.toArray++Array.replicate (fn.ntmps-vs.toArray.size) undef,defers:=[] } w:=by
   refine⟨X,κ,⟨?_,hs.reg,hs.inj,hs.loc,hs.kap,hs.kbig,hs.xlt,rfl,rfl,rfl,xzo _,fun _ _ _=>rfl⟩,hg,fun _ h=>h,fun _ h=>.inl h,?_,rfl⟩
   ·intro t a ht
    obtain⟨_,hu⟩:=q8q ht
    obtain⟨x,h1,h2⟩:=hts.get hu
    simp only[Nat.sub_zero]at h1
    have hlt:t<vs.length:=(xqi.1 h1).1
    have:(vs.toArray++Array.replicate (fn.ntmps-vs.toArray.size) undef).getD t undef=x:=by
     rw[Array.getD_eq_getD_getElem?,Array.getElem?_append_left (by simpa using hlt)]
     simp[h1]
    rw[this];exact h2
   ·simp;omega
  refine h w X κ c _ h4 h7 h1 (by rw[hf];exact hb) hI _ fun rest d2 s' a' w' hr hI' hq=>?_
  refine wp_mono (Dw h4 h7 hr hI' hq) ?_
  rintro e a w' ⟨x,s,rfl,⟨X',μ',hsim,hg',h0,hbd,hsz,hds⟩,hq⟩
  have fin:∀ c,q5A s rvs=some (c,res)->c->s.hp=hp'->a.defers=[]/\∃ v,(results fn a.tmps).run P w'=.ok v w'/\∃ u,Ending.returned v=.returned u /\
    ∃ X' μ',Sim w w.heap.size κ X' μ' ⟨[],hp'⟩ #[] w'/\AR w' X' μ' (St.sh ⟨[],hp'⟩) res u/\(∀ b,X b->X' b)/\(∀ b,X' b->X b\/w.heap.size<=b\/∃ id n,κ id=some (b,n)):=by
   intro c hr hcc hh
   obtain⟨v,h8,h9⟩:=qCu hsim h6 hr hcc
   subst hh
   exact⟨hds,v,h8,v,rfl,X',μ',⟨fun t a ht=>by simp[A0]at ht,hsim.reg,hsim.inj,hsim.loc,hsim.kap,hsim.kbig,hsim.xlt,hsim.os,hsim.tape,hsim.output,hsim.size,hsim.fr⟩,h9,h0,hbd⟩
  cases x with
  | normal=>obtain⟨c,hr,hcc,hh⟩:=hq;exact fin c hr hcc hh
  | ret=>obtain⟨c,hr,hcc,hh⟩:=hq;exact fin c hr hcc hh
  | exit i=>exact hq.elim
end
def J9 (n:Nat) (wl:List (Nat×List Int)):Nat:=wl.foldl (fun m p=>min m p.1) n
theorem q4j:∀ {wl:List (Nat×List Int)} {n:Nat},J9 n wl<=n/\∀ p∈wl,J9 n wl<=p.1
 | [],n=>⟨xzo _,fun p hp=>by cases hp⟩
 | q::wl,n=>by
  obtain⟨h1,h2⟩:=q4j (wl:=wl) (n:=min n q.1)
  refine⟨Nat.le_trans h1 (Nat.min_le_left _ _),fun p hp=>?_⟩
  rcases xqv.1 hp with rfl|hp
  ·exact Nat.le_trans h1 (Nat.min_le_right _ _)
  ·exact h2 p hp
theorem q9z:∀ {wl:List (Nat×List Int)} {n:Nat},J9 n wl=n\/∃ p∈wl,J9 n wl=p.1
 | [],n=>.inl rfl
 | q::wl,n=>by
  rcases q9z (wl:=wl) (n:=min n q.1)with h|⟨p,hp,h⟩
  ·have:J9 n (q::wl)=min n q.1:=h
   rw[this]
   rcases Nat.le_total n q.1 with h2|h2
   ·exact .inl (Nat.min_eq_left h2)
   ·exact .inr ⟨q,xqh,Nat.min_eq_right h2⟩
  ·exact .inr ⟨p,xqf _ hp,h⟩
abbrev q9M:IC:=.reg [od 2 (.mv (ki 0))] [.keepE [0]]
abbrev q9N:IC:=.reg [om 5 0,od 6 (.nck (tm 5)),od 7 (fa 0 6),od 8 (ld 1 7),od 9 (.nck (tm 8)),od 10 (fa 0 9),od 11 (fa 0 10),od 12 (ld 1 11),od 13 (le 0 12),om 3 13] [.keepE [0,3]]
abbrev q9O:IC:=.reg [om 26 3,om 2 26] [.keepE [2]]
abbrev qEY:IC:=.seq q9M (.seq q9N (.seq .dead (.seq q9O .ret)))
theorem qCL:Bc Tryz.prog 45 qEY 27 1 [.tmp 2]=true:=by kernel_rfl
abbrev qJc:List RO:=[om 14 0,od 15 (.nck (tm 14)),od 16 (fa 1 15),od 17 (ld 1 16)]
def qLY (P:Program) (N:Nat):Code->Bool
 | .seq (.region _ ops2 false) (.block 0 (.loop (.seq (.region _ ops3 false) (.seq (.cond (.tmp 20) .skip (.exit 0)) (.block 1 (.seq (.region _ ops4 false) (.region _ ops5 false))))))) =>
  (match ops2.toList,ops3.toList,ops4.toList,ops5.toList with
  | [a1,a2,a3,a4,a5],[b1,b2],[c1,c2,c3],[d1,d2,d3,d4]=>Uu P N ops2.toList qJc [a1,a2,a3,a4]&&Vz a5 18 (qJb P 17)&&Vz b1 19 (qDR 18)&&Vz b2 20 (qEW 19 0)&&Vz c1 21 (qHY 18)&&Vz c2 22 (qEW 21 0)&&Vz c3 4 (mvB 22) &&
    Vz d1 23 (mvB 3)&&Vz d2 24 (mvB 4)&&Vz d3 25 (qHX 23 24)&&Vz d4 3 (mvB 25)
  | _,_,_,_=>false)
 | _=>false
def qDS (P:Program):Option Code->Bool
 | some (.seq _ (.seq _ (.seq d _)))=>qLY P 27 d
 | _=>false
theorem qB9:qDS Tryz.prog ((Tryz.prog.funcs[(45:Nat)]?).bind (·.body))=true:=by kernel_rfl
section
variable {P:Program} {Γ:Tables} {w0:World} {B:Nat} {κ:D7} {X0:Nat->Prop}
structure qJd (wb:World) (g clock n:Nat) (ms:List MapEntry) (a:Act) (w:World):Prop where
 sz:a.tmps.size=27
 ds:a.defers=[]
 it:a.tmps.getD 18 undef=.pointer (some ⟨wb.heap.size,0,none⟩)
 os:w.os=wb.os
 tape:w.tape=wb.tape
 out:w.output=wb.output
 ex:∃ (seen:Array Nat) (c0:Nat) (m:Nat),a.tmps.getD 3 undef=.int .i64 (m:Int)/\w.heap=wb.heap.push (.mapIter (some g) clock seen c0)/\clock<=c0/\m<=n/\(∀ e∈ms,seen.contains e.born=true->∃ k:Nat,e.key=.int .i64 (k:Int)/\m<=k)/\(m=n\/∃ e∈ms,e.key=.int .i64 (m:Int))
theorem C0 {a:Act} {d k:Nat} {v:Value} (hd:d<a.tmps.size):(a.put (some d) v).tmps.getD k undef=if k=d then v else a.tmps.getD k undef:=by
 show(a.tmps.setIfInBounds d v).getD k undef=_
 by_cases h:k=d
 ·subst h;simp[Array.getD,hd]
 ·rw[if_neg h]
  simp[Array.getD_eq_getD_getElem?,Array.getElem?_setIfInBounds,Ne.symm h]
theorem qBA {e e':MapEntry}:∀ {ms:List MapEntry},(ms.map (·.born)).Nodup->e∈ms->e' ∈ ms->e.born=e'.born->e=e'
 | [],_,h1,_,_=>by cases h1
 | x::ms,hn,h1,h2,hb=>by
  simp only[xqm,xzj]at hn
  rcases xqv.1 h1 with e1|m1<;>rcases xqv.1 h2 with e2|m2
  ·rw[e1,e2]
  ·exact absurd (e1 ▸ hb ▸ xzk m2) hn.1
  ·exact absurd (e2 ▸ hb ▸ xzk m1) hn.1
  ·exact qBA hn.2 m1 m2 hb
theorem qG5 {wb:World} {g clock n:Nat} {ms:List MapEntry} (hg:wb.heap[g]? = some (.map ms.toArray clock)) (hb:q4o ms clock) (hk:∀ e∈ms,∃ k:Nat,e.key=.int .i64 (k:Int)) {id3 id4 id5:Nat} {b1 b2 c1 c2 c3 d1 d2 d3 d4:Oper} {ops3 ops4 ops5:Array Oper}
  (o3:ops3.toList=[b1,b2]) (o4:ops4.toList=[c1,c2,c3]) (o5:ops5.toList=[d1,d2,d3,d4]) (h1:Vz b1 19 (qDR 18)=true) (h2:Vz b2 20 (qEW 19 0)=true) (h3:Vz c1 21 (qHY 18)=true) (h4:Vz c2 22 (qEW 21 0)=true) (h5:Vz c3 4 (mvB 22)=true)
  (h6:Vz d1 23 (mvB 3)=true) (h7:Vz d2 24 (mvB 4)=true) (h8:Vz d3 25 (qHX 23 24)=true) (h9:Vz d4 3 (mvB 25)=true) {Q:Exit->Act->World->Prop} {a:Act} {w:World} (hI:qJd wb g clock n ms a w)
  (hK:∀ a' w' (m:Nat),a'.tmps.size=27->a'.defers=[]->a'.tmps.getD 3 undef=.int .i64 (m:Int)->(∃ it,w'.heap=wb.heap.push it)->w'.os=wb.os->w'.tape=wb.tape->w'.output=wb.output->m<=n->(∀ e∈ms,∃ k:Nat,e.key=.int .i64 (k:Int)/\m<=k)->(m=n\/∃ e∈ms,e.key=.int .i64 (m:Int))->Q (.exit 0) a' w') :
  (Code.loop (.seq (.region id3 ops3 false) (.seq (.cond (.tmp 20) .skip (.exit 0)) (.block 1 (.seq (.region id4 ops4 false) (.region id5 ops5 false)))))).wp P Q a w:=by
 have hop:∀ {o:Oper} {d:Nat} {f:Op->Bool},Vz o d f=true->f o.op=true:=fun h=>by simp only[Vz,xqc]at h;exact h.2
 have hlt:g<wb.heap.size:=(Array.getElem?_eq_some_iff.1 hg).1
 refine wp_loop (fun a w=>qJd wb g clock n ms a w) (fun a w=>(_root_.Go.leftOf ms.toArray (w.iterSeen wb.heap.size)).size) hI fun a w hI=>?_
 obtain⟨hsz,hds,hit,hos,htape,hout,seen,c0,m,hm3,hheap,hcc,hmn,hall,hat⟩:=hI
 have hr:w.heap[wb.heap.size]? = some (.mapIter (some g) clock seen c0):=by rw[hheap];simp
 have hgm:w.heap[g]? = some (.map ms.toArray clock):=by
  rw[hheap,xzv hlt]
  rw[xzw hlt]at hg
  exact hg
 have hseen:w.iterSeen wb.heap.size=seen:=by unfold World.iterSeen;rw[hr]
 have hnx:qDR 18 b1.op=true:=hop h1
 have hnext:=fun ty=>qG4 (P:=P) (w:=w) (ty:=ty) hr hgm (fun x hx=>hb.1 x (by simpa using hx)) hcc
 have hrunN:∀ {v:Value} {w':World},(∀ ty,(Instr.next (.pointer (some ⟨wb.heap.size,0,none⟩)) false ty).run P w=.ok v w')->(execOp a.eval b1).run P w=.ok (.value v) w':=fun hv=>by
  unfold qDR at hnx
  split at hnx<;>simp only[xqc,xz0,xqn,Bool.not_eq_true']at hnx
  rename_i s b hs
  obtain⟨rfl,rfl⟩:=hnx
  simp[execOp,hs,Act.eval,hit,hv]
 refine wp_seq (wp_region_list ?_)
 rw[o3]
 rcases hnext 0 with⟨hz,_⟩|⟨e0,he0,dr0,hrun0⟩
 ·have hrun:∀ ty,(Instr.next (.pointer (some ⟨wb.heap.size,0,none⟩)) false ty).run P w=.ok (.tuple #[.bool false]) w:=fun ty=>by
   rcases hnext ty with⟨_,h⟩|⟨e,he,_⟩
   ·exact h
   ·exfalso
    have:(_root_.Go.leftOf ms.toArray seen).toList=[]:=by
     apply xqo
     simpa using hz
    rw[this]at he;cases he
  refine q0r h1 (hrunN hrun) ?_
  have g19:(a.put (some 19) (.tuple #[.bool false])).tmps.getD 19 undef=.tuple #[.bool false]:=by rw[C0 (by omega),if_pos rfl]
  refine q0r h2 (q7y (y:=.bool false) (hop h2) g19 (by rfl)) ?_
  have s1:(a.put (some 19) (.tuple #[.bool false])).tmps.size=27:=by show(a.tmps.setIfInBounds _ _).size=27;simpa using hsz
  have g20:((a.put (some 19) (.tuple #[.bool false])).put (some 20) (.bool false)).tmps.getD 20 undef=.bool false:=by rw[C0 (by omega),if_pos rfl]
  show((Code.seq _ _).wp P _ _ _)
  refine wp_seq (wp_cond_split (t:=false) g20 (fun h=>by cases h) fun _=>wp_exit ?_)
  refine hK _ _ m ?_ hds ?_ ⟨_,hheap⟩ hos htape hout hmn ?_ hat
  ·show((a.tmps.setIfInBounds _ _).setIfInBounds _ _).size=27;simpa using hsz
  ·rw[C0 (by omega),if_neg (by omega),C0 (by omega),if_neg (by omega)];exact hm3
  ·intro e he
   refine hall e he ?_
   cases hc:seen.contains e.born with
   | true=>rfl
   | false =>
    exfalso
    have:e∈_root_.Go.leftOf ms.toArray seen:=Array.mem_filter.2 ⟨by simpa using he,by rw[hc];rfl⟩
    have h0:_root_.Go.leftOf ms.toArray seen=#[]:=Array.eq_empty_of_size_eq_zero hz
    rw[h0]at this;simp at this
 ·have hrun:∀ ty,(Instr.next (.pointer (some ⟨wb.heap.size,0,none⟩)) false ty).run P w=.ok (.tuple #[.bool true,e0.key,e0.val]) { w with drawn:=dr0,heap:=w.heap.setIfInBounds wb.heap.size (.mapIter (some g) clock (seen.push e0.born) clock) }:=fun ty=>hrun0
  obtain⟨hem,hns⟩:=_root_.Go.mem_left he0
  have hem':e0∈ms:=by simpa using hem
  obtain⟨k,hkey⟩:=hk e0 hem'
  have hh2:∀ y:Obj,(wb.heap.push (.mapIter (some g) clock seen c0)).setIfInBounds wb.heap.size y=wb.heap.push y:=fun y=>by
   apply Array.toList_inj.1
   simp
  generalize hw2:({ w with drawn:=dr0,heap:=w.heap.setIfInBounds wb.heap.size (.mapIter (some g) clock (seen.push e0.born) clock) }:World)=w2 at hrun
  have hheap2:w2.heap=wb.heap.push (.mapIter (some g) clock (seen.push e0.born) clock):=by
   rw[<- hw2]
   show w.heap.setIfInBounds _ _=_
   rw[hheap,hh2]
  have hos2:w2.os=wb.os:=by rw[<- hw2];exact hos
  have htape2:w2.tape=wb.tape:=by rw[<- hw2];exact htape
  have hout2:w2.output=wb.output:=by rw[<- hw2];exact hout
  refine q0r h1 (hrunN hrun) ?_
  have s19:(a.put (some 19) (.tuple #[.bool true,e0.key,e0.val])).tmps.size=27:=by show(a.tmps.setIfInBounds _ _).size=27;simpa using hsz
  have g19:(a.put (some 19) (.tuple #[.bool true,e0.key,e0.val])).tmps.getD 19 undef=.tuple #[.bool true,e0.key,e0.val]:=by rw[C0 (by omega),if_pos rfl]
  have g18:(a.put (some 19) (.tuple #[.bool true,e0.key,e0.val])).tmps.getD 18 undef=.pointer (some ⟨wb.heap.size,0,none⟩):=by rw[C0 (by omega),if_neg (by omega)];exact hit
  have g3:(a.put (some 19) (.tuple #[.bool true,e0.key,e0.val])).tmps.getD 3 undef=.int .i64 (m:Int):=by rw[C0 (by omega),if_neg (by omega)];exact hm3
  have d19:(a.put (some 19) (.tuple #[.bool true,e0.key,e0.val])).defers=[]:=hds
  generalize a.put (some 19) (.tuple #[.bool true,e0.key,e0.val])=a1 at *
  refine q0r h2 (q7y (y:=.bool true) (hop h2) g19 (by rfl)) ?_
  have s20:(a1.put (some 20) (.bool true)).tmps.size=27:=by show(a1.tmps.setIfInBounds _ _).size=27;simpa using s19
  have k20:(a1.put (some 20) (.bool true)).tmps.getD 20 undef=.bool true:=by rw[C0 (by omega),if_pos rfl]
  have k18:(a1.put (some 20) (.bool true)).tmps.getD 18 undef=.pointer (some ⟨wb.heap.size,0,none⟩):=by rw[C0 (by omega),if_neg (by omega)];exact g18
  have k3:(a1.put (some 20) (.bool true)).tmps.getD 3 undef=.int .i64 (m:Int):=by rw[C0 (by omega),if_neg (by omega)];exact g3
  have d20:(a1.put (some 20) (.bool true)).defers=[]:=d19
  generalize a1.put (some 20) (.bool true)=a2 at *
  show((Code.seq _ _).wp P _ _ _)
  refine wp_seq (wp_cond_split (t:=true) k20 (fun _=>wp_skip ?_) fun h=>by cases h)
  show((Code.block 1 _).wp P _ _ _)
  refine wp_block (wp_seq (wp_region_list ?_))
  rw[o4]
  have hr2:w2.heap[wb.heap.size]? = some (.mapIter (some g) clock (seen.push e0.born) clock):=by rw[hheap2];simp
  have hgm2:w2.heap[g]? = some (.map ms.toArray clock):=by
   rw[hheap2,xzv hlt]
   rw[xzw hlt]at hg
   exact hg
  have hent:=qEX (P:=P) (w:=w2) hr2 hgm2 hem (by simpa using hb.2)
  have hrunE:(execOp a2.eval c1).run P w2=.ok (.value (.tuple #[e0.key,e0.val])) w2:=by
   have hx:qHY 18 c1.op=true:=hop h3
   unfold qHY at hx
   split at hx<;>simp only[xz0,xqn]at hx
   rename_i s hs
   subst hx
   simp[execOp,hs,Act.eval,k18,hent]
  refine q0r h3 hrunE ?_
  have g21:(a2.put (some 21) (.tuple #[e0.key,e0.val])).tmps.getD 21 undef=.tuple #[e0.key,e0.val]:=by rw[C0 (by omega),if_pos rfl]
  have s21:(a2.put (some 21) (.tuple #[e0.key,e0.val])).tmps.size=27:=by show(a2.tmps.setIfInBounds _ _).size=27;simpa using s20
  have l18:(a2.put (some 21) (.tuple #[e0.key,e0.val])).tmps.getD 18 undef=.pointer (some ⟨wb.heap.size,0,none⟩):=by rw[C0 (by omega),if_neg (by omega)];exact k18
  have l3:(a2.put (some 21) (.tuple #[e0.key,e0.val])).tmps.getD 3 undef=.int .i64 (m:Int):=by rw[C0 (by omega),if_neg (by omega)];exact k3
  have d21:(a2.put (some 21) (.tuple #[e0.key,e0.val])).defers=[]:=d20
  generalize a2.put (some 21) (.tuple #[e0.key,e0.val])=a3 at *
  refine q0r h4 (q7y (y:=.int .i64 (k:Int)) (hop h4) g21 (by simp[hkey])) ?_
  have g22:(a3.put (some 22) (.int .i64 (k:Int))).tmps.getD 22 undef=.int .i64 (k:Int):=by rw[C0 (by omega),if_pos rfl]
  have s22:(a3.put (some 22) (.int .i64 (k:Int))).tmps.size=27:=by show(a3.tmps.setIfInBounds _ _).size=27;simpa using s21
  have m18:(a3.put (some 22) (.int .i64 (k:Int))).tmps.getD 18 undef=.pointer (some ⟨wb.heap.size,0,none⟩):=by rw[C0 (by omega),if_neg (by omega)];exact l18
  have m3:(a3.put (some 22) (.int .i64 (k:Int))).tmps.getD 3 undef=.int .i64 (m:Int):=by rw[C0 (by omega),if_neg (by omega)];exact l3
  have d22:(a3.put (some 22) (.int .i64 (k:Int))).defers=[]:=d21
  generalize a3.put (some 22) (.int .i64 (k:Int))=a4 at *
  refine q0r h5 (q6b (hop h5)) ?_
  rw[g22]
  have g4:(a4.put (some 4) (.int .i64 (k:Int))).tmps.getD 4 undef=.int .i64 (k:Int):=by rw[C0 (by omega),if_pos rfl]
  have s4:(a4.put (some 4) (.int .i64 (k:Int))).tmps.size=27:=by show(a4.tmps.setIfInBounds _ _).size=27;simpa using s22
  have n18:(a4.put (some 4) (.int .i64 (k:Int))).tmps.getD 18 undef=.pointer (some ⟨wb.heap.size,0,none⟩):=by rw[C0 (by omega),if_neg (by omega)];exact m18
  have n3:(a4.put (some 4) (.int .i64 (k:Int))).tmps.getD 3 undef=.int .i64 (m:Int):=by rw[C0 (by omega),if_neg (by omega)];exact m3
  have d4':(a4.put (some 4) (.int .i64 (k:Int))).defers=[]:=d22
  generalize a4.put (some 4) (.int .i64 (k:Int))=a5 at *
  show((Code.region _ _ _).wp P _ _ _)
  refine wp_region_list ?_
  rw[o5]
  refine q0r h6 (q6b (hop h6)) ?_
  rw[n3]
  have g23:(a5.put (some 23) (.int .i64 (m:Int))).tmps.getD 23 undef=.int .i64 (m:Int):=by rw[C0 (by omega),if_pos rfl]
  have s23:(a5.put (some 23) (.int .i64 (m:Int))).tmps.size=27:=by show(a5.tmps.setIfInBounds _ _).size=27;simpa using s4
  have p18:(a5.put (some 23) (.int .i64 (m:Int))).tmps.getD 18 undef=.pointer (some ⟨wb.heap.size,0,none⟩):=by rw[C0 (by omega),if_neg (by omega)];exact n18
  have p4:(a5.put (some 23) (.int .i64 (m:Int))).tmps.getD 4 undef=.int .i64 (k:Int):=by rw[C0 (by omega),if_neg (by omega)];exact g4
  have d23:(a5.put (some 23) (.int .i64 (m:Int))).defers=[]:=d4'
  generalize a5.put (some 23) (.int .i64 (m:Int))=a6 at *
  refine q0r h7 (q6b (hop h7)) ?_
  rw[p4]
  have g24:(a6.put (some 24) (.int .i64 (k:Int))).tmps.getD 24 undef=.int .i64 (k:Int):=by rw[C0 (by omega),if_pos rfl]
  have s24:(a6.put (some 24) (.int .i64 (k:Int))).tmps.size=27:=by show(a6.tmps.setIfInBounds _ _).size=27;simpa using s23
  have q18:(a6.put (some 24) (.int .i64 (k:Int))).tmps.getD 18 undef=.pointer (some ⟨wb.heap.size,0,none⟩):=by rw[C0 (by omega),if_neg (by omega)];exact p18
  have q23:(a6.put (some 24) (.int .i64 (k:Int))).tmps.getD 23 undef=.int .i64 (m:Int):=by rw[C0 (by omega),if_neg (by omega)];exact g23
  have d24:(a6.put (some 24) (.int .i64 (k:Int))).defers=[]:=d23
  generalize a6.put (some 24) (.int .i64 (k:Int))=a7 at *
  refine q0r h8 (qG3 (hop h8) q23 g24) ?_
  have hmin:(if(k:Int)<(m:Int) then(k:Int) else(m:Int))=((min m k:Nat):Int):=by split<;>omega
  rw[hmin]
  have g25:(a7.put (some 25) (.int .i64 ((min m k:Nat):Int))).tmps.getD 25 undef=.int .i64 ((min m k:Nat):Int):=by rw[C0 (by omega),if_pos rfl]
  have s25:(a7.put (some 25) (.int .i64 ((min m k:Nat):Int))).tmps.size=27:=by show(a7.tmps.setIfInBounds _ _).size=27;simpa using s24
  have r18:(a7.put (some 25) (.int .i64 ((min m k:Nat):Int))).tmps.getD 18 undef=.pointer (some ⟨wb.heap.size,0,none⟩):=by rw[C0 (by omega),if_neg (by omega)];exact q18
  have d25:(a7.put (some 25) (.int .i64 ((min m k:Nat):Int))).defers=[]:=d24
  generalize a7.put (some 25) (.int .i64 ((min m k:Nat):Int))=a8 at *
  refine q0r h9 (q6b (hop h9)) ?_
  rw[g25]
  show qJd wb g clock n ms _ w2/\_
  refine⟨⟨?_,d25,?_,hos2,htape2,hout2,seen.push e0.born,clock,min m k,?_,hheap2,xzo _,by omega,fun e he hc=>?_,?_⟩,?_⟩
  ·show(a8.tmps.setIfInBounds _ _).size=27;simpa using s25
  ·rw[C0 (by omega),if_neg (by omega)];exact r18
  ·rw[C0 (by omega),if_pos rfl]
  ·rw[_root_.Go.contains_push]at hc
   rcases Bool.or_eq_true_iff.1 hc with hc|hc
   ·obtain⟨j,hj,hle⟩:=hall e he hc
    exact⟨j,hj,by omega⟩
   ·have hee:e=e0:=by
     have hbn:e.born=e0.born:=by simpa using hc
     exact qBA hb.2 he hem' hbn
    subst hee
    exact⟨k,hkey,by omega⟩
  ·rcases Nat.le_total m k with h|h
   ·rw[Nat.min_eq_left h];exact hat
   ·rw[Nat.min_eq_right h];exact .inr ⟨e0,hem',hkey⟩
  ·have hseen2:w2.iterSeen wb.heap.size=seen.push e0.born:=by unfold World.iterSeen;rw[hr2]
   show(_root_.Go.leftOf ms.toArray (w2.iterSeen wb.heap.size)).size<(_root_.Go.leftOf ms.toArray (w.iterSeen wb.heap.size)).size
   rw[hseen2,hseen]
   exact _root_.Go.left_shrinks _ _ _ he0
end
section
variable {Γ:Tables}
theorem qG6 (D:C5) (n:Nat) (hcn:D.c.nodes.l.length=n) (W:WS) (hw:WOk n W) :
  Bf Tryz.prog Γ 45 (hW D n W D2) [.lp 1000000 0 0] (.t (tI (J9 n W.wl))) (hW D n W D2):=by
 refine qLX qCL rfl fun w X κ c a hN hm hc hcode hI Qw hQ=>?_
 have hcd:=qB9
 rw[hcode]at hcd
 unfold qDS at hcd
 split at hcd
 case h_2=>cases hcd
 rename_i x0 x1 dd x2 hcc
 simp only[xqa]at hcc
 subst hcc
 simp only[Rk,xqc]at hc
 obtain⟨hc0,hc1,hcD,hcR⟩:=hc
 have hR0:awp Tryz.prog Γ q9M (fun e s=>e=.normal/\s=⟨[(0,.lp 1000000 0 0)],hW D n W D2⟩) ⟨q6A 0 [.lp 1000000 0 0],hW D n W D2⟩:=by
  refine Hq ?_
  simp
 have hR1:awp Tryz.prog Γ q9N (fun e s=>e=.normal/\s=⟨[(0,.lp 1000000 0 0),(3,.t (tI n))],hW D n W D2⟩) ⟨[(0,.lp 1000000 0 0)],hW D n W D2⟩:=by
  refine Hq ?_
  simp[hW,Ax,A9,Ab,hcn]
 refine wp_seq (wp_mono (Dw hN hm hc0 hI hR0) ?_)
 rintro e a1 w1 ⟨x,s,rfl,hI1,rfl,rfl⟩
 show(Code.seq _ _).wp Tryz.prog Qw a1 w1
 refine wp_seq (wp_mono (Dw hN hm hc1 hI1 hR1) ?_)
 rintro e a2 w2 ⟨x,s,rfl,hI2,rfl,rfl⟩
 show(Code.seq _ _).wp Tryz.prog Qw a2 w2
 unfold qLY at hcd
 split at hcd
 case h_2=>cases hcd
 rename_i id2 ops2 id3 ops3 id4 ops4 id5 ops5
 split at hcd
 case h_2=>cases hcd
 rename_i b1 b2 b3 b4 b5 d1 d2 e1 e2 e3 f1 f2 f3 f4 o2 o3 o4 o5
 simp only[xqc]at hcd
 obtain⟨⟨⟨⟨⟨⟨⟨⟨⟨⟨hch,hr5⟩,hn1⟩,hn2⟩,hn3⟩,hn4⟩,hn5⟩,hn6⟩,hn7⟩,hn8⟩,hn9⟩:=hcd
 refine wp_seq (wp_seq (wp_region_list ?_))
 have hst:∃ s1,Kw Tryz.prog Γ qJc ⟨[(0,.lp 1000000 0 0),(3,.t (tI n))],hW D n W D2⟩ s1/\s1=⟨[(17,.lm 1000004),(16,.lp 1000000 0 1),(15,.lp 1000000 0 0),(14,.lp 1000000 0 0),(0,.lp 1000000 0 0),(3,.t (tI n))],hW D n W D2⟩:=by
  have:awp Tryz.prog Γ (.reg qJc []) (fun e s=>s=⟨[(17,.lm 1000004),(16,.lp 1000000 0 1),(15,.lp 1000000 0 0),(14,.lp 1000000 0 0),(0,.lp 1000000 0 0),(3,.t (tI n))],hW D n W D2⟩) ⟨[(0,.lp 1000000 0 0),(3,.t (tI n))],hW D n W D2⟩:=by
   refine Hq ?_
   simp[hW,Ax]
  exact this
 obtain⟨_,hst,rfl⟩:=hst
 have hpre:=fun Q K=>q9L (Q:=Q) (ops:=ops2.toList) (rest:=[b5]) hN hI2 hch hst K
 rw[xz5]at hpre
 rw[o2]
 refine hpre _ fun a3 w3 hI3=>?_
 obtain⟨X',μ,hsim,hgl,hx0,hbd,hsz,hds⟩:=hI3
 obtain⟨g,mm,hs,hmu,he⟩:=(hsim.env 17 _ rfl).lm_inv
 obtain⟨g',n',clock,ms,hm',hh,hbo,hlen,hr⟩:=hsim.reg 1000004 (.mr (Eo D2 W.wl)) (by simp[hW,A0])
 rw[hmu]at hm';cases hm'
 have h3:=(hsim.env 3 _ rfl).t_inv.v_inv
 have hky:∀ e∈ms,∃ p∈W.wl,e.key=.int .i64 (p.1:Int):=fun e he=>by
  obtain⟨i,hi,rfl⟩:=xqt he
  have hi2:i<(Eo D2 W.wl).length:=by rw[hlen];exact hi
  have hi3:i<W.wl.length:=by simpa[Eo]using hi2
  have:=(hr i (Eo D2 W.wl)[i] ms[i] (by simp[hi2]) (by simp[hi])).1
  exact⟨W.wl[i],xqj hi3,by simpa[Eo]using this⟩
 have hky2:∀ p∈W.wl,∃ e∈ms,e.key=.int .i64 (p.1:Int):=fun p hp=>by
  obtain⟨i,hi3,rfl⟩:=xqt hp
  have hi2:i<(Eo D2 W.wl).length:=by simpa[Eo]using hi3
  have hi:i<ms.length:=by rw[<- hlen];exact hi2
  have:=(hr i (Eo D2 W.wl)[i] ms[i] (by simp[hi2]) (by simp[hi])).1
  exact⟨ms[i],xqj hi,by simpa[Eo]using this⟩
 have hrunR:(execOp a3.eval b5).run Tryz.prog w3=.ok (.value (.pointer (some ⟨w3.heap.size,0,none⟩))) (w3.alloc (.mapIter (some g) clock #[] clock)):=by
  have hx:qJb Tryz.prog 17 b5.op=true:=by simp only[Vz,xqc]at hr5;exact hr5.2
  unfold qJb at hx
  split at hx<;>simp only[xqc,xz0,xqn,Option.isSome_iff_exists]at hx
  rename_i ty s hop
  obtain⟨rfl,⟨k,e⟩,hmo⟩:=hx
  have:=_root_.Go.run_range_map (P:=Tryz.prog) w3 ty k e g ms.toArray clock (F7 hmo) hh
  simp[execOp,hop,Act.eval,he,this]
 refine q0r hr5 hrunR ?_
 show(Code.block 0 _).wp Tryz.prog _ _ _
 refine wp_block (qG5 (wb:=w3) (n:=n) hh hbo (fun e he=>by obtain⟨p,_,h⟩:=hky e he;exact⟨p.1,h⟩) o3 o4 o5 hn1 hn2 hn3 hn4 hn5 hn6 hn7 hn8 hn9 ⟨?_,hds,?_,rfl,rfl,rfl,#[],clock,n,?_,rfl,xzo _,xzo _,(fun e he hc=>by simp at hc),.inl rfl⟩ fun a' w' m k1 k2 k3 k4 k5 k6 k7 k8 k9 k10=>?_)
 ·show(a3.tmps.setIfInBounds _ _).size=27;simpa using hsz
 ·rw[C0 (by omega),if_pos rfl]
 ·rw[C0 (by omega),if_neg (by omega)];exact h3
 show x2.wp Tryz.prog Qw a' w'
 obtain⟨it,k4⟩:=k4
 have hml:m=J9 n W.wl:=by
  refine Nat.le_antisymm ?_ ?_
  ·rcases q9z (wl:=W.wl) (n:=n)with h|⟨p,hp,h⟩
   ·rw[h];exact k8
   ·obtain⟨e,he,hk⟩:=hky2 p hp
    obtain⟨k,hk2,hle⟩:=k9 e he
    rw[hk]at hk2
    simp only[Value.int.injEq,true_and]at hk2
    omega
  ·rcases k10 with h|⟨e,he,hk⟩
   ·rw[h];exact q4j.1
   ·obtain⟨p,hp,hk2⟩:=hky e he
    rw[hk]at hk2
    simp only[Value.int.injEq,true_and]at hk2
    have:=(q4j (n:=n)).2 p hp
    omega
 subst hml
 have hbel:RowKit.Below w3.heap.size w3 w':=⟨k5,k6,k7,by rw[k4];simp,fun k hk=>by rw[k4,xzv hk,xzw hk]⟩
 have hsim2:=hsim.grow hbel (X':=X') (fun _ h=>h) (fun _ h=>.inl h)
 have hsim3:Sim w w.heap.size κ X' μ ⟨[(3,.t (tI (J9 n W.wl)))],hW D n W D2⟩ a'.tmps w':=by
  have h0:Sim w w.heap.size κ X' μ ⟨[],hW D n W D2⟩ a'.tmps w':=⟨fun t a ht=>by simp[A0]at ht,hsim2.reg,hsim2.inj,hsim2.loc,hsim2.kap,hsim2.kbig,hsim2.xlt,hsim2.os,hsim2.tape,hsim2.output,hsim2.size,hsim2.fr⟩
  exact h0.slot (t:=3) (b:=.t (tI (J9 n W.wl))) (by rw[k3];exact .t _ _ (.v _))
 refine hQ (.seq q9O .ret) x2 ⟨[(3,.t (tI (J9 n W.wl)))],hW D n W D2⟩ a' w' hcR ⟨X',μ,hsim3,hgl.mono (fun b hb=>hbel.block b (hsim.xlt b hb)) (fun _ h=>h),hx0,hbd,k1,k2⟩ ?_
 refine Hq ?_
 simp[qCt,q5A,q69]
 exact⟨True,trivial⟩
end
end Go.Lg
namespace Go.Lg
open Go Go.Proofs Go.Shelf
def soR:Go.Shelf.Ren:=⟨fun|189=>48|125=>108|257=>107|128=>174|129=>175|294=>165|295=>166|296=>167|297=>168|298=>169|299=>170|216=>171|300=>172|301=>173|328=>197|329=>198|330=>199|331=>200|332=>201|215=>183|343=>212|n=>n,fun|28=>33|3=>3|46=>178|0=>0|51=>219|53=>221|4=>4|183=>211|182=>210|131=>216|5=>5|9=>9|218=>240|222=>244|228=>255|229=>186|n=>n,fun n=>n⟩
theorem soL:Lays.n189 Tryz.prog soR where
 mixed:=by kernel_rfl
 f125:=Tryz.func108.trans (congrArg some (by kernel_rfl))
 f128:=Tryz.func174.trans (congrArg some (by kernel_rfl))
 f129:=Tryz.func175.trans (congrArg some (by kernel_rfl))
 f189:=Tryz.func48.trans (congrArg some (by kernel_rfl))
 f215:=Tryz.func183.trans (congrArg some (by kernel_rfl))
 f216:=Tryz.func171.trans (congrArg some (by kernel_rfl))
 f257:=Tryz.func107.trans (congrArg some (by kernel_rfl))
 f294:=Tryz.func165.trans (congrArg some (by kernel_rfl))
 f295:=Tryz.func166.trans (congrArg some (by kernel_rfl))
 f296:=Tryz.func167.trans (congrArg some (by kernel_rfl))
 f297:=Tryz.func168.trans (congrArg some (by kernel_rfl))
 f298:=Tryz.func169.trans (congrArg some (by kernel_rfl))
 f299:=Tryz.func170.trans (congrArg some (by kernel_rfl))
 f300:=Tryz.func172.trans (congrArg some (by kernel_rfl))
 f301:=Tryz.func173.trans (congrArg some (by kernel_rfl))
 f328:=Tryz.func197.trans (congrArg some (by kernel_rfl))
 f329:=Tryz.func198.trans (congrArg some (by kernel_rfl))
 f330:=Tryz.func199.trans (congrArg some (by kernel_rfl))
 f331:=Tryz.func200.trans (congrArg some (by kernel_rfl))
 f332:=Tryz.func201.trans (congrArg some (by kernel_rfl))
 f343:=Tryz.func212.trans (congrArg some (by kernel_rfl))
 t0:=Tryz.underlying0
 a0:=Tryz.isAgg0
 z0:=Tryz.sizeOf0
 v0:=Tryz.zeroValue0
 t3:=Tryz.underlying3
 a3:=Tryz.isAgg3
 z3:=Tryz.sizeOf3
 v3:=Tryz.zeroValue3
 t4:=Tryz.underlying4
 a4:=Tryz.isAgg4
 z4:=Tryz.sizeOf4
 v4:=Tryz.zeroValue4
 t5:=Tryz.underlying5
 a5:=Tryz.isAgg5
 z5:=Tryz.sizeOf5
 v5:=Tryz.zeroValue5
 t9:=Tryz.underlying9
 a9:=Tryz.isAgg9
 z9:=Tryz.sizeOf9
 v9:=Tryz.zeroValue9
 t28:=Tryz.underlying33
 a28:=Tryz.isAgg33
 z28:=Tryz.sizeOf33
 v28:=Tryz.zeroValue33
 t46:=Tryz.underlying178
 a46:=Tryz.isAgg178
 z46:=Tryz.sizeOf178
 v46:=Tryz.zeroValue178
 t51:=Tryz.underlying219
 a51:=Tryz.isAgg219
 z51:=Tryz.sizeOf219
 v51:=Tryz.zeroValue219
 t53:=Tryz.underlying221
 a53:=Tryz.isAgg221
 z53:=Tryz.sizeOf221
 v53:=Tryz.zeroValue221
 t131:=Tryz.underlying216
 a131:=Tryz.isAgg216
 z131:=Tryz.sizeOf216
 v131:=Tryz.zeroValue216
 t182:=Tryz.underlying210
 a182:=Tryz.isAgg210
 z182:=Tryz.sizeOf210
 v182:=Tryz.zeroValue210
 t183:=Tryz.underlying211
 a183:=Tryz.isAgg211
 z183:=Tryz.sizeOf211
 v183:=Tryz.zeroValue211
 t218:=Tryz.underlying240
 a218:=Tryz.isAgg240
 z218:=Tryz.sizeOf240
 v218:=Tryz.zeroValue240
 t222:=Tryz.underlying244
 a222:=Tryz.isAgg244
 z222:=Tryz.sizeOf244
 v222:=Tryz.zeroValue244
 t228:=Tryz.underlying255
 a228:=Tryz.isAgg255
 z228:=Tryz.sizeOf255
 v228:=Tryz.zeroValue255
 t229:=Tryz.underlying186
 a229:=Tryz.isAgg186
 z229:=Tryz.sizeOf186
 v229:=Tryz.zeroValue186
variable {Γ:Tables}
def Vi (l:List Int):List Int:=l.mergeSort fun x y=>decide (x<=y)
theorem S4 {l:List Int}:(Vi l).length=l.length:=List.length_mergeSort l
theorem qBB (vs:Array Value) (w:World):(callFunc 48 vs).run Tryz.prog w=.ok (.enter 48 vs) w:=enters_of Tryz.func48 (by kernel_rfl) rfl vs w
theorem qHZ (ty:Nat) (l:List Int) (hl:l.length<=1000000) (cap:Option Nat):Bf Tryz.prog Γ 48 [(1000000,.sl ty 1 (Av l))] [.ls 1000000 0 l.length cap] (.t (.tup [])) [(1000000,.sl ty 1 (Av (Vi l)))]:=by
 intro w X κ vs hg hk hs ha
 refine .inl ⟨qBB _ _,?_⟩
 have hsh:St.sh ⟨[],[(1000000,.sl ty 1 (Av (Vi l)))]⟩=St.sh ⟨[],[(1000000,.sl ty 1 (Av l))]⟩:=funext fun t=>by
  simp only[St.sh,A0]
  split
  ·simp[Aw.sh,Av,A5,S4]
  ·rfl
 have hreg:=hs.reg 1000000 (.sl ty 1 (Av l)) (by simp[A0])
 obtain⟨v,rfl⟩:∃ v,vs=[v]:=by
  have:=ha.1
  match vs,this with
  | [v],_=>exact⟨v,rfl⟩
 have hv:=ha.2 0 _ v rfl rfl
 generalize hn:l.length=n at hv
 cases hv with
 | lsnil _ s m h1 h2 a cp hc =>
  have hl0:l=[]:=xqo hn
  subst hl0
  have hso:Vi ([]:List Int)=[]:=xqo S4
  rw[hso]
  refine(Any.slices_Sort_int_none soL a 0 w).mono fun e w' ⟨he,hw⟩=>?_
  subst hw
  exact⟨_,he,X,κ,hs,.t _ _ (.tup _ _ rfl fun k t x h=>by cases h),fun b h=>h,fun b h=>.inl h⟩
 | ls _ off len s m g q c cp h1 h2 hle hlc hcm hfit hfull hc a haa =>
  have haa:=haa (.inr rfl)
  subst haa
  have hx:X=X:=rfl
  have hrr:∃ arr,κ 1000000=some (g,arr.size)/\w.heap[g]? = some (.cells arr ty (0,0))/\n<=arr.size/\∀ (i:Nat) (k:Int),l[i]? = some k->arr[i]? = some (.int .i64 k):=by
   obtain⟨_,h|⟨g',arr,k1,k2,k3,k4⟩⟩:=hreg
   ·rw[h2]at h;exact absurd h.2 (by simp)
   ·rw[k1]at h2
    cases h2
    rw[A5,hn]at k3
    refine⟨arr,k1,k2,by omega,fun i k hi=>?_⟩
    have hi2:i<n:=by rw[<- hn];exact(xqi.1 hi).1
    have hi3:i<arr.size:=by omega
    have:=k4 i 0 [tI k] (tI k) arr[i] (by simp[Av,An,hi]) rfl (by rw[Nat.mul_one,xzp,xzw hi3])
    rw[xzw hi3,this.v_inv]
  obtain⟨arr,k1,k2,k3,k4⟩:=hrr
  have hgl:g<w.heap.size:=(Array.getElem?_eq_some_iff.1 k2).1
  have hH:Go.Sort.Holds (Value.int .i64) w g 0 l.toArray:=fun j hj=>by
   have hj2:j<l.length:=by simpa using hj
   have:=k4 j l[j] (by simp[hj2])
   constructor
   ·simp only[World.cell?,k2,xjc]
    simp[this,hj2]
   ·simp[World.frozen?,k2]
  have hcall:=Any.slices_Sort_int soL g 0 c l w hH hgl (by omega)
  rw[hn]at hcall
  rw[show 0*s=0 by omega]
  refine hcall.mono fun e w' ⟨he,nd,os,hw⟩=>?_
  refine⟨_,he,X,κ,?_,.t _ _ (.tup _ _ rfl fun k t x h=>by cases h),fun b h=>h,fun b h=>.inl h⟩
  have hsz:w'.heap.size=w.heap.size+os.size:=by
   rw[hw];simp[Go.Sort.grow,Go.Sort.putRow,Go.Sort.mapBlock,Go.Sort.ahead]
  have hoth:∀ k,k<w.heap.size->k≠g->w'.heap[k]? = w.heap[k]? := fun k hk hkg=>by
   rw[hw]
   simp only[Go.Sort.grow,Go.Sort.putRow,Go.Sort.mapBlock,Go.Sort.ahead]
   rw[Array.getElem?_append_left (by simpa using hk),Array.getElem?_modify,if_neg (fun e=>hkg e.symm)]
  have hat:∃ arr',w'.heap[g]? = some (.cells arr' ty (0,0))/\arr'.size=arr.size/\∀ (i:Nat) (k:Int),(Vi l)[i]? = some k->i<arr.size->arr'[i]? = some (.int .i64 k):=by
   refine⟨Go.Sort.putCells (Value.int .i64) 0 (Vi l).toArray arr,?_,by simp[Go.Sort.putCells],fun i k hi hia=>?_⟩
   ·rw[hw]
    simp only[Go.Sort.grow,Go.Sort.putRow,Go.Sort.mapBlock,Go.Sort.ahead]
    rw[Array.getElem?_append_left (by simpa using hgl),Array.getElem?_modify,if_pos rfl,k2]
    rfl
   ·have hil:i<(Vi l).length:=(xqi.1 hi).1
    have e:=(xqi.1 hi).2
    simp[Go.Sort.putCells,hia,hil,e]
  obtain⟨arr',a1,a2,a3⟩:=hat
  refine⟨fun t a ht=>by simp[A0]at ht,fun id r hr=>?_,?_,?_,?_,hs.kbig,fun b hb=>by rw[hsz];have:=hs.xlt b hb;omega,?_,?_,?_,by rw[hsz];omega,fun k hk hkk=>?_⟩
  ·rw[hsh]
   simp only[A0]at hr
   split at hr
   ·rename_i e
    subst e
    cases hr
    refine⟨fun i e hi=>?_,.inr ⟨g,arr',by rw[a2];exact k1,a1,by rw[A5,S4,hn,a2];omega,fun i k e t x h1 h2 h3=>?_⟩⟩
    ·obtain⟨q,hq,rfl⟩:=xqy.1 (xqp hi)
     refine⟨rfl,fun k t ht=>?_⟩
     match k,ht with
     | 0,ht=>cases ht;rfl
    ·simp only[Av,An,xqr,xqb]at h1
     obtain⟨q,hq,rfl⟩:=h1
     match k,h2 with
     | 0,h2 =>
      cases h2
      have hil:i<(Vi l).length:=(xqi.1 hq).1
      rw[S4,hn]at hil
      have:=a3 i q hq (by omega)
      rw[Nat.mul_one,xzp,this]at h3
      cases h3
      exact .v _
   ·cases hr
  ·rw[hsh];exact hs.inj
  ·rw[hsh]
   intro id g' n' h1 h2
   have:=hs.loc id g' n' h1 h2
   exact⟨this.1,by rw[hsz];omega,this.2.2⟩
  ·rw[hsh];exact hs.kap
  ·rw[hw];rfl
  ·rw[hw];rfl
  ·rw[hw];rfl
  ·exact hoth k hk fun e=>hkk 1000000 _ (by rw[e];exact k1)
end Go.Lg
namespace Go.Lg
open Go Go.Proofs
variable {Γ:Tables}
def JA (i:Nat):Nat:=if i=0 then 60 else if i=1 then 1000000 else if i=2 then 1000001 else if i=3 then 58 else 51
def M1 (u:Nat):Nat:=800000+u
def hA (D:C5) (n:Nat) (W:WS):List (Nat×Aw) :=
 (60,.bx [.lp 1000000 0 0,.lm 51,.ls 58 0 n none,.ls 800999 0 W.ch.length none])::(1000000,.bx (Ax D 1000001 n W.ev))::(1000001,.sl 65 1 (B7 W.nets))::(58,.sl 4 1 (An tB W.q))::(51,.mr (Eo M1 W.wl))::Ug M1 W
theorem qIF {D:C5} {n:Nat} {W:WS}:hA D n W=hG JA D n W M1:=rfl
theorem q4k:NuC 800000 M1:=fun u _=>.inr rfl
theorem qLZ (i:Nat):JA i=60\/JA i=1000000\/JA i=1000001\/JA i=58\/JA i=51:=by
 unfold JA
 split
 ·exact .inl rfl
 split
 ·exact .inr (.inl rfl)
 split
 ·exact .inr (.inr (.inl rfl))
 split
 ·exact .inr (.inr (.inr (.inl rfl)))
 ·exact .inr (.inr (.inr (.inr rfl)))
theorem q4l {i:Nat} (h:i<5):(JA i<800000\/(1000000<=JA i/\JA i<1000005))/\∀ j,j<5->JA i=JA j->i=j:=by
 refine⟨by have:=qLZ i;omega,fun j hj e=>?_⟩
 have h1:i=0\/i=1\/i=2\/i=3\/i=4:=by omega
 have h2:j=0\/j=1\/j=2\/j=3\/j=4:=by omega
 rcases h1 with rfl|rfl|rfl|rfl|rfl<;>rcases h2 with rfl|rfl|rfl|rfl|rfl<;>first|rfl|(simp[JA]at e)
theorem q0s:JOk JA M1:=⟨fun i j hi hj e=>(q4l hi).2 j hj e,q4k.ok.inj,fun i u hi hu e=>by have:=(q4l hi).1;unfold M1 at e;omega⟩
theorem qA0 {D:C5} {n:Nat} {W:WS} (hw:U7 W.wl) {t:Nat} (ht:801000<=t/\t<1000000):A0 (hG JA D n W M1) t=none :=
 Df hw (fun i hi e=>by have:=(q4l hi).1;omega) fun u hu e=>by unfold M1 at e;omega
theorem qDT {E:List (Nat×AV)} {Bh:List (Nat×Aw)} {D:C5} {n c base:Nat} {W W':WS} {ν':Nat->Nat} (hw:WOk n W) (hw':WOk n W') (hν':NuC c ν') (hb:base+c=900000)
  (hB1:∀ t,(t∈O1 JA M1\/(∃ u,u<1000/\t=base+(c+u)))->A0 Bh t=A0 (hG JA D n W' (D6 M1 ν' base)) t) (hB3:∀ t,¬ (t∈O1 JA M1\/∃ u,u<1000/\t=base+(c+u))->A0 Bh t=(A0 (hG JA D n W M1) t).map (Au (N3 (O1 JA M1) (hW D n W' ν'))))
  (hE:∀ u,u<1000->E.map (fun p=>(p.1,A8 (Aq (900000+u) (800000+u)) p.2))=E):Imp Γ ⟨E,Bh⟩ ⟨E,hA D n W'⟩:=by
 have hbn:∀ u,u<1000->D6 M1 ν' base u=800000+u\/D6 M1 ν' base u=900000+u:=fun u hu=>by
  unfold D6 M1
  have:=hν' u hu
  split<;>omega
 refine Imp.trans (Imp.like (hp':=hG JA D n W' (D6 M1 ν' base)) (fun t a h=>h) fun t=>?_) (qB8 (J:=JA) (ν:=D6 M1 ν' base) (ν2:=M1) (D:=D) (n:=n) (W:=W') hw'.wl (fun i hi=>q4l hi) (fun u hu=>by have:=hbn u hu;omega) (fun u hu=>?_) hE)
 ·by_cases ht:(t∈O1 JA M1\/(∃ u,u<1000/\t=base+(c+u)))
  ·exact(hB1 t ht).symm
  ·rw[hB3 t ht]
   have h3:A0 (hG JA D n W M1) t=none:=Df hw.wl (fun i hi e=>ht (.inl (Eu.2 (.inl ⟨i,hi,e⟩)))) fun u hu e=>ht (.inl (Eu.2 (.inr ⟨u,hu,e⟩)))
   refine Eq.trans ?_ (congrArg (Option.map _) h3).symm
   refine Df hw'.wl (fun i hi e=>ht (.inl (Eu.2 (.inl ⟨i,hi,e⟩)))) fun u hu e=>?_
   rcases hbn u hu with e2|e2
   ·exact ht (.inl (Eu.2 (.inr ⟨u,hu,e.trans e2⟩)))
   ·exact ht (.inr ⟨u,hu,by omega⟩)
 ·rcases hbn u hu with e|e
  ·exact .inl e.symm
  ·exact .inr ⟨e,rfl⟩
def Hn (D:C5) (W:WS):List Int->List Int->WS
 | x::l,v::vs=>Hn D (Gv D W x v) l vs
 | _,_=>W
theorem qJe:JA 0=60:=rfl
theorem qLa:JA 1=1000000:=rfl
def qCM (D:C5) (p:Pat) (i:Nat):List (Nat×AV):=[(0,.lp 1000000 0 0),(3,.t (.ip (tP p) 0)),(7,.lp 60 0 0),(67,.t (B8 D.inp)),(68,.t (tI D.inp.l.length)),(69,.t (tI i))]
theorem qIG {Q:AX->St->Prop} (D:C5) (n:Nat) (hD:q36 D n) (hn:n<=1000000) (p:Pat) (hl:D.inp.l.length<=1000000) (hpl:p.inn.l.length=D.inp.l.length) (hin:∀ k∈D.inp.l,0<=k/\k<n) (R:WS)
  (h0:Q (.exit 1) ⟨qCM D p D.inp.l.length++[(70,.t (tB false))],hA D n R⟩) :
  ∀ (j i:Nat) (W:WS),j+i=D.inp.l.length->WOk n W->W.ch.length+j<=1000000->Hn D W (D.inp.l.drop i) (p.inn.l.drop i)=R ->
  run Tryz.prog Γ Hy Q ⟨qCM D p i,hA D n W⟩
 | 0,i,W,h,hw,hc,hR=>by
  refine P2 fun K hK=>?_
  have h2:i=D.inp.l.length:=by omega
  subst h2
  rw[xzs]at hR
  have hR:W=R:=hR
  subst hR
  simp[qCM,hA,Ax,B8]at h0
  simp[qCM,hA,Ax,B8]
  simpa using h0
 | j+1,i,W,h,hw,hc,hR=>by
  refine P2 fun K hK=>?_
  have h2:i<D.inp.l.length:=by omega
  have h3:i<p.inn.l.length:=by omega
  rw[xqq h2,xqq h3]at hR
  have e:=gE (f:=tI) 0 h2
  have e':=gE' (f:=tI) 0 h2
  have q:=gE (f:=tK) 0 h3
  have q':=gE' (f:=tK) 0 h3
  have hq:=hin _ (xqj h2)
  rw[Bn h2]at e e'
  rw[Bn h3]at q q'
  generalize D.inp.l[i]=x at *
  generalize p.inn.l[i]=v at *
  have hR:Hn D (Gv D W x v) (D.inp.l.drop (i+1)) (p.inn.l.drop (i+1))=R:=hR
  obtain⟨ν',hν',hk',hs⟩:=qCJ (Γ:=Γ) D n hD hn W hw (by omega) x v hq D2 q0c
  have hw2:=q4i (v:=v) hD hw hq
  have hc2:=(q5Y (D:=D) (W:=W) (x:=x) (v:=v)).2.2
  have ih:=qIG D n hD hn p hl hpl hin R h0 j (i+1) (Gv D W x v) (by omega) hw2 (by omega) hR
  have gJ:=fun i hi=>q5X (J:=JA) (ν:=M1) (ν':=ν') (D:=D) (n:=n) (W':=Gv D W x v) (c:=900000) (by omega) (by omega) q0s hν' (i:=i) hi
  have g0:=gJ 0 (by omega)
  have g1:=gJ 1 (by omega)
  have fJ0:=q9K (J:=JA) (ν:=M1) q0s (i:=0) (by omega)
  rw[qJe]at g0 fJ0
  rw[qLa]at g1
  have w1:=Jm (i:=i) (by omega)
  generalize Gv D W x v=RW at *
  simp[qCM,hA,Ax,B8]at ih
  simp[-Bv,-A8,-Qh,-Au,qCM,hA,Ax,B8,tP,tV,h2,h3,A5,Aa,e,e',q,q',hpl]
  refine W9 (base:=0) (c:=900000) (by omega) (by omega) (J:=JA) (ν:=M1) (ν':=ν') (D:=D) (n:=n) (W:=W) (W':=RW) q0s q4k.ok hw hw2 hν' hk' (fun t ht=>rfl) (fun u hu=>?_) (by omega) (fun u v hu hv e=>by unfold M1 at e;omega) (fun i v hi hv e=>by have:=(q4l hi).1;omega) hs ?_ ?_ fun Bh hB1 hB3=>?_
  ·exact qA0 hw.wl (by omega)
  ·simp[-Qh,A8,ren1,ren0,fJ0]
  ·simp[-N3,A8,ren1,ren0,g0,g1]
  ·simp
   refine⟨⟨_,hA D n RW⟩,qDT hw hw2 hν' (by omega) hB1 hB3 (fun u hu=>?_),?_⟩
   ·have h1:¬ 1000000=900000+u:=by omega
    have h4:¬ 60=900000+u:=by omega
    simp[A8,ren1,ren0,Aq,h1,h4]
   ·simp[w1]
    rw[hK]
    simpa[hA,Ax,B8,tP,tV]using ih
def qCN (D:C5) (p:Pat) (i:Nat):List (Nat×AV):=[(3,.t (.ip (tP p) 0)),(7,.lp 60 0 0),(86,.t (B8 D.sts)),(87,.t (tI D.sts.l.length)),(88,.t (tI i))]
theorem qIH {Q:AX->St->Prop} (D:C5) (n:Nat) (hD:q36 D n) (hn:n<=1000000) (p:Pat) (hl:D.sts.l.length<=1000000) (hpl:p.st.l.length=D.sts.l.length) (hin:∀ k∈D.sts.l,0<=k/\k<n) (R:WS)
  (h0:Q (.exit 3) ⟨qCN D p D.sts.l.length++[(89,.t (tB false))],hA D n R⟩) :
  ∀ (j i:Nat) (W:WS),j+i=D.sts.l.length->WOk n W->W.ch.length+j<=1000000->Hn D W (D.sts.l.drop i) (p.st.l.drop i)=R ->
  run Tryz.prog Γ Hz Q ⟨qCN D p i,hA D n W⟩
 | 0,i,W,h,hw,hc,hR=>by
  refine P3 fun K hK=>?_
  have h2:i=D.sts.l.length:=by omega
  subst h2
  rw[xzs]at hR
  have hR:W=R:=hR
  subst hR
  simp[qCN,hA,Ax,B8]at h0
  simp[qCN,hA,Ax,B8]
  simpa using h0
 | j+1,i,W,h,hw,hc,hR=>by
  refine P3 fun K hK=>?_
  have h2:i<D.sts.l.length:=by omega
  have h3:i<p.st.l.length:=by omega
  rw[xqq h2,xqq h3]at hR
  have e:=gE (f:=tI) 0 h2
  have e':=gE' (f:=tI) 0 h2
  have q:=gE (f:=tK) 0 h3
  have q':=gE' (f:=tK) 0 h3
  have hq:=hin _ (xqj h2)
  rw[Bn h2]at e e'
  rw[Bn h3]at q q'
  generalize D.sts.l[i]=x at *
  generalize p.st.l[i]=v at *
  have hR:Hn D (Gv D W x v) (D.sts.l.drop (i+1)) (p.st.l.drop (i+1))=R:=hR
  obtain⟨ν',hν',hk',hs⟩:=qCJ (Γ:=Γ) D n hD hn W hw (by omega) x v hq D2 q0c
  have hw2:=q4i (v:=v) hD hw hq
  have hc2:=(q5Y (D:=D) (W:=W) (x:=x) (v:=v)).2.2
  have ih:=qIH D n hD hn p hl hpl hin R h0 j (i+1) (Gv D W x v) (by omega) hw2 (by omega) hR
  have gJ:=fun i hi=>q5X (J:=JA) (ν:=M1) (ν':=ν') (D:=D) (n:=n) (W':=Gv D W x v) (c:=900000) (by omega) (by omega) q0s hν' (i:=i) hi
  have g0:=gJ 0 (by omega)
  have g1:=gJ 1 (by omega)
  have fJ0:=q9K (J:=JA) (ν:=M1) q0s (i:=0) (by omega)
  rw[qJe]at g0 fJ0
  rw[qLa]at g1
  have w1:=Jm (i:=i) (by omega)
  generalize Gv D W x v=RW at *
  simp[qCN,hA,Ax,B8]at ih
  simp[-Bv,-A8,-Qh,-Au,qCN,hA,Ax,B8,tP,tV,h2,h3,A5,Aa,e,e',q,q',hpl]
  refine W9 (base:=0) (c:=900000) (by omega) (by omega) (J:=JA) (ν:=M1) (ν':=ν') (D:=D) (n:=n) (W:=W) (W':=RW) q0s q4k.ok hw hw2 hν' hk' (fun t ht=>rfl) (fun u hu=>?_) (by omega) (fun u v hu hv e=>by unfold M1 at e;omega) (fun i v hi hv e=>by have:=(q4l hi).1;omega) hs ?_ ?_ fun Bh hB1 hB3=>?_
  ·exact qA0 hw.wl (by omega)
  ·simp[-Qh,A8,ren1,ren0,fJ0]
  ·simp[-N3,A8,ren1,ren0,g0]
  ·simp
   refine⟨⟨_,hA D n RW⟩,qDT hw hw2 hν' (by omega) hB1 hB3 (fun u hu=>?_),?_⟩
   ·have h1:¬ 1000000=900000+u:=by omega
    have h4:¬ 60=900000+u:=by omega
    simp[A8,ren1,ren0,Aq,h1,h4]
   ·simp[w1]
    rw[hK]
    simpa[hA,Ax,B8,tP,tV]using ih
def R7 (D:C5) (n:Nat) (W:WS):WS:=Qz D { W with wl:=Kr (J9 n W.wl) W.wl } ((A0 W.wl (J9 n W.wl)).getD [])
def P9 (D:C5) (n:Nat):Nat->WS->WS
 | 0,W=>W
 | k+1,W=>if W.wl=[]then W else P9 D n k (R7 D n W)
def q3r:List (Nat×List Int)->Nat
 | []=>0
 | p::wl=>p.2.length+q3r wl
def tot (W:WS):Nat:=q3r W.wl+W.q.count false
theorem q9P {lv:Nat} {k:Int}:∀ {wl:List (Nat×List Int)},q3r (Rx lv k wl)=q3r wl+1
 | []=>rfl
 | (m,l)::wl=>by
  simp only[Rx]
  split
  ·simp only[q3r,xq6,xq8,xq9];omega
  ·simp only[q3r,q9P (wl:=wl)];omega
theorem q9Q {lv:Nat} {l:List Int}:∀ {wl:List (Nat×List Int)},A0 wl lv=some l->q3r (Kr lv wl)+l.length=q3r wl
 | [],h=>by simp[A0]at h
 | (m,q)::wl,h=>by
  simp only[A0]at h
  simp only[Kr]
  split at h
  ·rename_i e
   cases h
   rw[if_pos e]
   simp only[q3r];omega
  ·rename_i e
   rw[if_neg e]
   have:=q9Q h
   simp only[q3r];omega
def WI (n:Nat) (wl:List (Nat×List Int)):Prop:=∀ p∈wl,p.2≠[]/\p.1<=n/\∀ k∈p.2,0<=k/\k<(n:Int)
theorem WI.add {n lv:Nat} {k:Int} {wl:List (Nat×List Int)} (h:WI n wl) (hl:lv<=n) (hk:0<=k/\k<(n:Int)):WI n (Rx lv k wl):=fun p hp=>by
 rcases q5W hp with hp|rfl|⟨l,hl',rfl⟩
 ·exact h p hp
 ·exact⟨by simp,hl,fun q hq=>by simp at hq;subst hq;exact hk⟩
 ·refine⟨by simp,hl,fun q hq=>?_⟩
  simp only[xzg,xzh]at hq
  rcases hq with hq|rfl
  ·exact(h _ hl').2.2 q hq
  ·exact hk
theorem WI.del {n lv:Nat} {wl:List (Nat×List Int)} (h:WI n wl):WI n (Kr lv wl):=fun p hp=>h p (Zp hp)
structure DOk (D:C5) (n:Nat):Prop where
 ok:q36 D n
 lt:∀ v∈D.lev.l,v<=(n:Int)
theorem qJf {D:C5} {n:Nat} (hD:DOk D n) {W:WS} {k:Int} (hk:0<=k/\k<(n:Int)) (hq:W.q.length=n) (h:WI n W.wl):WI n (Ff D W k).wl/\tot (Ff D W k)=tot W/\(Ff D W k).q.length=n:=by
 unfold Ff
 split
 ·exact⟨h,rfl,hq⟩
 ·rename_i hb
  have hkl:k.toNat<D.lev.l.length:=by rw[hD.ok.ln];omega
  have h1:=hD.lt _ (xqj hkl)
  have h2:=hD.ok.lv _ (xqj hkl)
  refine⟨h.add ?_ hk,?_,by simpa using hq⟩
  ·unfold Zw
   rw[Bn hkl];omega
  ·have hc:=q5V (k:=k.toNat) (q:=W.q) (by omega) (by simpa using hb)
   unfold tot
   simp only[q9P]
   omega
theorem qCO {D:C5} {n:Nat} (hD:DOk D n) {W:WS} {x v:Int} (hx:0<=x/\x<(n:Int)) (hq:W.q.length=n) (h:WI n W.wl):WI n (Gv D W x v).wl/\tot (Gv D W x v)=tot W/\(Gv D W x v).q.length=n:=by
 have key:∀ (l:List Int) (W:WS),(∀ k∈l,0<=k/\k<(n:Int))->W.q.length=n->WI n W.wl->WI n (l.foldl (Ff D) W).wl/\tot (l.foldl (Ff D) W)=tot W/\(l.foldl (Ff D) W).q.length=n:=by
  intro l
  induction l with
  | nil=>exact fun W _ hq h=>⟨h,rfl,hq⟩
  | cons k l ih =>
   intro W hk hq h
   obtain⟨h1,h2,h3⟩:=qJf hD (hk k xqh) hq h
   obtain⟨h4,h5,h6⟩:=ih (Ff D W k) (fun q hq=>hk q (xqf _ hq)) h3 h1
   exact⟨h4,h5.trans h2,h6⟩
 unfold Gv
 split
 ·exact⟨h,rfl,hq⟩
 ·have hxr:x.toNat<D.rdr.l.length:=by rw[hD.ok.rn];omega
  have hrow:D.rdr.l.getD x.toNat Sl.z=D.rdr.l[x.toNat]:=by simp[xqe,hxr]
  have hr:=(hD.ok.rr _ (xqj hxr)).2
  rw[<- hrow]at hr
  exact key _ { W with nets:=W.nets.set x.toNat v,ch:=W.ch++[x] } hr hq h
structure LOk (D:C5) (n m:Nat) (W:WS):Prop where
 b:EvB D n m W
 w:WI n W.wl
 t:tot W<=m
theorem qBC {D:C5} {n:Nat} (hD:DOk D n):∀ (l:List Int) (m:Nat) (W:WS),(∀ k∈l,0<=k/\k<(n:Int))->EvB D n (m+l.length) W->WI n W.wl->tot W<=m->LOk D n m (Qz D W l)/\tot (Qz D W l)=tot W
 | [],m,W,_,hb,hw,ht=>⟨⟨hb,hw,ht⟩,rfl⟩
 | x::l,m,W,hl,hb,hw,ht=>by
  have hx:=hl x xqh
  have hb2:=(show EvB D n ((m+l.length)+1) W from hb).eval hD.ok hx
  obtain⟨h1,h2,_⟩:=qCO (v:=Ih (nd D.c x).k (F5 W.nets (nd D.c x).inn.l)) hD hx (W:={ W with ev:=W.ev+1 }) hb.ok.ql hw
  have h2:tot (Lm D W x)=tot W:=h2
  obtain⟨h3,h4⟩:=qBC hD l m (Lm D W x) (fun k hk=>hl k (xqf _ hk)) hb2 h1 (by omega)
  exact⟨h3,h4.trans h2⟩
theorem qG7 {n:Nat} {wl:List (Nat×List Int)} (h:WI n wl) (hne:wl≠[]):∃ l,A0 wl (J9 n wl)=some l/\(J9 n wl,l)∈wl:=by
 have h1:∃ p∈wl,J9 n wl=p.1:=by
  rcases q9z (wl:=wl) (n:=n)with e|h
  ·match wl,hne with
   | p::wl,_ =>
    have h2:=(q4j (wl:=p::wl) (n:=n)).2 p xqh
    have h3:=(h p xqh).2.1
    exact⟨p,xqh,by omega⟩
  ·exact h
 obtain⟨p,hp,e⟩:=h1
 cases hl:A0 wl (J9 n wl) with
 | none=>exact absurd e.symm (Np hl p hp)
 | some l=>exact⟨l,rfl,Ic hl⟩
theorem q7z {D:C5} {n m:Nat} (hD:DOk D n) {W:WS} (h:LOk D n m W) (hne:W.wl≠[]):∃ l,A0 W.wl (J9 n W.wl)=some l/\l≠[]/\(∀ k∈l,0<=k/\k<(n:Int))/\l.length<=m/\LOk D n (m-l.length) (R7 D n W)/\tot (R7 D n W)+l.length=tot W:=by
 obtain⟨l,h1,h2⟩:=qG7 h.w hne
 obtain⟨h3,h4,h5⟩:=h.w _ h2
 have hp:=q9Q h1
 have ht:=h.t
 have ht2:tot { W with wl:=Kr (J9 n W.wl) W.wl }+l.length=tot W:=by unfold tot;simp only;omega
 have hlm:l.length<=m:=by unfold tot at ht;omega
 refine⟨l,h1,h3,h5,hlm,?_⟩
 unfold R7
 rw[h1]
 have hb:EvB D n (m-l.length+l.length) { W with wl:=Kr (J9 n W.wl) W.wl }:=by
  rw[Nat.sub_add_cancel hlm]
  refine⟨⟨h.b.ok.nl,h.b.ok.ql,h.b.ok.wl.del,fun p hp=>h.b.ok.wn p (Zp hp)⟩,h.b.v4,h.b.ch,h.b.e0,h.b.e1⟩
 obtain⟨h6,h7⟩:=qBC hD l (m-l.length) _ h5 hb h.w.del (by omega)
 exact⟨h6,by rw[xzy,h7];exact ht2⟩
theorem q3s {id i off len:Nat} {r:Aw} {c:Option Nat} (h:¬ i=id):C6 id r (.ls i off len c)=.ls i off len c:=by simp[C6,frz1,frz0,h]
theorem q80 {id i a k:Nat} {r:Aw} (h:¬ i=id):C6 id r (.lp i a k)=.lp i a k:=by simp[C6,frz1,frz0,h]
theorem qCP {id i:Nat} {r:Aw} (h:¬ i=id):C6 id r (.lm i)=.lm i:=by simp[C6,frz1,frz0,h]
theorem qBD {id:Nat} {r:Aw} {x:T}:C6 id r (.t x)=.t x:=rfl
theorem qJg {J ν:Nat->Nat} {D:C5} {n:Nat} {W:WS} {K t:Nat} {r:Aw} (hw:U7 W.wl) (hK:∀ i,i<5->J i≠K) (hK9:ν 999≠K) (hK2:∀ p∈W.wl,ν p.1≠K):(A0 (hG J D n W ν) t).map (Ej K r)=A0 (hG J D n W ν) t:=by
 have e0:Ej K r (.bx [.lp (J 1) 0 0,.lm (J 4),.ls (J 3) 0 n none,.ls (ν 999) 0 W.ch.length none])=.bx [.lp (J 1) 0 0,.lm (J 4),.ls (J 3) 0 n none,.ls (ν 999) 0 W.ch.length none]:=by
  simp only[Ej,xqm,xq3,q3s hK9,q80 (hK 1 (by omega)),qCP (hK 4 (by omega)),q3s (hK 3 (by omega))]
 have e1:Ej K r (.bx (Ax D (J 2) n W.ev))=.bx (Ax D (J 2) n W.ev):=by
  simp only[Ej,Ax,xqm,xq3,qBD,q3s (hK 2 (by omega))]
 have e4:Ej K r (.mr (Eo ν W.wl))=.mr (Eo ν W.wl):=by
  simp only[Ej,Eo,xq5]
  congr 1
  refine xq1 fun p hp=>?_
  simp only[Function.comp]
  rw[q3s (hK2 p hp)]
 have e5:∀ l:List (Nat×Aw),(∀ p∈l,Ej K r p.2=p.2)->(A0 l t).map (Ej K r)=A0 l t:=by
  intro l
  induction l with
  | nil=>intro _;rfl
  | cons p l ih =>
   intro h
   simp only[A0]
   split
   ·simp only[xql];rw[h p xqh]
   ·exact ih fun q hq=>h q (xqf _ hq)
 refine e5 _ fun p hp=>?_
 unfold hG at hp
 rcases xqv.1 hp with rfl|hp
 ·exact e0
 rcases xqv.1 hp with rfl|hp
 ·exact e1
 rcases xqv.1 hp with rfl|hp
 ·rfl
 rcases xqv.1 hp with rfl|hp
 ·rfl
 rcases xqv.1 hp with rfl|hp
 ·exact e4
 obtain⟨u,l,_,_,rfl⟩:=q6a hw hp
 rfl
theorem qLb {D:C5} {n lv:Nat} {W:WS} {l:List Int} (hw:WOk n W) (hl:A0 W.wl lv=some l) :
  Imp Γ ⟨[(7,.lp 60 0 0),(13,.ls (M1 lv) 0 l.length none)],(60,.bx [.lp 1000000 0 0,.lm 51,.ls 58 0 n none,.ls 800999 0 W.ch.length none])::(1000000,.bx (Ax D 1000001 n W.ev))::(1000001,.sl 65 1 (B7 W.nets))::(58,.sl 4 1 (An tB W.q))::(51,.mr (Eo M1 (Kr lv W.wl)))::Ug M1 W⟩
   ⟨[(7,.lp 60 0 0),(13,.t (B8 ⟨l,none,none⟩))],hA D n { W with wl:=Kr lv W.wl }⟩:=by
 have hlt:lv<999:=hw.wl.lt _ (Ic hl)
 have hw2:U7 (Kr lv W.wl):=hw.wl.del
 have hnu:M1 lv=800000+lv:=rfl
 have hH:∀ t,A0 ((60,Aw.bx [.lp 1000000 0 0,.lm 51,.ls 58 0 n none,.ls 800999 0 W.ch.length none])::(1000000,.bx (Ax D 1000001 n W.ev))::(1000001,.sl 65 1 (B7 W.nets))::(58,.sl 4 1 (An tB W.q))::(51,.mr (Eo M1 (Kr lv W.wl)))::Ug M1 W) t =
   if t=M1 lv then some (.sl 3 1 (Av l))else A0 (hA D n { W with wl:=Kr lv W.wl }) t:=fun t=>by
  have h1:A0 (Ug M1 W) (M1 lv)=some (.sl 3 1 (Av l)):=by
   rw[Jl q4k.ok hw.wl (by omega)]
   simp only[Ie,if_neg (show ¬ lv=999 by omega),hl,xql]
  have h2:t≠M1 lv->A0 (Ug M1 W) t=A0 (Ug M1 { W with wl:=Kr lv W.wl }) t:=fun hne=>by
   by_cases hu:∃ u,u<1000/\t=M1 u
   ·obtain⟨u,hu,rfl⟩:=hu
    have hul:¬ u=lv:=fun e=>hne (by rw[e])
    rw[Jl q4k.ok hw.wl hu,Jl (W:={ W with wl:=Kr lv W.wl }) q4k.ok hw2 hu]
    simp only[Ie,Zo hw.wl.nd,if_neg hul]
   ·have h:∀ u,u<1000->t≠M1 u:=fun u hu' e=>hu ⟨u,hu',e⟩
    rw[Dj hw.wl h,Dj (W:={ W with wl:=Kr lv W.wl }) hw2 h]
  simp only[hA,A0]
  by_cases ht:t=M1 lv
  ·rw[if_pos ht,ht,h1,if_neg (by omega),if_neg (by omega),if_neg (by omega),if_neg (by omega),if_neg (by omega)]
  ·rw[if_neg ht,h2 ht]
 have hself:A0 (hA D n { W with wl:=Kr lv W.wl }) (M1 lv)=none:=by
  rw[qIF,S3 (W:={ W with wl:=Kr lv W.wl }) q0s q4k.ok hw2 (by omega)]
  simp only[Ie,if_neg (show ¬ lv=999 by omega),Zo hw.wl.nd,if_true,xzx]
 refine Imp.trans (Imp.gh (.frz (M1 lv)) _) ?_
 show Imp Γ (St.freeze (M1 lv) _) _
 have hself1:=hH (M1 lv)
 rw[if_pos rfl]at hself1
 have h60:¬ 60=M1 lv:=by omega
 unfold St.freeze
 simp only[hself1,Aw.closed,if_true]
 refine Imp.like (fun t a h=>?_) fun t=>?_
 ·have hrf:C6 (M1 lv) (.sl 3 1 (Av l)) (.ls (M1 lv) 0 l.length none)=.t (B8 ⟨l,none,none⟩):=by
   have:(Av l).take l.length=Av l:=by rw[<- A5 (f:=tI) (l:=l)];exact xzn
   simp[C6,frz1,frz0,Aj,A0,B8,this]
  simp only[xqm,xq3,q80 h60,hrf]
  exact h
 ·rw[Dz (Ej (M1 lv) (.sl 3 1 (Av l))),q17]
  by_cases ht:t=M1 lv
  ·rw[if_pos ht,ht,hself];rfl
  ·rw[if_neg ht,hH,if_neg ht,qIF]
   exact(qJg (W:={ W with wl:=Kr lv W.wl }) hw2 (fun i hi e=>by have:=(q4l hi).1;omega) (by rw[hnu];unfold M1;omega) fun p hp e=>by
    have h8:=hw.wl.lt p (Zp hp)
    have h9:p.1=lv:=by unfold M1 at e;omega
    have:=Zo (t:=lv) (lv:=lv) hw.wl.nd
    rw[if_pos rfl]at this
    exact Np this p hp h9).symm
theorem qJh:NuC 900000 D2:=fun u _=>.inl rfl
theorem qLc {Q:AX->St->Prop} (hΓ:GOk Γ) (D:C5) (n:Nat) (hD:DOk D n) (hn:n<=1000000) (H:ROk D.c) (hcn:D.c.nodes.l.length=n) (R:WS)
  (h0:R.wl=[]->R.ch.length<=1000000->Q (.exit 5) ⟨[(7,.lp 60 0 0),(107,.t (tB false))],hA D n R⟩) :
  ∀ (k:Nat) (W:WS) (m:Nat) (E:List (Nat×AV)),A0 E 7=some (.lp 60 0 0)->tot W<=k->m<=1000000->LOk D n m W->P9 D n k W=R ->
  run Tryz.prog Γ I3 Q ⟨E,hA D n W⟩:=by
 intro k
 induction k with
 | zero =>
  intro W m E hE7 ht hm hL hR
  refine P4 fun K hK=>?_
  have hR:W=R:=hR
  subst hR
  have hw:W.wl=[]:=by
   match hwl:W.wl with
   | []=>rfl
   | p::wl =>
    have:=hL.w p (by rw[hwl];exact xqh)
    have h2:0<p.2.length:=xza.2 this.1
    unfold tot at ht
    rw[hwl]at ht
    simp only[q3r]at ht
    omega
  have h0:=h0 hw (by have:=hL.b.ch;omega)
  simp[hA,Ax,hw,Eo]at h0
  simp[hA,Ax,hw,Eo,hE7]
  simpa using h0
 | succ k ih =>
  intro W m E hE7 ht hm hL hR
  refine P4 fun K hK=>?_
  by_cases hw:W.wl=[]
  ·have hR:W=R:=by unfold P9 at hR;rw[if_pos hw]at hR;exact hR
   subst hR
   have h0:=h0 hw (by have:=hL.b.ch;omega)
   simp[hA,Ax,hw,Eo]at h0
   simp[hA,Ax,hw,Eo,hE7]
   simpa using h0
  ·have hR:P9 D n k (R7 D n W)=R:=by unfold P9 at hR;rw[if_neg hw]at hR;exact hR
   obtain⟨l,h1,h2,h3,h4,h5,h6⟩:=q7z hD hL hw
   have hs1:=qG6 (Γ:=Γ) D n hcn W hL.b.ok
   have hst:R7 D n W=Qz D { W with wl:=Kr (J9 n W.wl) W.wl } l:=by unfold R7;rw[h1];rfl
   have hw1:WOk n { W with wl:=Kr (J9 n W.wl) W.wl }:=⟨hL.b.ok.nl,hL.b.ok.ql,hL.b.ok.wl.del,fun p hp=>hL.b.ok.wn p (Zp hp)⟩
   have hEB:EvB D n l.length { W with wl:=Kr (J9 n W.wl) W.wl }:=⟨hw1,hL.b.v4,by have:=hL.b.ch;simp only;omega,hL.b.e0,by have:=hL.b.e1;simp only;omega⟩
   obtain⟨ν',hν',hk',hs2⟩:=qJa hΓ D n hD.ok hn H hcn ⟨l,none,none⟩ (by simp only;omega) (fun q hq=>by have:=h3 q hq;omega) _ hEB
   simp only at hk' hs2
   rw[<- hst]at hk' hs2
   have h2l:0<l.length:=xza.2 h2
   have ih:=ih (R7 D n W) (m-l.length) [(7,.lp 60 0 0)] rfl (by omega) (by omega) h5 hR
   have hlt:J9 n W.wl<999:=hL.b.ok.wl.lt _ (Ic h1)
   have hF:=qLb (Γ:=Γ) (D:=D) hL.b.ok h1
   have hfind:=q7m (ν:=M1) (lv:=J9 n W.wl) (wl:=W.wl)
   have hfit:=q7n (ν:=M1) (wl:=W.wl)
   have hdel:=qDL (ν:=M1) (lv:=J9 n W.wl) (wl:=W.wl)
   rw[h1]at hfind
   simp only[xql]at hfind
   generalize R7 D n W=RW at *
   generalize J9 n W.wl=lv at *
   have gJ:=fun i hi=>q5X (J:=JA) (ν:=M1) (ν':=D2) (D:=D) (n:=n) (W':=W) (c:=900000) (by omega) (by omega) q0s qJh (i:=i) hi
   have g0:=gJ 0 (by omega)
   have gK:=fun i hi=>q5X (J:=JA) (ν:=M1) (ν':=ν') (D:=D) (n:=n) (W':=RW) (c:=800000) (by omega) (by omega) q0s hν' (i:=i) hi
   have k0:=gK 0 (by omega)
   have fJ0:=q9K (J:=JA) (ν:=M1) q0s (i:=0) (by omega)
   rw[qJe]at g0 fJ0 k0
   have hpos:0<W.wl.length:=xza.2 hw
   have hel:(Eo M1 W.wl).length=W.wl.length:=by simp[Eo]
   simp[hA,Ax]at ih
   simp[-Bv,-A8,-Qh,-Au,hA,Ax,hel,hpos,hE7]
   refine W9 (base:=0) (c:=900000) (by omega) (by omega) (J:=JA) (ν:=M1) (ν':=D2) (D:=D) (n:=n) (W:=W) (W':=W) q0s q4k.ok hL.b.ok hL.b.ok qJh (Kp.refl _ _) (fun t ht=>rfl) (fun u hu=>?_) (by omega) (fun u v hu hv e=>by unfold M1 at e;omega) (fun i v hi hv e=>by have:=(q4l hi).1;omega) hs1 ?_ ?_ fun Bh hB1 hB3=>?_
   ·exact qA0 hL.b.ok.wl (by omega)
   ·simp[-Qh,A8,ren1,ren0,fJ0]
   ·simp[-N3,A8,ren1,ren0,g0]
   ·simp
    refine⟨⟨[(7,.lp 60 0 0),(12,.t (tI lv))],hA D n W⟩,qDT hL.b.ok hL.b.ok qJh (by omega) hB1 hB3 (fun u hu=>?_),?_⟩
    ·have h7:¬ 60=900000+u:=by omega
     simp[A8,ren1,ren0,Aq,h7]
    ·simp[-Bv,-A8,-Qh,-Au,hA,Ax,hfind,hfit,hdel]
     refine⟨rfl,_,hF,?_⟩
     simp[-Bv,-A8,-Qh,-Au]
     refine W9 (base:=100000) (c:=800000) (by omega) (by omega) (J:=JA) (ν:=M1) (ν':=ν') (D:=D) (n:=n) (W:={ W with wl:=Kr lv W.wl }) (W':=RW) q0s q4k.ok hw1 h5.b.ok hν' hk' (fun t ht=>rfl) (fun u hu=>?_) (by omega) (fun u v hu hv e=>by unfold M1 at e;omega) (fun i v hi hv e=>by have:=(q4l hi).1;omega) hs2 ?_ ?_ fun Bh2 hB4 hB5=>?_
     ·exact qA0 (W:={ W with wl:=Kr lv W.wl }) hw1.wl (by omega)
     ·simp[-Qh,A8,ren1,ren0,fJ0]
     ·simp[-N3,A8,ren1,ren0,k0]
     ·simp
      refine⟨⟨_,hA D n RW⟩,qDT hw1 h5.b.ok hν' (by omega) hB4 hB5 (fun u hu=>?_),?_⟩
      ·have h7:¬ 60=900000+u:=by omega
       simp[A8,ren1,ren0,Aq,h7]
      ·simp
       rw[hK]
       simpa[hA,Ax]using ih
def S5 (D:C5) (n:Nat) (nets:List Int) (p:Pat):WS:=P9 D n n (Hn D (Hn D ⟨nets,List.replicate n false,[],[],0⟩ D.inp.l p.inn.l) D.sts.l p.st.l)
theorem Zx {D:C5} {n m:Nat} (hD:DOk D n):∀ (l vs:List Int) (W:WS),(∀ k∈l,0<=k/\k<(n:Int))->(∀ v∈vs,V4 v)->LOk D n m W->W.ch.length+l.length+m<=1000000->LOk D n m (Hn D W l vs)/\(Hn D W l vs).ch.length<=W.ch.length+l.length/\(Hn D W l vs).ev=W.ev
 | [],vs,W,_,_,h,_=>by
  cases vs<;>exact⟨h,by simp[Hn],rfl⟩
 | x::l,[],W,_,_,h,_=>⟨h,by simp[Hn],rfl⟩
 | x::l,v::vs,W,hl,hv,h,hc=>by
  have hx:=hl x xqh
  obtain⟨h1,h2,h3⟩:=qCO (v:=v) hD hx h.b.ok.ql h.w
  have hf:=q5Y (D:=D) (W:=W) (x:=x) (v:=v)
  have hlen:(x::l).length=l.length+1:=rfl
  have hb:EvB D n m (Gv D W x v):=⟨q4i hD.ok h.b.ok hx,qG2 h.b.v4 (hv v xqh),by omega,by rw[hf.1];exact h.b.e0,by rw[hf.1];exact h.b.e1⟩
  obtain⟨k1,k2,k3⟩:=Zx (m:=m) hD l vs (Gv D W x v) (fun k hk=>hl k (xqf _ hk)) (fun u hu=>hv u (xqf _ hu)) ⟨hb,h1,by rw[h2];exact h.t⟩ (by omega)
  refine⟨k1,?_,?_⟩
  ·show(Hn D (Gv D W x v) l vs).ch.length<=_
   omega
  ·exact k3.trans hf.1
theorem qBE {D:C5} {n:Nat} {nets:List Int} (hn:n<=1000000) (hl:nets.length=n) (hv:∀ v∈nets,V4 v):LOk D n n ⟨nets,List.replicate n false,[],[],0⟩:=by
 refine⟨⟨⟨hl,by simp,⟨fun p hp=>(xz2 hp).elim,List.nodup_nil⟩,fun p hp=>(xz2 hp).elim⟩,hv,?_,by simp,?_⟩,fun p hp=>(xz2 hp).elim,?_⟩
 ·simp;omega
 ·simp;omega
 ·simp[tot,q3r]
theorem qA1 (x:Int):A7 Tryz.prog Γ 42 [tK x] (tB (Di x)):=by
 refine Ac q0Y rfl ?_
 simp[Qu,Qv,Di,Ar]
def Xl (D:C5) (p:Pat):Int:=if p.inn.l.length≠D.inp.l.length\/p.st.l.length≠D.sts.l.length then 8 else if p.inn.l.any Di=true\/p.st.l.any Di=true then 1 else 0
def hS (D:C5) (n:Nat) (nets:List Int) (ev:Int):List (Nat×Aw):=[(1000000,.bx (Ax D 1000001 n ev)),(1000001,.sl 65 1 (B7 nets))]
theorem qEZ (D:C5) (n:Nat) (nets:List Int) (ev:Int) (p:Pat) (hp:p.inn.l.length<=1000000000/\p.st.l.length<=1000000000) (e:Int) (hR:Xl D p=e) (he:e≠0) :
  Bf Tryz.prog Γ 12 (hS D n nets ev) [.lp 1000000 0 0,.t (.agg (tP p))] (.t (.tup [.sl [] (some 0) (some true),tI e])) (hS D n nets ev):=by
 refine Ee U5 rfl ?_
 have c1:=En (Γ:=Γ) p.inn.l p.inn.cap p.inn.nl 42 [] Di (fun x _=>qA1 x) hp.1
 have c2:=En (Γ:=Γ) p.st.l p.st.cap p.st.nl 42 [] Di (fun x _=>qA1 x) hp.2
 unfold Xl at hR
 by_cases h1:p.inn.l.length=D.inp.l.length
 ·by_cases h2:p.st.l.length=D.sts.l.length
  ·rw[if_neg (by simp[h1,h2])]at hR
   simp[Fo,hS,Ax,tP,tV,B8,h1,h2,A5]
   refine A4 c1 (by simp[Aj]) ?_
   by_cases h3:p.inn.l.any Di=true
   ·rw[if_pos (.inl h3)]at hR
    subst hR
    simp[h3,Eg]
   ·simp only[xzm]at h3
    rw[h3]
    simp
    refine A4 c2 (by simp[Aj]) ?_
    by_cases h4:p.st.l.any Di=true
    ·rw[if_pos (.inr h4)]at hR
     subst hR
     simp[h4,Eg]
    ·simp only[xzm]at h4
     rw[if_neg (by rw[h3,h4];simp)]at hR
     exact absurd hR.symm he
  ·rw[if_pos (.inr h2)]at hR
   subst hR
   have h2':¬ ((p.st.l.length:Int)=D.sts.l.length):=by omega
   simp[Fo,Eg,hS,Ax,tP,tV,B8,h1,h2',A5]
 ·rw[if_pos (.inl h1)]at hR
  subst hR
  have h1':¬ ((p.inn.l.length:Int)=D.inp.l.length):=by omega
  simp[Fo,Eg,hS,Ax,tP,tV,B8,h1',A5]
theorem qHa (hΓ:GOk Γ) (D:C5) (n:Nat) (hD:DOk D n) (hn:n<=100000) (H:ROk D.c) (hcn:D.c.nodes.l.length=n) (hil:D.inp.l.length<=n) (hsl:D.sts.l.length<=n) (hin:∀ k∈D.inp.l,0<=k/\k<(n:Int)) (hst:∀ k∈D.sts.l,0<=k/\k<(n:Int))
  (nets:List Int) (ev:Int) (hl:nets.length=n) (hv:∀ v∈nets,V4 v) (p:Pat) (he:Xl D p=0) (hp:(∀ v∈p.inn.l,0<=v)/\∀ v∈p.st.l,0<=v) :
  Bf Tryz.prog Γ 12 (hS D n nets ev) [.lp 1000000 0 0,.t (.agg (tP p))] (.t (.tup [.sl (Av (Vi (S5 D n nets p).ch)) (some (S5 D n nets p).ch.length) none,tI 0])) (hS D n (S5 D n nets p).nets (S5 D n nets p).ev):=by
 have hlen:p.inn.l.length=D.inp.l.length/\p.st.l.length=D.sts.l.length/\p.inn.l.any Di=false/\p.st.l.any Di=false:=by
  unfold Xl at he
  split at he
  ·cases he
  split at he
  ·cases he
  rename_i a b
  refine⟨by omega,by omega,?_,?_⟩
  ·cases h:p.inn.l.any Di
   ·rfl
   ·exact absurd (.inl h) b
  ·cases h:p.st.l.any Di
   ·rfl
   ·exact absurd (.inr h) b
 obtain⟨l1,l2,a1,a2⟩:=hlen
 have v1:∀ v∈p.inn.l,V4 v:=fun v hm=>by
  have:=xz8.1 a1 v hm
  simp only[Di,xqu]at this
  exact⟨hp.1 v hm,by omega⟩
 have v2:∀ v∈p.st.l,V4 v:=fun v hm=>by
  have:=xz8.1 a2 v hm
  simp only[Di,xqu]at this
  exact⟨hp.2 v hm,by omega⟩
 refine Ee U5 rfl ?_
 have c1:=En (Γ:=Γ) p.inn.l p.inn.cap p.inn.nl 42 [] Di (fun x _=>qA1 x) (by omega)
 have c2:=En (Γ:=Γ) p.st.l p.st.cap p.st.nl 42 [] Di (fun x _=>qA1 x) (by omega)
 rw[a1]at c1
 rw[a2]at c2
 have L0:=qBE (D:=D) (nets:=nets) (n:=n) (by omega) hl hv
 obtain⟨L1,L1c,_⟩:=Zx hD D.inp.l p.inn.l _ hin v1 L0 (by simp only[xq9];omega)
 obtain⟨L2,L2c,_⟩:=Zx hD D.sts.l p.st.l _ hst v2 L1 (by simp only[xq9]at L1c;omega)
 simp only[xq9]at L1c L2c
 have hap:S5 D n nets p=P9 D n n (Hn D (Hn D ⟨nets,List.replicate n false,[],[],0⟩ D.inp.l p.inn.l) D.sts.l p.st.l):=rfl
 have A1:=fun Q h0=>qIG (Γ:=Γ) (Q:=Q) D n hD.ok (by omega) p (by omega) l1 hin (Hn D ⟨nets,List.replicate n false,[],[],0⟩ D.inp.l p.inn.l) h0 D.inp.l.length 0 ⟨nets,List.replicate n false,[],[],0⟩ (by omega) L0.b.ok (by simp only[xq9];omega) (by rw[xzt,xzt])
 generalize Hn D ⟨nets,List.replicate n false,[],[],0⟩ D.inp.l p.inn.l=R1 at *
 have A2:=fun Q h0=>qIH (Γ:=Γ) (Q:=Q) D n hD.ok (by omega) p (by omega) l2 hst (Hn D R1 D.sts.l p.st.l) h0 D.sts.l.length 0 R1 (by omega) L1.b.ok (by omega) (by rw[xzt,xzt])
 generalize Hn D R1 D.sts.l p.st.l=R2 at *
 have A3:=fun Q h0 E hE=>qLc (Γ:=Γ) (Q:=Q) hΓ D n hD (by omega) H hcn (P9 D n n R2) h0 n R2 n E hE L2.t (by omega) L2 rfl
 rw[<- hap]at A3
 generalize S5 D n nets p=R at *
 simp[hA,Ax,qCM,tP,tV,B8]at A1
 simp[hA,Ax,qCN,tP,tV,B8]at A2
 simp[hA,Ax,B8]at A3
 have hcn':((Bo E3 D.c.nodes.l).length:Int)=n:=by rw[Ab,hcn]
 simp[Fo,hS,Ax,tP,tV,B8,l1,l2,A5]
 refine A4 c1 (by simp[Aj]) ?_
 simp
 refine A4 c2 (by simp[Aj]) ?_
 simp[A9,Ab,hcn]
 have hz:List.replicate n [T.v (Value.bool false)]=An tB (List.replicate n false):=by simp[An]
 rw[hz]
 refine⟨by omega,⟨[(0,.lp 1000000 0 0),(3,.t (.ip (tP p) 0)),(7,.lp 60 0 0)],hA D n ⟨nets,List.replicate n false,[],[],ev⟩⟩,Imp.like (fun t a h=>h) (fun t=>?_),?_⟩
 ·have e9:M1 999=800999:=rfl
  have e0:Eo M1 []=[]:=rfl
  have e1:An tI []=[]:=rfl
  simp only[hA,Ug,A0,xq3,e9,e0,e1,xq9,Ax,B8,A9]
  by_cases t0:60=t
  ·subst t0;simp
  by_cases t1:1000000=t
  ·subst t1;simp
  by_cases t2:1000001=t
  ·subst t2;simp
  by_cases t3:58=t
  ·subst t3;simp
  by_cases t4:51=t
  ·subst t4;simp
  simp only[t0,t1,t2,t3,t4,if_false]
 ·simp[hA,Ax,tP,tV,B8,A5]
  refine A1 _ ?_
  simp[A5]
  refine A2 _ ?_
  simp
  refine A3 _ (fun hw hch=>?_) _ rfl
  have hls:Ug M1 R=[(800999,.sl 3 1 (Av R.ch))]:=by simp only[Ug,hw,xq3];rfl
  simp[-Bv,-A8,-Qh,-Au,hls,hw,Eo]
  refine⟨[800999],by simp,.t (.tup []),[(1000000,.sl 3 1 (Av (Vi R.ch)))],?_,?_,?_⟩
  ·have:=qHZ (Γ:=Γ) 3 R.ch hch none
   simpa using this
  ·simp[Uk,Av,A5,S4,Aw.sh]
  ·simp
   refine⟨[800999],by simp,.ls 1000000 0 R.ch.length (some R.ch.length),[(1000000,.sl 3 1 (Av (Vi R.ch)))],?_,?_,?_⟩
   ·have:=q7E (Γ:=Γ) 3 (Av (Vi R.ch)) R.ch.length none Aa
    simpa using this
   ·simp[Uk,Aw.sh]
   ·have htk:(Av (Vi R.ch)).take R.ch.length=Av (Vi R.ch):=by rw[<- S4,<- A5 (f:=tI)];exact xzn
    simp[Eg,Aj,htk,St.freeze,Ej,C6,frz1,frz0,del,Aw.closed,Ax,B8,A9]
end Go.Lg
namespace Go.Lg
open Go
section
variable {P:Program} {Γ:Tables} {Q:AX->St->Prop} {s:St}
/- probecard/events.New (function 11) -/
abbrev q38:IC:=.gh (.seq (.reg [od 58 (.bin .lss (tm 57) (tm 56))] [.keepE [1,7,8,48,49,50,55,56,57,58]]) (.seq (.cond (tm 58) .skip (.exit 2)) (.seq (.block 3 (.seq (.reg [od 59 (ia 2 55 57),od 60 (lG 2 59),od 11 (.alloc false [(.int
 .i64 0),(.int .i64 0)]),on (.store 2 (tm 11) (tm 60))] [.keepE [1,7,8,11,48,49,50,55,56,57]]) (.seq (.reg [od 61 (fa 0 1),od 62 (ld 1 61),od 63 (fa 0 11),od 64 (ld 1 63),od 65 (ia 4 62 64),od 66 (fa 0 65),od 67 (ld
 1 66),od 68 (.call 14 [(tm 67)])] [.keepE [1,7,8,11,48,49,50,55,56,57,68]]) (.cond (tm 68) (.reg [od 69 (.mvP (tm 7)),od 70 (.nckP (tm 69)),od 71 (.fadP 7 (tm 70)),od 72 (.ldP 1 (tm 71)),od 73 (.mvP (tm 8)),om 74 7,
 od 75 (.nck (tm 74)),od 76 (fa 7 75),od 77 (.ldR 31 1 false (tm 76)),om 78 8,od 79 (ia 1 77 78),od 80 (ld 1 79),od 81 (fa 0 11),od 82 (.ldR 11 1 false (tm 81)),od 83 (.bsl true 3 1 [(tm 82)]),od 84 (.app false 3 1 (tm 80)
 (tm 83)),od 85 (ia 1 72 73),on (.store 1 (tm 85) (tm 84))] [.ren 84 700,.keepE [1,7,8,48,49,50,55,56,57]]) .skip)))) (.reg [od 86 (.bin .add (tm 57) (ki 1)),om 57 86] [.drop [11],.keepE [1,7,8,48,49,50,55,56,
 57]])))) [.keepE [1,7,8,48,49,50,55,56,57]]
def Sz:IC:=.loop q38
abbrev q39:IC:=.gh (.seq (.reg [od 51 (.bin .lss (tm 50) (tm 49))] [.keepE [1,7,48,49,50,51]]) (.seq (.cond (tm 51) .skip (.exit 0)) (.seq (.block 1 (.seq (.reg [om 52 50,od 53 (ia 1 48 50),od 54 (ld 1 53),om 8 52,om 9 54] [.keepE [1,7,
 8,9,48,49,50]]) (.seq (.reg [om 55 9,od 56 (le 0 55),od 57 (.mv (ki 0))] [.keepE [1,7,8,48,49,50,55,56,57]]) (.block 2 Sz)))) (.reg [od 87 (.bin .add (tm 50) (ki 1)),om 50 87] [.frz 700,.keepE [1,7,48,
 49,50]])))) [.keepE [1,7,48,49,50]]
def T0:IC:=.loop q39
abbrev q3A:IC:=(.seq (.reg [od 1 (.box true (tm 0)),od 2 (.mv (.const (.pointer none))),od 3 (.mv (ki 0))] [.keepE [1]]) (.seq (.reg [od 13 (.ldT 4 true (tm 1)),od 14 (.ldT 4 true (tm 1)),od 15 (.callT 17 [(tm 14)]),od 16 (.ncall 22 [(tm
 13),(tm 15)] 600),om 12 16,od 17 (ex 12 0),od 18 (ex 12 1),od 19 (ex 12 2),od 4 (.alloc false [(.slice none 0 0),(.slice none 0 0)]),on (.stR 4 2 (tm 4) (tm 17)),om 5 18,om 6 19] [.drop [4,604],.keepE [1,5,6]]) (.seq
 (.seq (.reg [om 20 6,od 21 (.bin .neq (tm 20) (ki 0))] [.keepE [1,5,6,21]]) (.cond (tm 21) (.seq (.reg [om 22 6,od 2 (.mv (.const (.pointer none))),om 3 22] [.keepE [2,3]]) .ret) .skip)) (.seq (.reg [od 23 (lG 4 1),od 24
 (.call 37 [(tm 23)]),od 25 (lG 4 1),od 26 (.call 38 [(tm 25)]),od 27 (lG 4 1),od 28 (.call 39 [(tm 27)]),om 29 5,od 30 (.build [(4,(tm 24)),(1,(tm 26)),(1,(tm 28)),(1,kN),(1,kN),(1,(tm 29)),(1,(ki 0))]),od 31
 (.box false (tm 30)),om 7 31] [.keepE [1,7]]) (.seq (.reg [om 33 7,od 34 (lG 4 1),od 35 (.call 40 [(tm 34)]),om 32 35,od 36 (ex 32 0),od 37 (ex 32 1),od 38 (.nck (tm 33)),od 39 (fa 6 38),on (.store 1 (tm 39) (tm 36))]
 [.keepE [1,7]]) (.seq (.reg [om 40 7,od 41 (fa 0 1),od 42 (ld 1 41),od 43 (le 0 42),od 44 (.mk 33 1 [(.slice none 0 0)] (tm 43) (tm 43)),od 45 (.nck (tm 40)),od 46 (fa 7 45),on (.store 1 (tm 46) (tm 44))] [.toR 44,.keepE
 [1,7]]) (.seq (.seq (.reg [od 47 (lG 4 1),od 48 (.call 41 [(tm 47)]),od 49 (le 0 48),od 50 (.mv (ki 0))] [.keepE [1,7,48,49,50]]) (.block 0 T0)) (.seq (.reg [om 88 7,om 2 88,od 3 (.mv (ki 0))] [.frz 44,.keepE
 [2,3]]) .ret))))))))
theorem Yf (h:∀ K:St->Prop,K=run P Γ Sz Q->run P Γ q38 (B0 K Q) s):run P Γ Sz Q s:=Am h
theorem Yg (h:∀ K:St->Prop,K=run P Γ T0 Q->run P Γ q39 (B0 K Q) s):run P Γ T0 Q s:=Am h
def q3B:List RV:=[.tmp 2,.tmp 3]
/- probecard/sims.Observe (function 66) -/
abbrev Ln:IC:=(.seq (.reg [od 2 (.mv kN)] [kp [0] []]) (.seq (.seq (.reg [om 3 0,od 4 (.isNil true (tm 3))] [kp [0,4] []]) (.cond (tm 4) (.seq (.reg [od 2 (.mv kN)] [kp [2] [7]]) .ret) .skip)) (.seq (.reg [od 5 (.bsl true 65 1 []),om 6 0,od
 7 (.app false 65 1 (tm 5) (tm 6)),om 2 7] [kp [2] [7]]) .ret)))
def Lo:List RV:=[.tmp 2]
end
end Go.Lg
namespace Go.Lg
open Go Go.Proofs
theorem q81:Bc Tryz.prog 11 q3A 89 1 q3B=true:=by kernel_rfl
theorem W1:Bc Tryz.prog 58 Ln 8 1 Lo=true:=by kernel_rfl
end Go.Lg
namespace Go.Lg
open Go Go.Proofs
variable {Γ:Tables}
theorem qA2 (l:List Int) (cap:Option Nat) (hl:l.length<=1000000) (h0:l≠[]):A7 Tryz.prog Γ 58 [.sl (B7 l) cap none] (.sl (B7 l) none none):=by
 refine Ac W1 rfl ?_
 have h4:B7 l≠[]:=by simpa[An]using h0
 simp(disch:=omega) [Ln,Lo,Aa,A5,h4,Bm]
 omega
theorem qBF (D:C5) (n:Nat) (nets:List Int) (ev:Int) (hn:n<=100000) (hl:nets.length=n) (h0:0<n) :
  Bf Tryz.prog Γ 18 (hS D n nets ev) [.lp 1000000 0 0] (.t (.sl (B7 nets) (some n) none)) (hS D n nets ev):=by
 refine Ee q15 rfl ?_
 have htk:(B7 nets).take n=B7 nets:=by rw[<- hl];exact E5
 have hne:nets≠[]:=fun e=>by rw[e]at hl;simp at hl;omega
 have c1:=qA2 (Γ:=Γ) nets (some n) (by omega) hne
 have c2:=qFe (Γ:=Γ) (B7 nets) none none Aa
 simp[U3,U4,hS,Ax]
 refine A4 c1 (by simp[Aj,htk]) ?_
 simp
 refine B6 c2 rfl ?_
 simp[A5,hl]
theorem qJi (hΓ:GOk Γ) (c:Bg) (hc:COk c) (hn:c.nodes.l.length<=19) (p:Pat) (hp:p.inn.l.length<=1000000000/\p.st.l.length<=1000000000) (hv:(∀ v∈p.inn.l,0<=v)/\∀ v∈p.st.l,0<=v) (h1:D3 c=0) (h2:Ya c p=0) :
  Bf Tryz.prog Γ 22 [] [.t (.agg (tC c)),.t (.agg (tP p))] (.tu [.t (.agg [tVs (q8V c (C9 c p.inn.l p.st.l)),tVs (Xb c (C9 c p.inn.l p.st.l))]),.ls 34 0 c.nodes.l.length (some c.nodes.l.length),.t (tI 0)])
   [(4,.bx [.t (tVs (q8V c (C9 c p.inn.l p.st.l))),.t (tVs (Xb c (C9 c p.inn.l p.st.l)))]),(34,.sl 65 1 (B7 (C9 c p.inn.l p.st.l)))]:=by
 refine Ee q9p rfl ?_
 simp[q61,tC,A9,Ah,Ap,B8,tP,tV]
 refine A4 (qC8 hΓ c hc hn) rfl ?_
 simp[h1]
 refine A4 (qEL c hc p hp) rfl ?_
 obtain⟨l1,l2,v1,v2⟩:p.inn.l.length=(Be c).length/\p.st.l.length=(Ba c).length/\(∀ v∈p.inn.l,V4 v)/\∀ v∈p.st.l,V4 v:=by
  unfold Ya at h2
  split at h2
  ·cases h2
  split at h2
  ·cases h2
  split at h2
  ·cases h2
  rename_i a b d
  refine⟨by omega,by omega,fun v hvm=>⟨hv.1 v hvm,?_⟩,fun v hvm=>⟨hv.2 v hvm,?_⟩⟩
  ·have:¬ p.inn.l.any Di=true:=fun h=>d (.inl h)
   rw[xz1]at this
   have h3:¬ Di v=true:=fun h=>this ⟨v,hvm,h⟩
   simp[Di]at h3;omega
  ·have:¬ p.st.l.any Di=true:=fun h=>d (.inr h)
   rw[xz1]at this
   have h3:¬ Di v=true:=fun h=>this ⟨v,hvm,h⟩
   simp[Di]at h3;omega
 have H:=q7g hc h1
 have hzl:(List.replicate c.nodes.l.length (0:Int)).length=c.nodes.l.length:=by simp
 have hload:=qJS (Γ:=Γ) c hc p (some c.nodes.l.length) (List.replicate c.nodes.l.length 0) hzl l1 l2
 have hz:List.replicate c.nodes.l.length [T.v (Value.int .u8 0)]=B7 (List.replicate c.nodes.l.length 0):=by simp[An]
 have hL:Ge (Ba c) p.st.l (Ge (Be c) p.inn.l (List.replicate c.nodes.l.length 0))=Y3 c p.inn.l p.st.l:=rfl
 rw[hL]at hload
 have hol:(Rq c).length=c.nodes.l.length:=by rw[(Zd c).1.length_eq,O0]
 have ho:=fun Q h0=>qDH (Γ:=Γ) (Q:=Q) hΓ c H (Rq c) (by omega) (fun n hn=>by rw[(Zd c).1.mem_iff,Q4]at hn;exact hn) (C9 c p.inn.l p.st.l) h0 (Rq c).length 0 (Y3 c p.inn.l p.st.l) 0 [] (by omega) Ze (q9r v2 (q9r v1 (fun v hv=>by rw[(List.mem_replicate.1 hv).2];simp[V4]))) rfl
 have hnl:(C9 c p.inn.l p.st.l).length=c.nodes.l.length:=by unfold C9;rw[q4O,Ze]
 have hll:(Y3 c p.inn.l p.st.l).length=c.nodes.l.length:=Ze
 have hobs:=q9q (Γ:=Γ) c hc ⟨C9 c p.inn.l p.st.l,some c.nodes.l.length,none⟩ (by simp only[hnl];omega)
 have htk:(B7 (C9 c p.inn.l p.st.l)).take c.nodes.l.length=B7 (C9 c p.inn.l p.st.l):=by rw[<- hnl];exact E5
 simp only at hobs
 generalize C9 c p.inn.l p.st.l=NL at *
 generalize Y3 c p.inn.l p.st.l=LL at *
 simp[h2,Ab]
 refine⟨by omega,?_⟩
 rw[hz]
 refine⟨_,_,hload,?_⟩
 simp[A5,hll,hol]
 simp only[hol]at ho
 refine ho _ fun m inb=>?_
 simp[qAy,Vv,q3n,A9,Ah,Ap,B8]
 refine A4 hobs (by simp[Aj,htk,q14,A9,Ah,Ap,B8,tV]) ?_
 simp[q62,Aj,htk,tVs]
def q6P:Sl Int:=⟨[],some 0,some true⟩
def rdS (l:List Int):Sl Int:=if l=[]then q6P else⟨l,none,none⟩
def U9 (c:Bg) (r:Kt):List Int:=(r.filter fun p=>By (Ad c p.1.toNat)).map (·.1)
def W2 (c:Bg):List (Sl Int):=(As c).map fun r=>rdS (U9 c r)
def Nb (c:Bg):Pat:=⟨⟨List.replicate (Be c).length 2,none,none⟩,⟨List.replicate (Ba c).length 2,none,none⟩⟩
def Ks (c:Bg):C5:=⟨Xj c,⟨Be c,some (Be c).length,none⟩,⟨Ba c,some (Ba c).length,none⟩,⟨(H6 c).2.out,none,none⟩,⟨W2 c,none,none⟩⟩
def esR (l:List (Sl Int)):List (List AV):=l.map fun s=>[.t (B8 s)]
def q82 (acc:List Int):AV:=if acc=[]then .t (B8 q6P)else .ls 700 0 acc.length none
def q83 (acc:List Int):List (Nat×Aw):=if acc=[] then[] else[(700,.sl 3 1 (Av acc))]
theorem q2Q {l:List (Sl Int)}:(esR l).length=l.length:=by simp[esR]
theorem qCQ {l:List (Sl Int)} {n:Nat} {x:AV} {f:AV->AV} (hf:∀ t,f (.t t)=.t t):((esR l).set n [x]).map (fun e=>e.map f)=(esR l).set n [f x]:=by
 have:(esR l).map (fun e=>e.map f)=esR l:=by
  simp only[esR,xq5]
  refine xq1 fun s _=>?_
  simp[hf]
 rw[List.map_set,this];rfl
theorem qJj {l:List (Sl Int)} {n:Nat} {x:AV} (h:n<l.length):((esR l).set n [x])[n]?.getD []=[x]:=by
 have:n<(esR l).length:=by rw[q2Q];exact h
 simp[this]
def bxN (m:Nat) (xs:List T) (ev:T):Aw:=.bx [.t (xs.getD 0 (tI 0)),.t (xs.getD 1 (tI 0)),.t (xs.getD 2 (tI 0)),.t (xs.getD 3 (tI 0)),.t (xs.getD 4 (tI 0)),.t (xs.getD 5 (tI 0)),.t (xs.getD 6 (tI 0)),.ls 44 0 m none,.ls 634 0 m (some m),.t ev]
theorem qG8 {φ:Nat->Option Nat} {x:T}:A8 φ (.t x)=.t x:=rfl
theorem qDV {a b i x y:Nat} (h:¬ i=a):A8 (Aq a b) (.lp i x y)=.lp i x y:=by simp[A8,ren1,ren0,Aq,h]
theorem qDW {a b i x y:Nat} {c:Option Nat} (h:¬ i=a):A8 (Aq a b) (.ls i x y c)=.ls i x y c:=by simp[A8,ren1,ren0,Aq,h]
theorem qA3 {a b x y:Nat} {c:Option Nat}:A8 (Aq a b) (.ls a x y c)=.ls b x y c:=by simp[A8,ren1,ren0,Aq]
theorem qDX {φ:Nat->Option Nat} {cs:List AV}:Au φ (.bx cs)=.bx (cs.map (A8 φ)):=rfl
theorem qDY {φ:Nat->Option Nat} {t s:Nat} {es:List (List T)}:Au φ (.sl t s es)=.sl t s es:=rfl
theorem qDZ {t s a b n:Nat} {l:List (Sl Int)} {x:AV}:Au (Aq a b) (.rs t s ((esR l).set n [x]))=.rs t s ((esR l).set n [A8 (Aq a b) x]):=by
 show Aw.rs t s (((esR l).set n [x]).map fun e=>e.map (A8 (Aq a b)))=_
 rw[qCQ fun t=>qG8]
theorem q6c {t s K n:Nat} {l:List (Sl Int)} {x:AV}:Bd K (.rs t s ((esR l).set n [x]))=.rs t s ((esR l).set n [Ae K x]):=by
 show Aw.rs t s (((esR l).set n [x]).map fun e=>e.map (Ae K))=_
 rw[qCQ fun t=>q4h]
theorem qG9 {Q:AX->St->Prop} (c:Bg) (hn:c.nodes.l.length<=1000000) (l:List (Sl Int)) (n:Nat) (hl:n<l.length) (row:Kt) (hrow:∀ q∈row,0<=q.1/\q.1<c.nodes.l.length) (hrl:row.length<=1000000) (m:Nat) (hm:m=l.length) (xs:List T) (ev t48 t49 t50:T) (V:List (List T)) (R:List Int)
  (h0:Q (.exit 2) ⟨[(1,.t (.ip (tC c) 0)),(7,.lp 31 0 0),(8,.t (tI n)),(48,.t t48),(49,.t t49),(50,.t t50),(55,.t (Gn row)),(56,.t (tI row.length)),(57,.t (tI row.length)),(58,.t (tB false))],q83 R++[(44,.rs 33 1 ((esR l).set n [q82 R])),(31,bxN m xs ev),(634,.sl 65 1 V)]⟩) :
  ∀ (j i:Nat) (acc:List Int),j+i=row.length->acc.length<=i->acc++U9 c (row.drop i)=R ->
  run Tryz.prog Γ Sz Q ⟨[(1,.t (.ip (tC c) 0)),(7,.lp 31 0 0),(8,.t (tI n)),(48,.t t48),(49,.t t49),(50,.t t50),(55,.t (Gn row)),(56,.t (tI row.length)),(57,.t (tI i))],q83 acc++[(44,.rs 33 1 ((esR l).set n [q82 acc])),(31,bxN m xs ev),(634,.sl 65 1 V)]⟩
 | 0,i,acc,h,ha,hR=>by
  refine Yf fun K hK=>?_
  have h2:i=row.length:=by omega
  subst h2
  rw[xzs]at hR
  simp only[U9,List.filter_nil,xq3,List.append_nil]at hR
  subst hR
  simp[Gn,Ab]at h0
  simp[Gn,Ab]
  simpa using h0
 | j+1,i,acc,h,ha,hR=>by
  refine Yf fun K hK=>?_
  have h2:i<row.length:=by omega
  rw[xqq h2]at hR
  have hq:=hrow _ (xqj h2)
  have eg:∀ h,(Bo tLn row)[i]'h=tLn row[i]:=fun h=>by simp[Bo]
  generalize row[i]=p at *
  obtain⟨k,pin⟩:=p
  simp only[tLn]at eg
  have hk:=q5Q hq.1 hq.2
  have hk':=q9u hq.1 hq.2
  have hkk:(nd c k).k=Ad c k.toNat:=rfl
  have hcomb:=Z7 (Γ:=Γ) (Ad c k.toNat)
  have hcb:decide (1<=Ad c k.toNat/\Ad c k.toNat<=13)=By (Ad c k.toNat):=rfl
  rw[hcb]at hcomb
  have ih:=fun acc=>qG9 c hn l n hl row hrow hrl m hm xs ev t48 t49 t50 V R h0 j (i+1) acc (by omega)
  simp[Gn,Ab]at ih
  have hget:=fun x=>qJj (x:=x) hl
  have w1:=Jm (i:=i) (by omega)
  by_cases hb:By (Ad c k.toNat)=true
  ·have hR2:(acc++[k])++U9 c (row.drop (i+1))=R:=by rw[<- hR];simp[U9,hb]
   have ih:=ih (acc++[k]) (by simp;omega) hR2
   rw[hb]at hcomb
   by_cases hacc:acc=[]
   ·subst hacc
    simp[q83,q82]at ih
    simp[Gn,Ab,h2,eg,q0N,tC,A9,q83,q82,bxN,hk,hk',hq,Bj,E3,hkk]
    refine A4 hcomb rfl ?_
    simp[-A8,-Au,-Ae,-Bd,hl,hm,hget,q2Q,B8,q6P,Pn,Uw,Jd,qG8,qDV,qDW,qA3,qDX,qDY,qDZ,Yd,Ye,Kq,Xk,q4h,q3q,Vy,q0b,q6c]
    rw[hK,w1]
    simpa[tC,A9,B8,bxN,hm,An]using ih
   ·have hacc2:¬ acc++[k]=[]:=by simp
    have hE:Av acc++[[tI k]]=Av (acc++[k]):=Gy
    simp only[q83,q82,if_neg hacc2]at ih
    simp[Gn,Ab,h2,eg,q0N,tC,A9,q83,q82,bxN,hk,hk',hq,Bj,E3,hkk,hacc]
    refine A4 hcomb rfl ?_
    simp[-A8,-Au,-Ae,-Bd,hl,hm,hget,q2Q,B8,q6P,Pn,Uw,Jd,qG8,qDV,qDW,qA3,qDX,qDY,qDZ,Yd,Ye,Kq,Xk,q4h,q3q,Vy,q0b,q6c,A5,Aa,hacc]
    refine⟨by omega,?_⟩
    rw[hK,w1,hE]
    simpa[tC,A9,B8,bxN,hm]using ih
  ·have hb:By (Ad c k.toNat)=false:=by simpa using hb
   have hR2:acc++U9 c (row.drop (i+1))=R:=by rw[<- hR];simp[U9,hb]
   have ih:=ih acc (by omega) hR2
   rw[hb]at hcomb
   by_cases hacc:acc=[]
   ·subst hacc
    simp[q83,q82]at ih
    simp[Gn,Ab,h2,eg,q0N,tC,A9,q83,q82,bxN,hk,hk',hq,Bj,E3,hkk]
    refine A4 hcomb rfl ?_
    simp[-A8,-Au,-Ae,-Bd,hl,hm,hget,q2Q,B8,q6P,Pn,Uw,Jd,qG8,qDV,qDW,qA3,qDX,qDY,qDZ,Yd,Ye,Kq,Xk,q4h,q3q,Vy,q0b,q6c]
    rw[hK,w1]
    simpa[tC,A9,B8,bxN,hm,An,q6P]using ih
   ·simp only[q83,q82,if_neg hacc]at ih
    simp[Gn,Ab,h2,eg,q0N,tC,A9,q83,q82,bxN,hk,hk',hq,Bj,E3,hkk,hacc]
    refine A4 hcomb rfl ?_
    simp[-A8,-Au,-Ae,-Bd,hl,hm,hget,q2Q,B8,q6P,Pn,Uw,Jd,qG8,qDV,qDW,qA3,qDX,qDY,qDZ,Yd,Ye,Kq,Xk,q4h,q3q,Vy,q0b,q6c]
    rw[hK,w1]
    simpa[tC,A9,B8,bxN,hm]using ih
theorem qDa {l:List (Sl Int)} {n:Nat} {x:Sl Int}:(esR l).set n [.t (B8 x)]=esR (l.set n x):=by simp[esR,List.map_set]
theorem qGA {t s K n:Nat} {l:List (Sl Int)} {x:AV} {r:Aw}:Ej K r (.rs t s ((esR l).set n [x]))=.rs t s ((esR l).set n [C6 K r x]):=by
 show Aw.rs t s (((esR l).set n [x]).map fun e=>e.map (C6 K r))=_
 rw[qCQ fun t=>qBD]
theorem qCR {K:Nat} {r:Aw} {cs:List AV}:Ej K r (.bx cs)=.bx (cs.map (C6 K r)):=rfl
theorem qCS {K t s:Nat} {r:Aw} {es:List (List T)}:Ej K r (.sl t s es)=.sl t s es:=rfl
theorem qDb {K t len:Nat} {l:List Int} (h:l.length=len):C6 K (.sl t 1 (Av l)) (.ls K 0 len none)=.t (.sl (Av l) none none):=by
 subst h
 have:(Av l).take l.length=Av l:=by rw[<- A5 (f:=tI) (l:=l)];exact xzn
 simp[C6,frz1,frz0,Aj,A0,this]
def q0d (c:Bg) (i:Nat):List (Sl Int):=(W2 c).take i++List.replicate ((As c).length-i) q6P
theorem q84 {c:Bg} {i:Nat} (h:i<=(As c).length):(q0d c i).length=(As c).length:=by
 have hr:(W2 c).length=(As c).length:=by simp[W2]
 unfold q0d
 rw[xq6,xzf,List.length_replicate,hr];omega
theorem qBG {c:Bg} {i:Nat} (h:i<(As c).length):(q0d c i)[i]? = some q6P:=by
 have h2:((W2 c).take i).length=i:=by rw[xzf,show(W2 c).length=(As c).length by simp[W2]];omega
 rw[q0d,xze (by rw[h2];exact xzo _),h2,xz3,if_pos (by omega)]
theorem qGB {c:Bg} {i:Nat} (h:i<(As c).length):(q0d c i).set i (rdS (U9 c (As c)[i]))=q0d c (i+1):=by
 have hr:(W2 c).length=(As c).length:=by simp[W2]
 have h2:((W2 c).take i).length=i:=by rw[xzf,hr];omega
 have h3:(W2 c)[i]? = some (rdS (U9 c (As c)[i])):=by simp[W2,h]
 refine List.ext_getElem? fun j=>?_
 rw[xzb,q84 (by omega)]
 by_cases hj:i=j
 ·subst hj
  rw[if_pos rfl,if_pos h]
  unfold q0d
  rw[xzd (by rw[xzf,hr];omega),xq0,if_pos (by omega),h3]
 ·rw[if_neg hj]
  unfold q0d
  by_cases hlt:j<i
  ·rw[xzd (by omega),xzd (by rw[xzf,hr];omega),xq0,xq0,if_pos hlt,if_pos (by omega)]
  ·rw[xze (by omega),xze (by rw[xzf,hr];omega),h2]
   have h4:((W2 c).take (i+1)).length=i+1:=by rw[xzf,hr];omega
   rw[h4]
   simp only[xz3]
   by_cases h5:j<(As c).length
   ·rw[if_pos (by omega),if_pos (by omega)]
   ·rw[if_neg (by omega),if_neg (by omega)]
theorem qGC {Q:AX->St->Prop} (c:Bg) (hn:c.nodes.l.length<=1000000) (hrow:∀ r∈As c,r.length<=1000000/\∀ q∈r,0<=q.1/\q.1<c.nodes.l.length) (xs:List T) (ev:T) (V:List (List T))
  (h0:Q (.exit 0) ⟨[(1,.t (.ip (tC c) 0)),(7,.lp 31 0 0),(48,.t (q10 (As c))),(49,.t (tI (As c).length)),(50,.t (tI (As c).length)),(51,.t (tB false))],[(44,.rs 33 1 (esR (W2 c))),(31,bxN (As c).length xs ev),(634,.sl 65 1 V)]⟩) :
  ∀ (j i:Nat),j+i=(As c).length ->
  run Tryz.prog Γ T0 Q ⟨[(1,.t (.ip (tC c) 0)),(7,.lp 31 0 0),(48,.t (q10 (As c))),(49,.t (tI (As c).length)),(50,.t (tI i))],[(44,.rs 33 1 (esR (q0d c i))),(31,bxN (As c).length xs ev),(634,.sl 65 1 V)]⟩
 | 0,i,h=>by
  refine Yg fun K hK=>?_
  have h2:i=(As c).length:=by omega
  subst h2
  have h3:q0d c (As c).length=W2 c:=by
   have:(W2 c).length=(As c).length:=by simp[W2]
   simp[q0d,<- this]
  rw[h3]
  simp[q10,A5]at h0
  simp[q10,A5]
  simpa using h0
 | j+1,i,h=>by
  refine Yg fun K hK=>?_
  have h2:i<(As c).length:=by omega
  have hr:=hrow _ (xqj h2)
  have e:=gE (f:=Gn) ([]:Kt) h2
  have e':=gE' (f:=Gn) ([]:Kt) h2
  have hgd:(As c).getD i []=(As c)[i]:=by simp[xqe,h2]
  rw[hgd]at e e'
  have hset:=qGB h2
  have hself:(esR (q0d c i)).set i [.t (B8 q6P)]=esR (q0d c i):=by
   rw[qDa]
   congr 1
   refine List.ext_getElem? fun k=>?_
   rw[xzb]
   split
   ·rename_i hk
    subst hk
    rw[qBG h2,if_pos (by rw[q84 (by omega)];exact h2)]
   ·rfl
  have hln:=q84 (c:=c) (i:=i) (by omega)
  generalize hRow:(As c)[i]=row at *
  have hl:=fun Q g0=>qG9 (Γ:=Γ) (Q:=Q) c hn (q0d c i) i (by rw[hln];exact h2) row hr.2 hr.1 (As c).length hln.symm xs ev (q10 (As c)) (tI (As c).length) (tI i) V (U9 c row) g0 row.length 0 [] (by omega) (by simp) (by rw[xzt,List.nil_append])
  have ih:=qGC c hn hrow xs ev V h0 j (i+1) (by omega)
  rw[<- hset]at ih
  have w1:=Jm (i:=i) (by have:=H5 c;omega)
  have hrw:An Gn (As c)=(As c).map fun r=>[Gn r]:=rfl
  simp[q10,Gn,q83,q82,hself]at hl
  simp[q10]at ih
  simp[q10,A5,Aa,h2,e,e',Gn,Ab]
  refine hl _ ?_
  by_cases hR:U9 c row=[]
  ·simp only[rdS,hR,if_true]at ih
   have hself2:(q0d c i).set i q6P=q0d c i:=by
    refine List.ext_getElem? fun k=>?_
    rw[xzb]
    split
    ·rename_i hk
     subst hk
     rw[qBG h2,if_pos (by rw[hln];exact h2)]
    ·rfl
   rw[hself2]at ih
   simp[-A8,-Au,-Ae,-Bd,St.freeze,del,Aw.closed,qGA,qCR,qCS,qBD,qDb,q3s,q80,qCP,bxN,hR,hself]
   rw[hK,w1]
   simpa[bxN]using ih
  ·simp only[rdS,hR,if_false]at ih
   simp[-A8,-Au,-Ae,-Bd,St.freeze,del,Aw.closed,qGA,qCR,qCS,qBD,qDb,q3s,q80,qCP,bxN,hR]
   rw[hK,w1]
   have hx:=qDa (l:=q0d c i) (n:=i) (x:=⟨U9 c row,none,none⟩)
   simp only[B8]at hx
   rw[hx]
   simpa[bxN]using ih
theorem qCT {t s:Nat} {l:List (Sl Int)}:Aw.closed (.rs t s (esR l))=true:=by
 simp[Aw.closed,esR]
theorem qHb {t s K len:Nat} {l:List (Sl Int)} (h:l.length=len):C6 K (.rs t s (esR l)) (.ls K 0 len none)=.t (qFg ⟨l,none,none⟩):=by
 subst h
 have e:(esR l).take l.length=esR l:=by rw[<- q2Q];exact xzn
 have h2:∀ l:List (Sl Int),Ag ((esR l).map fun e=>Ag (e.map (Aj [(K,.rs t s (esR l))] 3)))=some (An B8 l):=fun l=>by
  have h3:∀ (m:List (Sl Int)) (hp:List (Nat×Aw)),Ag ((esR m).map fun e=>Ag (e.map (Aj hp 3)))=some (An B8 m):=fun m hp=>by
   induction m with
   | nil=>rfl
   | cons x m ih =>
    simp only[esR,xqm,An]at ih ⊢
    simp only[Ag,Aj,xq3,xql]
    rw[ih];rfl
  exact h3 l _
 simp only[C6,frz1,frz0,if_true,Aj,A0,xzt,e,h2,xql,qFg]
theorem qLd (hΓ:GOk Γ) (c:Bg) (hc:COk c) (hk:qFk c) (hcir:CirOk c) (ha:∀ s∈c.names.l,∀ b∈s,b<128) (hn:c.nodes.l.length<=19) (h1:D3 c=0) (h2:Ya c (Nb c)=0) :
  Bf Tryz.prog Γ 11 [] [.t (.agg (tC c))] (.tu [.lp 31 0 0,.t (tI 0)]) [(31,.bx (Ax (Ks c) 634 c.nodes.l.length 0)),(634,.sl 65 1 (B7 (C9 c (Nb c).inn.l (Nb c).st.l)))]:=by
 refine Ee q81 rfl ?_
 have e1:=qCI (Γ:=Γ) c hc (by have:=Rw c;omega) (by have:=Ld c;omega)
 have e2:=qJi hΓ c hc hn (Nb c) (by simp[Nb];have:=Rw c;have:=Ld c;omega) (by simp[Nb]) h1 h2
 have e3:=qEO (Γ:=Γ) c hk
 have e4:=Y9 (Γ:=Γ) c hc
 have e5:=Tt (Γ:=Γ) c hc
 have e6:=q5u (Γ:=Γ) hΓ c hcir ha
 have e7:=q5q (Γ:=Γ) c (by omega) (fun x hx=>((q7g hc h1).inn x hx).1)
 simp[Nb,tP,tV]at e2
 simp[q3A,tC,A9,Ah,Ap,B8]
 refine⟨_,_,rfl,.inl e1,?_⟩
 simp[tC,A9,Ah,Ap,B8]at e2
 simp
 refine⟨_,_,e2,?_⟩
 simp[tVs]
 refine B6 e3 rfl ?_
 simp[tC,A9,Ah,Ap,B8]
 refine B6 e4 rfl ?_
 simp
 refine B6 e5 rfl ?_
 simp
 refine A4 e6 rfl ?_
 simp[h1]
 have hf:=H5 c
 have hrow:∀ r∈As c,r.length<=1000000/\∀ q∈r,0<=q.1/\q.1<c.nodes.l.length:=fun r hr=>by
  have hi:=(q7g hc h1).inn
  have hb:=q3Z c (by omega) (fun x hx=>(hi x hx).1) r hr
  refine⟨by omega,fun q hq=>?_⟩
  obtain⟨i,h5,h6⟩:=Rn c r hr q hq
  omega
 have hl:=fun Q h0=>qGC (Γ:=Γ) (Q:=Q) c (by omega) hrow [A9 (Xj c).nodes,Ah (Xj c).names,Ap (Xj c).mems,B8 (Xj c).outs,B8 ⟨Be c,some (Be c).length,none⟩,B8 ⟨Ba c,some (Ba c).length,none⟩,B8 ⟨(H6 c).2.out,none,none⟩] (tI 0) (B7 (C9 c (List.replicate (Be c).length 2) (List.replicate (Ba c).length 2))) h0 (As c).length 0 (by omega)
 have h00:esR (q0d c 0)=List.replicate c.nodes.l.length [AV.t (T.sl [] (some 0) (some true))]:=by
  simp[q0d,esR,B8,q6P,hf,An]
 rw[h00,hf]at hl
 simp[bxN,tC,A9,Ah,Ap,B8,q10,hf]at hl
 rw[Ab]
 refine⟨by omega,?_⟩
 refine B6 e7 rfl ?_
 simp[q10,A5,hf]
 refine hl _ ?_
 have hrl:(W2 c).length=c.nodes.l.length:=by simp[W2,hf]
 simp[St.freeze,del,qCT,qHb hrl,qCR,qCS,qBD,q3s,q80,q3B]
 simp[Ax,Ks,Nb,A9,Ah,Ap,B8,An]
end Go.Lg
namespace Go.Lg
open Go Go.Proofs
def Ql (wl:List (Nat×List Int)) (a:Nat):List Int:=(A0 wl a).getD []
theorem qBH {lv a:Nat} {k:Int} {wl:List (Nat×List Int)}:Ql (Rx lv k wl) a=if a=lv then Ql wl lv++[k]else Ql wl a:=by
 unfold Ql
 rw[P5]
 split<;>rfl
theorem qGD {lv a:Nat} {wl:List (Nat×List Int)} (h:(wl.map (·.1)).Nodup):Ql (Kr lv wl) a=if a=lv then[]else Ql wl a:=by
 unfold Ql
 rw[Zo h]
 split<;>rfl
def qd (W:WS) (k:Int):Bool:=W.q.getD k.toNat true
structure QI (D:C5) (n:Nat) (P:Int->Prop) (ℓ:Int) (W:WS):Prop where
 ql:W.q.length=n
 kd:(W.wl.map (·.1)).Nodup
 wk:∀ a k,k∈Ql W.wl a->(0<=k/\k<(n:Int))/\P k/\qd W k=true/\Zw D k=a/\ℓ<a
 nd:∀ a,(Ql W.wl a).Nodup
theorem q85 {D:C5} {n:Nat} {W:WS} {k j:Int} (hq:W.q.length=n) (hk:0<=k/\k<(n:Int)) (hj:0<=j/\j<(n:Int)):qd (Ff D W k) j=(qd W j||decide (j=k)):=by
 unfold Ff
 split
 ·rename_i h
  by_cases e:j=k
  ·subst e;unfold qd;rw[h];rfl
  ·simp[e]
 ·unfold qd
  simp only[xqe,xzb]
  by_cases e:j=k
  ·subst e
   have:j.toNat<W.q.length:=by omega
   simp[this]
  ·have:¬ k.toNat=j.toNat:=by omega
   simp[this,e]
theorem q9R {D:C5} {W:WS} {k:Int}:(Ff D W k).nets=W.nets/\(Ff D W k).ch=W.ch/\(Ff D W k).ev=W.ev:=by
 unfold Ff
 split<;>exact⟨rfl,rfl,rfl⟩
theorem qJk {D:C5} {n:Nat} {P:Int->Prop} {ℓ:Int} {W:WS} (h:QI D n P ℓ W) {k:Int} (hk:0<=k/\k<(n:Int)) (hp:P k) (hl:ℓ<Zw D k) :
  QI D n P ℓ (Ff D W k)/\∀ a j,j∈Ql (Ff D W k).wl a↔(j∈Ql W.wl a\/(j=k/\qd W k=false/\a=Zw D k)):=by
 by_cases hq:qd W k=true
 ·have e:Ff D W k=W:=by unfold Ff;unfold qd at hq;rw[if_pos hq]
  rw[e]
  refine⟨h,fun a j=>⟨.inl,?_⟩⟩
  rintro(h1|⟨_,h2,_⟩)
  ·exact h1
  ·rw[hq]at h2;cases h2
 ·have hq2:qd W k=false:=by simpa using hq
  have e:Ff D W k={ W with q:=W.q.set k.toNat true,wl:=Rx (Zw D k) k W.wl }:=by
   unfold Ff;unfold qd at hq;rw[if_neg hq]
  have hmem:∀ a j,j∈Ql (Ff D W k).wl a↔(j∈Ql W.wl a\/(j=k/\qd W k=false/\a=Zw D k)):=fun a j=>by
   rw[e]
   simp only[qBH]
   split
   ·rename_i ha
    subst ha
    simp only[xzg,xzh]
    constructor
    ·rintro(h1|h1)
     ·exact .inl h1
     ·exact .inr ⟨h1,hq2,trivial⟩
    ·rintro(h1|⟨h1,_,_⟩)
     ·exact .inl h1
     ·exact .inr h1
   ·rename_i ha
    constructor
    ·exact .inl
    ·rintro(h1|⟨_,_,h1⟩)
     ·exact h1
     ·exact absurd h1 ha
  refine⟨⟨?_,?_,fun a j hj=>?_,fun a=>?_⟩,hmem⟩
  ·rw[e];simpa using h.ql
  ·rw[e]
   simp only
   rw[q5T]
   split
   ·rename_i hn
    rw[List.nodup_append]
    refine⟨h.kd,by simp,fun a ha b hb=>?_⟩
    simp at hb;subst hb
    obtain⟨p,hp,rfl⟩:=xqy.1 ha
    exact Np hn p hp
   ·exact h.kd
  ·rcases(hmem a j).1 hj with h1|⟨rfl,_,h1⟩
   ·obtain⟨a1,a2,a3,a4,a5⟩:=h.wk a j h1
    refine⟨a1,a2,?_,a4,a5⟩
    rw[q85 h.ql hk a1,a3];rfl
   ·refine⟨hk,hp,?_,h1.symm,by rw[h1];exact hl⟩
    rw[q85 h.ql hk hk];simp
  ·rw[e]
   simp only[qBH]
   split
   ·rw[List.nodup_append]
    refine⟨h.nd _,by simp,fun x hx y hy=>?_⟩
    simp at hy;subst hy
    intro e2
    subst e2
    have:=(h.wk _ _ hx).2.2.1
    rw[hq2]at this;cases this
   ·exact h.nd a
theorem qDc {D:C5} {n:Nat} {P:Int->Prop} {ℓ:Int}:∀ (l:List Int) (W:WS),QI D n P ℓ W->(∀ k∈l,(0<=k/\k<(n:Int))/\P k/\ℓ<Zw D k) ->
  QI D n P ℓ (l.foldl (Ff D) W)/\(∀ a j,j∈Ql (l.foldl (Ff D) W).wl a↔(j∈Ql W.wl a\/(j∈l/\qd W j=false/\a=Zw D j))) /\
  (∀ j,0<=j/\j<(n:Int)->qd (l.foldl (Ff D) W) j=(qd W j||decide (j∈l)))/\(l.foldl (Ff D) W).nets=W.nets/\(l.foldl (Ff D) W).ch=W.ch/\(l.foldl (Ff D) W).ev=W.ev
 | [],W,h,_=>⟨h,fun a j=>by simp,fun j _=>by simp,rfl,rfl,rfl⟩
 | k::l,W,h,hl=>by
  obtain⟨b1,b2,b3⟩:=hl k xqh
  obtain⟨h1,h2⟩:=qJk h b1 b2 b3
  obtain⟨c1,c2,c3,c4,c5,c6⟩:=qDc l (Ff D W k) h1 fun j hj=>hl j (xqf _ hj)
  obtain⟨d1,d2,d3⟩:=q9R (D:=D) (W:=W) (k:=k)
  refine⟨c1,fun a j=>?_,fun j hj=>?_,c4.trans d1,c5.trans d2,c6.trans d3⟩
  ·simp only[xz4]
   rw[c2,h2]
   constructor
   ·rintro((e|⟨rfl,e1,e2⟩)|⟨e1,e2,e3⟩)
    ·exact .inl e
    ·exact .inr ⟨xqh,e1,e2⟩
    ·have hb:=(hl j (xqf _ e1)).1
     rw[q85 h.ql b1 hb,Bool.or_eq_false_iff]at e2
     exact .inr ⟨xqf _ e1,e2.1,e3⟩
   ·rintro(e|⟨e1,e2,e3⟩)
    ·exact .inl (.inl e)
    ·rcases xqv.1 e1 with rfl|e1
     ·exact .inl (.inr ⟨rfl,e2,e3⟩)
     ·by_cases hjk:j=k
      ·subst hjk;exact .inl (.inr ⟨rfl,e2,e3⟩)
      ·have hb:=(hl j (xqf _ e1)).1
       refine .inr ⟨e1,?_,e3⟩
       rw[q85 h.ql b1 hb,e2];simp[hjk]
  ·simp only[xz4]
   rw[c3 j hj,q85 h.ql b1 hj]
   simp only[xqv,Bool.or_assoc]
   congr 1
   by_cases e1:j=k<;>by_cases e2:j∈l<;>simp[e1,e2]
structure EvD (c:Bg) (D:C5) (n:Nat):Prop where
 cn:c.nodes.l.length=n
 h:D3 c=0
 k:∀ x:Int,0<=x/\x<(n:Int)->(nd D.c x).k=Ad c x.toNat/\(nd D.c x).inn.l=Bz c x.toNat
 rd:∀ m k:Int,0<=m/\m<(n:Int)->(k∈(D.rdr.l.getD m.toNat Sl.z).l↔(0<=k/\k<(n:Int))/\By (Ad c k.toNat)=true/\m∈Bz c k.toNat)
 lv:∀ k:Int,0<=k/\k<(n:Int)->(Zw D k:Int)=G8 c k.toNat
def Yt (c:Bg) (k:Int):Prop:=By (Ad c k.toNat)=true
structure EvI (c:Bg) (D:C5) (n:Nat) (N0:List Int) (ℓ:Int) (rest:List Int) (W:WS):Prop where
 qi:QI D n (Yt c) ℓ W
 nl:W.nets.length=n
 rk:∀ k∈rest,(0<=k/\k<(n:Int))/\Yt c k/\qd W k=true/\(Zw D k:Int)=ℓ
 rn:rest.Nodup
 un:∀ i:Int,0<=i/\i<(n:Int)->i∉W.ch->W.nets.getD i.toNat 0=N0.getD i.toNat 0
 cg:∀ i∈W.ch,(0<=i/\i<(n:Int))/\W.nets.getD i.toNat 0≠N0.getD i.toNat 0
 cn:W.ch.Nodup
 nq:∀ k:Int,0<=k/\k<(n:Int)->Yt c k->qd W k=false->∀ m∈Bz c k.toNat,m∉W.ch
 qn:∀ k:Int,0<=k/\k<(n:Int)->qd W k=true->Yt c k/\∃ m∈Bz c k.toNat,m∈W.ch
 fr:∀ k:Int,0<=k/\k<(n:Int)->Yt c k->k∈W.ch->qd W k=true/\k∉rest/\∀ a,k∉Ql W.wl a
 dn:∀ k:Int,0<=k/\k<(n:Int)->Yt c k->qd W k=true->k∉rest->(∀ a,k∉Ql W.wl a)->W.nets.getD k.toNat 0=Ih (Ad c k.toNat) (G9 c W.nets k.toNat)/\(Zw D k:Int)<=ℓ
theorem qCU {c:Bg} {n:Nat} {nets:List Int} {x v:Int} {i:Nat} (hnl:nets.length=n) (hx:0<=x/\x<(n:Int)) (hin:∀ p∈Bz c i,0<=p) (h:x∉Bz c i):G9 c (nets.set x.toNat v) i=G9 c nets i:=by
 unfold G9
 refine xq1 fun p hp=>?_
 have h0:=hin p hp
 have:¬ p.toNat=x.toNat:=fun e=>h (by rw[show x=p by omega];exact hp)
 rw[Fj (by omega),if_neg this]
theorem q86 {c:Bg} (h:D3 c=0) {k m:Int} (hk:0<=k/\k<(c.nodes.l.length:Int)) (hc:Yt c k) (hm:m∈Bz c k.toNat):(0<=m/\m<(c.nodes.l.length:Int))/\G8 c m.toNat<G8 c k.toNat:=(q3h h).2.2 k.toNat (by omega) hc m hm
theorem qGE {c:Bg} {D:C5} {n:Nat} {N0:List Int} {ℓ:Int} {rest rest0:List Int} {W:WS} (hD:EvD c D n) (h:EvI c D n N0 ℓ rest0 W) {x v:Int} (hx:0<=x/\x<(n:Int)) (hlx:ℓ<=G8 c x.toNat)
  (hr:(Yt c x/\rest0=x::rest/\v=Ih (Ad c x.toNat) (G9 c W.nets x.toNat))\/(¬ Yt c x/\rest0=rest/\x∉W.ch)):EvI c D n N0 ℓ rest (Gv D W x v):=by
 have hl:∀ k:Int,0<=k/\k<(n:Int)->Yt c k->∀ m∈Bz c k.toNat,(0<=m/\m<(c.nodes.l.length:Int))/\G8 c m.toNat<G8 c k.toNat:=fun k hk hc m hm=>q86 hD.h (by rw[hD.cn];exact hk) hc hm
 have hsub:∀ k∈rest,k∈rest0:=fun k hk=>by
  rcases hr with⟨_,e,_⟩|⟨_,e,_⟩
  ·rw[e];exact xqf _ hk
  ·rw[e];exact hk
 have hrn:rest.Nodup:=by
  have:=h.rn
  rcases hr with⟨_,e,_⟩|⟨_,e,_⟩
  ·rw[e]at this;exact(xzj.1 this).2
  ·rw[e]at this;exact this
 have hor:∀ k,Yt c k->k∉rest->k=x\/k∉rest0:=fun k hk hkr=>by
  rcases hr with⟨_,e,_⟩|⟨_,e,_⟩
  ·rw[e]
   by_cases hkx:k=x
   ·exact .inl hkx
   ·exact .inr fun hm=>(xqv.1 hm).elim hkx hkr
  ·rw[e];exact .inr hkr
 have hxx:Yt c x->(qd W x=true/\(Zw D x:Int)=ℓ/\x∉rest/\∀ a,x∉Ql W.wl a):=fun hc=>by
  rcases hr with⟨_,e,_⟩|⟨e,_⟩
  ·obtain⟨_,_,r3,r4⟩:=h.rk x (by rw[e];exact xqh)
   have:=h.rn
   rw[e]at this
   refine⟨r3,r4,(xzj.1 this).1,fun a ha=>?_⟩
   have:=h.qi.wk a x ha
   omega
  ·exact absurd hc e
 have hxe:Yt c x->v=Ih (Ad c x.toNat) (G9 c W.nets x.toNat):=fun hc=>by
  rcases hr with⟨_,_,e⟩|⟨e,_⟩
  ·exact e
  ·exact absurd hc e
 have hxch:x∉W.ch:=by
  rcases hr with⟨hc,e,_⟩|⟨_,_,e⟩
  ·intro hm
   have:=(h.fr x hx hc hm).2.1
   exact this (by rw[e];exact xqh)
  ·exact e
 by_cases hv:W.nets.getD x.toNat 0=v
 ·have e:Gv D W x v=W:=by unfold Gv;rw[if_pos hv]
  rw[e]
  refine⟨h.qi,h.nl,fun k hk=>h.rk k (hsub k hk),hrn,h.un,h.cg,h.cn,h.nq,h.qn,fun k hk hc hm=>?_,fun k hk hc hq hkr hw=>?_⟩
  ·obtain⟨f1,f2,f3⟩:=h.fr k hk hc hm
   exact⟨f1,fun hm2=>f2 (hsub k hm2),f3⟩
  ·rcases hor k hc hkr with rfl|hk0
   ·exact⟨hv.trans (hxe hc),by rw[(hxx hc).2.1];omega⟩
   ·exact h.dn k hk hc hq hk0 hw
 ·have e:Gv D W x v=(D.rdr.l.getD x.toNat Sl.z).l.foldl (Ff D) { W with nets:=W.nets.set x.toNat v,ch:=W.ch++[x] }:=by unfold Gv;rw[if_neg hv]
  have hrd:=fun k=>hD.rd x k hx
  generalize (D.rdr.l.getD x.toNat Sl.z).l=l at hrd e
  have hQ1:QI D n (Yt c) ℓ { W with nets:=W.nets.set x.toNat v,ch:=W.ch++[x] }:=⟨h.qi.ql,h.qi.kd,h.qi.wk,h.qi.nd⟩
  obtain⟨q1,q2,q3,q4,q5,q6⟩:=qDc l _ hQ1 fun k hk=>by
   obtain⟨a1,a2,a3⟩:=(hrd k).1 hk
   refine⟨a1,a2,?_⟩
   have:=(hl k a1 a2 x a3).2
   have:=hD.lv k a1
   omega
  rw[<- e]at q1 q2 q3 q4 q5 q6
  have hqd:∀ j,qd { W with nets:=W.nets.set x.toNat v,ch:=W.ch++[x] } j=qd W j:=fun j=>rfl
  simp only[hqd]at q2 q3
  have hg:∀ i:Int,0<=i/\i<(n:Int)->(Gv D W x v).nets.getD i.toNat 0=if i=x then v else W.nets.getD i.toNat 0:=fun i hi=>by
   rw[q4]
   simp only
   rw[Fj (by have:=h.nl;omega)]
   by_cases hix:i=x
   ·rw[if_pos (by rw[hix]),if_pos hix]
   ·rw[if_neg (by omega),if_neg hix]
  have hch:∀ i,i∈(Gv D W x v).ch↔i∈W.ch\/i=x:=fun i=>by rw[q5];simp
  have hiv:∀ k:Int,0<=k/\k<(n:Int)->Yt c k->x∉Bz c k.toNat->G9 c (Gv D W x v).nets k.toNat=G9 c W.nets k.toNat:=fun k hk hc hxk=>by
   rw[q4]
   exact qCU h.nl hx (fun p hp=>(hl k hk hc p hp).1.1) hxk
  refine⟨q1,?_,fun k hk=>?_,hrn,fun i hi hic=>?_,fun i hi=>?_,?_,fun k hk hc hq m hm=>?_,fun k hk hq=>?_,fun k hk hc hm=>?_,fun k hk hc hq hkr hw=>?_⟩
  ·rw[q4];simpa using h.nl
  ·obtain⟨r1,r2,r3,r4⟩:=h.rk k (hsub k hk)
   exact⟨r1,r2,by rw[q3 k r1,r3];rfl,r4⟩
  ·rw[hch,not_or]at hic
   rw[hg i hi,if_neg hic.2]
   exact h.un i hi hic.1
  ·rcases(hch i).1 hi with hi|rfl
   ·obtain⟨c1,c2⟩:=h.cg i hi
    have:i≠x:=fun e=>hxch (e ▸ hi)
    exact⟨c1,by rw[hg i c1,if_neg this];exact c2⟩
   ·refine⟨hx,?_⟩
    rw[hg i hx,if_pos rfl,<- h.un i hx hxch]
    exact fun e=>hv e.symm
  ·rw[q5,List.nodup_append]
   refine⟨h.cn,by simp,fun a ha b hb=>?_⟩
   simp at hb;subst hb
   exact fun e=>hxch (e ▸ ha)
  ·rw[q3 k hk,Bool.or_eq_false_iff]at hq
   rw[hch]
   rintro(hm2|rfl)
   ·exact h.nq k hk hc hq.1 m hm hm2
   ·have:=hq.2
    rw[decide_eq_false_iff_not]at this
    exact this ((hrd k).2 ⟨hk,hc,hm⟩)
  ·rw[q3 k hk,xzz]at hq
   rcases hq with hq|hq
   ·obtain⟨a1,m,a2,a3⟩:=h.qn k hk hq
    exact⟨a1,m,a2,(hch m).2 (.inl a3)⟩
   ·obtain⟨a1,a2,a3⟩:=(hrd k).1 (of_decide_eq_true hq)
    exact⟨a2,x,a3,(hch x).2 (.inr rfl)⟩
  ·rcases(hch k).1 hm with hm|rfl
   ·obtain⟨f1,f2,f3⟩:=h.fr k hk hc hm
    refine⟨by rw[q3 k hk,f1];rfl,fun h2=>f2 (hsub k h2),fun a ha=>?_⟩
    rcases(q2 a k).1 ha with h2|⟨_,h2,_⟩
    ·exact f3 a h2
    ·rw[f1]at h2;cases h2
   ·obtain⟨f1,f2,f3,f4⟩:=hxx hc
    refine⟨by rw[q3 k hk,f1];rfl,f3,fun a ha=>?_⟩
    rcases(q2 a k).1 ha with h2|⟨_,h2,_⟩
    ·exact f4 a h2
    ·rw[f1]at h2;cases h2
  ·have hw0:∀ a,k∉Ql W.wl a:=fun a ha=>hw a ((q2 a k).2 (.inl ha))
   have hq0:qd W k=true:=by
    cases hq1:qd W k with
    | true=>rfl
    | false =>
     rw[q3 k hk,hq1,Bool.false_or]at hq
     exact absurd ((q2 (Zw D k) k).2 (.inr ⟨of_decide_eq_true hq,hq1,rfl⟩)) (hw _)
   rcases hor k hc hkr with rfl|hk0
   ·have hself:k∉Bz c k.toNat:=fun hm=>by have:=(hl k hk hc k hm).2;omega
    rw[hg k hk,if_pos rfl,hiv k hk hc hself]
    exact⟨hxe hc,by rw[(hxx hc).2.1];omega⟩
   ·obtain⟨d1,d2⟩:=h.dn k hk hc hq0 hk0 hw0
    have hxk:x∉Bz c k.toNat:=fun hm=>by
     have:=(hl k hk hc x hm).2
     have:=hD.lv k hk
     omega
    have hkx:k≠x:=fun e=>by
     subst e
     rcases hr with⟨_,e2,_⟩|⟨e2,_⟩
     ·exact hk0 (by rw[e2];exact xqh)
     ·exact e2 hc
    rw[hg k hk,if_neg hkx,hiv k hk hc hxk]
    exact⟨d1,d2⟩
theorem EvI.ev {c:Bg} {D:C5} {n:Nat} {N0:List Int} {ℓ:Int} {rest:List Int} {W:WS} (h:EvI c D n N0 ℓ rest W) (e:Int):EvI c D n N0 ℓ rest { W with ev:=e } :=
 ⟨⟨h.qi.ql,h.qi.kd,h.qi.wk,h.qi.nd⟩,h.nl,h.rk,h.rn,h.un,h.cg,h.cn,h.nq,h.qn,h.fr,h.dn⟩
def qHc (c:Bg) (n:Nat) (A B:List Int):Prop:=∀ i:Int,0<=i/\i<(n:Int)->¬ Yt c i->A.getD i.toNat 0=B.getD i.toNat 0
theorem qHd {c:Bg} {D:C5} {n:Nat} {N0:List Int} {ℓ:Int} {x:Int} {rest:List Int} {W:WS} (hD:EvD c D n) (h:EvI c D n N0 ℓ (x::rest) W) :
  EvI c D n N0 ℓ rest (Lm D W x)/\qHc c n (Lm D W x).nets W.nets/\(Lm D W x).ev=W.ev+1:=by
 obtain⟨hx,hc,_,hl⟩:=h.rk x xqh
 obtain⟨k1,k2⟩:=hD.k x hx
 have hv:Ih (nd D.c x).k (F5 W.nets (nd D.c x).inn.l)=Ih (Ad c x.toNat) (G9 c W.nets x.toNat):=by rw[k1,k2];rfl
 have hf:=q5Y (D:=D) (W:={ W with ev:=W.ev+1 }) (x:=x) (v:=Ih (nd D.c x).k (F5 W.nets (nd D.c x).inn.l))
 refine⟨?_,fun i hi hic=>?_,hf.1⟩
 ·refine qGE hD (h.ev (W.ev+1)) hx ?_ (.inl ⟨hc,rfl,hv⟩)
  have:=hD.lv x hx
  omega
 ·unfold Lm
  rcases hf.2.1 with e|e
  ·rw[e]
  ·rw[e]
   simp only
   rw[Fj (by have:=h.nl;omega),if_neg]
   intro e2
   have:i=x:=by omega
   exact hic (this ▸ hc)
theorem qDd {c:Bg} {D:C5} {n:Nat} {N0:List Int} {ℓ:Int} (hD:EvD c D n):∀ (l:List Int) (W:WS),EvI c D n N0 ℓ l W->EvI c D n N0 ℓ [] (Qz D W l)/\qHc c n (Qz D W l).nets W.nets/\(Qz D W l).ev=W.ev+l.length
 | [],W,h=>⟨h,fun i _ _=>rfl,by simp[Qz]⟩
 | x::l,W,h=>by
  obtain⟨a1,a2,a3⟩:=qHd hD h
  obtain⟨b1,b2,b3⟩:=qDd hD l (Lm D W x) a1
  refine⟨b1,fun i hi hc=>(b2 i hi hc).trans (a2 i hi hc),?_⟩
  show(Qz D (Lm D W x) l).ev=_
  rw[b3,a3,xq8];omega
theorem qHe {c:Bg} {D:C5} {n m:Nat} {N0:List Int} {ℓ:Int} (hD:EvD c D n) (hO:DOk D n) {W:WS} (hL:LOk D n m W) (h:EvI c D n N0 ℓ [] W) (hne:W.wl≠[]) :
  ∃ ℓ',EvI c D n N0 ℓ' [] (R7 D n W)/\qHc c n (R7 D n W).nets W.nets/\(R7 D n W).ev+tot (R7 D n W)=W.ev+tot W:=by
 obtain⟨l,s1,s2,s3,s4,s5,s6⟩:=q7z hO hL hne
 have hg:Ql W.wl (J9 n W.wl)=l:=by unfold Ql;rw[s1];rfl
 have hlt:∀ k∈l,ℓ<J9 n W.wl:=fun k hk=>(h.qi.wk (J9 n W.wl) k (by rw[hg];exact hk)).2.2.2.2
 have hlo:ℓ<J9 n W.wl:=by
  match l,s2 with
  | k::l,_=>exact hlt k xqh
 have hmin:∀ a k,k∈Ql W.wl a->J9 n W.wl<=a:=fun a k hk=>by
  unfold Ql at hk
  cases hl:A0 W.wl a with
  | none=>rw[hl]at hk;cases hk
  | some q=>exact(q4j (n:=n)).2 _ (Ic hl)
 have hdel:=fun a=>qGD (lv:=J9 n W.wl) (a:=a) h.qi.kd
 have h1:EvI c D n N0 (J9 n W.wl) l { W with wl:=Kr (J9 n W.wl) W.wl }:=by
  refine⟨⟨h.qi.ql,(U7.del ⟨fun p hp=>(hL.b.ok.wl.lt p hp),h.qi.kd⟩).nd,fun a k hk=>?_,fun a=>?_⟩,h.nl,fun k hk=>?_,?_,h.un,h.cg,h.cn,h.nq,h.qn,fun k hk hc hm=>?_,fun k hk hc hq hkr hw=>?_⟩
  ·simp only[hdel]at hk
   split at hk
   ·cases hk
   ·rename_i ha
    obtain⟨w1,w2,w3,w4,w5⟩:=h.qi.wk a k hk
    have:=hmin a k hk
    exact⟨w1,w2,w3,w4,by omega⟩
  ·simp only[hdel]
   split
   ·exact List.nodup_nil
   ·exact h.qi.nd a
  ·obtain⟨w1,w2,w3,w4,w5⟩:=h.qi.wk (J9 n W.wl) k (by rw[hg];exact hk)
   exact⟨w1,w2,w3,by omega⟩
  ·rw[<- hg];exact h.qi.nd _
  ·obtain⟨f1,f2,f3⟩:=h.fr k hk hc hm
   refine⟨f1,fun h2=>f3 (J9 n W.wl) (by rw[hg];exact h2),fun a ha=>?_⟩
   simp only[hdel]at ha
   split at ha
   ·cases ha
   ·exact f3 a ha
  ·have hw0:∀ a,k∉Ql W.wl a:=fun a ha=>by
    by_cases hal:a=J9 n W.wl
    ·rw[hal,hg]at ha;exact hkr ha
    ·exact hw a (by simp only[hdel];rw[if_neg hal];exact ha)
   obtain⟨d1,d2⟩:=h.dn k hk hc hq (by simp) hw0
   exact⟨d1,by omega⟩
 obtain⟨e1,e2,e3⟩:=qDd hD l _ h1
 have hst:R7 D n W=Qz D { W with wl:=Kr (J9 n W.wl) W.wl } l:=by unfold R7;rw[s1];rfl
 refine⟨J9 n W.wl,by rw[hst];exact e1,by rw[hst];exact e2,?_⟩
 have:(R7 D n W).ev=W.ev+l.length:=by rw[hst];exact e3
 rw[this];omega
theorem qDe {c:Bg} {D:C5} {n:Nat} {N0:List Int} (hD:EvD c D n) (hO:DOk D n):∀ (k m:Nat) (ℓ:Int) (W:WS),tot W<=k->LOk D n m W->EvI c D n N0 ℓ [] W ->
  ∃ ℓ',EvI c D n N0 ℓ' [] (P9 D n k W)/\qHc c n (P9 D n k W).nets W.nets/\(P9 D n k W).ev+tot (P9 D n k W)=W.ev+tot W/\(P9 D n k W).wl=[]
 | 0,m,ℓ,W,ht,hL,h=>by
  refine⟨ℓ,h,fun i _ _=>rfl,rfl,?_⟩
  show W.wl=[]
  match hwl:W.wl with
  | []=>rfl
  | p::wl =>
   have:=hL.w p (by rw[hwl];exact xqh)
   have h2:0<p.2.length:=xza.2 this.1
   unfold tot at ht
   rw[hwl]at ht
   simp only[q3r]at ht
   omega
 | k+1,m,ℓ,W,ht,hL,h=>by
  by_cases hw:W.wl=[]
  ·have:P9 D n (k+1) W=W:=by unfold P9;rw[if_pos hw]
   rw[this]
   exact⟨ℓ,h,fun i _ _=>rfl,rfl,hw⟩
  ·have e:P9 D n (k+1) W=P9 D n k (R7 D n W):=by
    conv=>lhs;unfold P9
    rw[if_neg hw]
   obtain⟨l,s1,s2,s3,s4,s5,s6⟩:=q7z hO hL hw
   have h2l:0<l.length:=xza.2 s2
   obtain⟨ℓ1,t1,t2,t3⟩:=qHe hD hO hL h hw
   obtain⟨ℓ2,u1,u2,u3,u4⟩:=qDe hD hO k (m-l.length) ℓ1 (R7 D n W) (by omega) s5 t1
   rw[e]
   exact⟨ℓ2,u1,fun i hi hc=>(u2 i hi hc).trans (t2 i hi hc),u3.trans t3,u4⟩
theorem qHf {c:Bg} {D:C5} {n:Nat} {N0:List Int} (hl:N0.length=n):EvI c D n N0 0 [] ⟨N0,List.replicate n false,[],[],0⟩:=by
 have hq:∀ k:Int,0<=k/\k<(n:Int)->qd ⟨N0,List.replicate n false,[],[],0⟩ k=false:=fun k hk=>by
  unfold qd
  have:k.toNat<n:=by omega
  simp[xqe,xz3,this]
 refine⟨⟨by simp,List.nodup_nil,(fun a k hk=>by simp[Ql,A0]at hk),(fun a=>by simp[Ql,A0])⟩,hl,(fun k hk=>nomatch hk),List.nodup_nil,(fun i _ _=>rfl),(fun i hi=>nomatch hi),List.nodup_nil,(fun k _ _ _ m _ hm=>nomatch hm),(fun k hk h=>?_),(fun k _ _ hm=>nomatch hm),(fun k hk _ h=>?_)⟩
 ·rw[hq k hk]at h;cases h
 ·rw[hq k hk]at h;cases h
theorem q9S {D:C5}:∀ (l:List Int) (W:WS),(l.foldl (Ff D) W).nets=W.nets/\(l.foldl (Ff D) W).ch=W.ch
 | [],W=>⟨rfl,rfl⟩
 | k::l,W=>by
  obtain⟨a,b⟩:=q9S l (Ff D W k)
  obtain⟨d1,d2,_⟩:=q9R (D:=D) (W:=W) (k:=k)
  exact⟨a.trans d1,b.trans d2⟩
theorem qEa {D:C5} {W:WS} {x v:Int} (hx:x.toNat<W.nets.length):(Gv D W x v).nets=W.nets.set x.toNat v/\∀ i∈(Gv D W x v).ch,i∈W.ch\/i=x:=by
 unfold Gv
 split
 ·rename_i h
  refine⟨?_,fun i hi=>.inl hi⟩
  rw[Bn hx]at h
  rw[<- h,List.set_getElem_self]
 ·obtain⟨a,b⟩:=q9S (D:=D) (D.rdr.l.getD x.toNat Sl.z).l { W with nets:=W.nets.set x.toNat v,ch:=W.ch++[x] }
  refine⟨a,fun i hi=>?_⟩
  rw[b]at hi
  simpa using hi
theorem qA4 {c:Bg} {D:C5} {n:Nat} {N0:List Int} (hD:EvD c D n):∀ (l vs:List Int) (W:WS),EvI c D n N0 0 [] W->l.Nodup->(∀ x∈l,(0<=x/\x<(n:Int))/\¬ Yt c x/\x∉W.ch) ->
  EvI c D n N0 0 [] (Hn D W l vs)/\(Hn D W l vs).nets=Ge l vs W.nets/\∀ i∈(Hn D W l vs).ch,i∈W.ch\/i∈l
 | [],vs,W,h,_,_=>by cases vs<;>exact⟨h,rfl,fun i hi=>.inl hi⟩
 | x::l,[],W,h,_,_=>⟨h,rfl,fun i hi=>.inl hi⟩
 | x::l,v::vs,W,h,hn,hl=>by
  obtain⟨n1,n2⟩:=xzj.1 hn
  obtain⟨x1,x2,x3⟩:=hl x xqh
  have h1:=qGE hD h x1 (v:=v) (rest:=[]) ((q3h hD.h).2.1 _) (.inr ⟨x2,rfl,x3⟩)
  obtain⟨s1,s2⟩:=qEa (D:=D) (W:=W) (x:=x) (v:=v) (by have:=h.nl;omega)
  obtain⟨a1,a2,a3⟩:=qA4 hD l vs (Gv D W x v) h1 n2 fun y hy=>by
   obtain⟨y1,y2,y3⟩:=hl y (xqf _ hy)
   refine⟨y1,y2,fun hm=>?_⟩
   rcases s2 y hm with h2|rfl
   ·exact y3 h2
   ·exact n1 hy
  refine⟨a1,?_,fun i hi=>?_⟩
  ·show(Hn D (Gv D W x v) l vs).nets=Ge l vs (W.nets.set x.toNat v)
   rw[a2,s1]
  ·rcases a3 i hi with h2|h2
   ·rcases s2 i h2 with h3|rfl
    ·exact .inl h3
    ·exact .inr xqh
   ·exact .inr (xqf _ h2)
theorem q87 {D:C5} {n:Nat} (hO:DOk D n):∀ (l vs:List Int) (W:WS),(∀ k∈l,0<=k/\k<(n:Int))->W.q.length=n->WI n W.wl->tot (Hn D W l vs)=tot W
 | [],vs,W,_,_,_=>by cases vs<;>rfl
 | x::l,[],W,_,_,_=>rfl
 | x::l,v::vs,W,hl,hq,hw=>by
  obtain⟨h1,h2,h3⟩:=qCO (v:=v) hO (hl x xqh) hq hw
  exact(q87 hO l vs (Gv D W x v) (fun k hk=>hl k (xqf _ hk)) h3 h1).trans h2
theorem qCV {q:List Bool}:((rng q.length).filter fun k=>q.getD k.toNat true).length=q.count true:=by
 have key:∀ m,m<=q.length->((List.range m).filter fun i=>q.getD i true).length=(q.take m).count true:=by
  intro m
  induction m with
  | zero=>intro _;simp
  | succ m ih =>
   intro hm
   have hm2:m<q.length:=hm
   rw[List.range_succ,List.filter_append,xq6,ih (by omega),xz7,xqg hm2]
   simp only[Option.toList_some,List.count_append]
   congr 1
   have:q.getD m true=q[m]:=by simp[xqe,hm2]
   simp only[xzu,this,List.filter_nil]
   cases q[m]<;>rfl
 have h:=key q.length (xzo _)
 rw[xzn]at h
 rw[<- h,rng,List.filter_map,xq4]
 rfl
theorem qEb {q:List Bool}:q.count true+q.count false=q.length:=by
 induction q with
 | nil=>rfl
 | cons b q ih=>cases b<;>simp[List.count_cons]<;>omega
def Gs (n:Nat) (A B:List Int):List Int:=(rng n).filter fun i=>decide (B.getD i.toNat 0≠A.getD i.toNat 0)
def Qg (c:Bg) (A B:List Int):Int:=(((rng c.nodes.l.length).filter fun k=>By (Ad c k.toNat)&&(Bz c k.toNat).any fun m=>decide (B.getD m.toNat 0≠A.getD m.toNat 0)).length:Nat)
theorem qHg {c:Bg} {A pin pst:List Int} (hA:A.length=c.nodes.l.length) (h1:pin.length=(Be c).length) (h2:pst.length=(Ba c).length) (h0:∀ i:Nat,i<c.nodes.l.length->Ad c i≠0->Ad c i≠14->¬ By (Ad c i)=true->A.getD i 0=0)
  {i:Nat} (hi:i<c.nodes.l.length) (hc:¬ By (Ad c i)=true):(Ge (Ba c) pst (Ge (Be c) pin A)).getD i 0=(Y3 c pin pst).getD i 0:=by
 have r14:∀ n∈Ba c,0<=n:=fun n hn=>(Hi n hn).1
 have r0:∀ n∈Be c,0<=n:=fun n hn=>(Hi n hn).1
 unfold Y3
 by_cases hs:(i:Int)∈Ba c
 ·obtain⟨j,hj,e⟩:=xqt hs
  have a1:=X5 (ns:=Ba c) (vs:=pst) (nets:=Ge (Be c) pin A) (j:=j) (Lr [14] c.nodes.l 0).2 (fun n hn=>by rw[Rr,hA];have:=Hi n hn;omega) h2.symm hj
  have a2:=X5 (ns:=Ba c) (vs:=pst) (nets:=Ge (Be c) pin (List.replicate c.nodes.l.length 0)) (j:=j) (Lr [14] c.nodes.l 0).2 (fun n hn=>by rw[Rr];have:=Hi n hn;simp;omega) h2.symm hj
  rw[e]at a1 a2
  simp only[xzl]at a1 a2
  rw[a1,a2]
 ·rw[Oy r14 hs,Oy r14 hs]
  by_cases hin:(i:Int)∈Be c
  ·obtain⟨j,hj,e⟩:=xqt hin
   have a1:=X5 (ns:=Be c) (vs:=pin) (nets:=A) (j:=j) (Lr [0] c.nodes.l 0).2 (fun n hn=>by rw[hA];have:=Hi n hn;omega) h1.symm hj
   have a2:=X5 (ns:=Be c) (vs:=pin) (nets:=List.replicate c.nodes.l.length 0) (j:=j) (Lr [0] c.nodes.l 0).2 (fun n hn=>by have:=Hi n hn;simp;omega) h1.symm hj
   rw[e]at a1 a2
   simp only[xzl]at a1 a2
   rw[a1,a2]
  ·rw[Oy r0 hin,Oy r0 hin]
   have k0:Ad c i≠0:=fun e=>hin ((q4Q hi).2 e)
   have k14:Ad c i≠14:=fun e=>hs ((q4Q hi).2 e)
   rw[h0 i hi k0 k14 hc]
   simp[xqe,xz3]
   split<;>rfl
theorem qDf {c:Bg} {x:Int} (h:Ad c x.toNat=0\/Ad c x.toNat=14):¬ Yt c x:=by
 unfold Yt By
 rcases h with e|e<;>rw[e]<;>decide
theorem qBI {c:Bg} {D:C5} {n:Nat} (hn:n<=100000) (hD:EvD c D n) (hO:DOk D n) (hI:D.inp.l=Be c) (hS:D.sts.l=Ba c) {pin0 pst0:List Int} (h1:pin0.length=(Be c).length) (h2:pst0.length=(Ba c).length) (p:Pat) (h3:p.inn.l.length=(Be c).length) (h4:p.st.l.length=(Ba c).length)
  (v0:∀ v∈C9 c pin0 pst0,V4 v) (v1:∀ v∈p.inn.l,V4 v) (v2:∀ v∈p.st.l,V4 v) :
  (S5 D n (C9 c pin0 pst0) p).nets=C9 c p.inn.l p.st.l/\(S5 D n (C9 c pin0 pst0) p).ch.Nodup/\(∀ i,i∈(S5 D n (C9 c pin0 pst0) p).ch↔i∈Gs n (C9 c pin0 pst0) (C9 c p.inn.l p.st.l))/\(S5 D n (C9 c pin0 pst0) p).ev=Qg c (C9 c pin0 pst0) (C9 c p.inn.l p.st.l):=by
 have hf0:=q4P hD.h pin0 pst0
 have hN0:(C9 c pin0 pst0).length=n:=by rw[hf0.1,hD.cn]
 have hk:=hD.cn
 have hin:∀ x∈Be c,(0<=x/\x<(n:Int))/\Ad c x.toNat=0:=fun x hx=>by have:=Hi x hx;exact⟨by omega,this.2.2⟩
 have hst:∀ x∈Ba c,(0<=x/\x<(n:Int))/\Ad c x.toNat=14:=fun x hx=>by have:=Hi x hx;exact⟨by omega,this.2.2⟩
 have hz:∀ i:Nat,i<c.nodes.l.length->Ad c i≠0->Ad c i≠14->¬ By (Ad c i)=true->(C9 c pin0 pst0).getD i 0=0:=fun i hi k0 k14 hc=>by
  rw[hf0.2 i hi,if_neg hc,qDD h1 h2 hi,if_neg k0,if_neg k14]
 have L0:=qBE (D:=D) (nets:=C9 c pin0 pst0) (n:=n) (by omega) hN0 v0
 have I0:=qHf (c:=c) (D:=D) hN0
 have il:=Rw c
 have sl:=Ld c
 obtain⟨L1,L1c,_⟩:=Zx hO (Be c) p.inn.l _ (fun k hk=>(hin k hk).1) v1 L0 (by simp only[xq9];omega)
 obtain⟨I1,n1,c1⟩:=qA4 hD (Be c) p.inn.l _ I0 (Lr [0] c.nodes.l 0).2 fun x hx=>⟨(hin x hx).1,qDf (.inl (hin x hx).2),fun hm=>by cases hm⟩
 simp only[xq9]at L1c
 generalize hR1:Hn D ⟨C9 c pin0 pst0,List.replicate n false,[],[],0⟩ (Be c) p.inn.l=R1 at *
 obtain⟨L2,_,L2e⟩:=Zx hO (Ba c) p.st.l R1 (fun k hk=>(hst k hk).1) v2 L1 (by omega)
 obtain⟨I2,n2,c2⟩:=qA4 hD (Ba c) p.st.l R1 I1 (Lr [14] c.nodes.l 0).2 fun x hx=>⟨(hst x hx).1,qDf (.inr (hst x hx).2),fun hm=>by
  rcases c1 x hm with h|h
  ·cases h
  ·have:=(hin x h).2;have:=(hst x hx).2;omega⟩
 have hev:(Hn D R1 (Ba c) p.st.l).ev=0:=by
  have:=(Zx hO (Be c) p.inn.l _ (fun k hk=>(hin k hk).1) v1 L0 (by simp only[xq9];omega)).2.2
  rw[hR1]at this
  exact L2e.trans this
 have htt:tot (Hn D R1 (Ba c) p.st.l)=n:=by
  rw[q87 hO _ _ _ (fun k hk=>(hst k hk).1) L1.b.ok.ql L1.w,<- hR1,q87 hO _ _ _ (fun k hk=>(hin k hk).1) L0.b.ok.ql L0.w]
  simp[tot,q3r]
 generalize hR2:Hn D R1 (Ba c) p.st.l=R2 at *
 have hap:S5 D n (C9 c pin0 pst0) p=P9 D n n R2:=by
  unfold S5
  rw[hI,hS,hR1,hR2]
 obtain⟨ℓ,E,nc,ev,wl⟩:=qDe hD hO n n 0 R2 (by omega) L2 I2
 rw[hap]
 generalize P9 D n n R2=R at *
 have hgw:∀ k a,k∉Ql R.wl a:=fun k a=>by rw[wl];simp[Ql,A0]
 have hfix:qFV c (Y3 c p.inn.l p.st.l) R.nets:=by
  refine⟨by rw[E.nl,hk],fun i hi=>?_⟩
  have hir:(0:Int)<=(i:Int)/\(i:Int)<(n:Int):=by omega
  have hin':(i:Int).toNat=i:=by omega
  split
  ·rename_i hc
   have hcc:Yt c (i:Int):=hc
   by_cases hq:qd R (i:Int)=true
   ·have:=(E.dn i hir hcc hq (by simp) (hgw _)).1
    rwa [hin']at this
   ·have hq2:qd R (i:Int)=false:=by simpa using hq
    have hnch:(i:Int)∉R.ch:=fun hm=>hq (E.fr i hir hcc hm).1
    have e1:=E.un i hir hnch
    rw[hin']at e1
    rw[e1,hf0.2 i hi,if_pos hc]
    congr 1
    unfold G9
    refine xq1 fun m hm=>?_
    have hmr:=(q86 hD.h (k:=(i:Int)) (by omega) hcc (m:=m) (by rw[hin'];exact hm)).1
    exact(E.un m (by omega) (E.nq i hir hcc hq2 m (by rw[hin'];exact hm))).symm
  ·rename_i hc
   have e1:=nc i hir hc
   rw[hin',n2,n1]at e1
   rw[e1]
   exact qHg (by rw[hN0,hk]) h3 h4 hz hi hc
 have hnets:R.nets=C9 c p.inn.l p.st.l:=qC6 hD.h hfix (q4P hD.h _ _)
 have hch:∀ i,i∈R.ch↔i∈Gs n (C9 c pin0 pst0) (C9 c p.inn.l p.st.l):=fun i=>by
  rw[<- hnets]
  simp only[Gs,xzi,Q4,xqu]
  constructor
  ·intro h;exact E.cg i h
  ·rintro⟨h5,h6⟩
   by_cases hm:i∈R.ch
   ·exact hm
   ·exact absurd (E.un i h5 hm) h6
 refine⟨hnets,E.cn,hch,?_⟩
 have hct:=qCV (q:=R.q)
 have hc2:=qEb (q:=R.q)
 rw[E.qi.ql]at hct hc2
 have hto:tot R=R.q.count false:=by unfold tot;rw[wl];simp[q3r]
 have hfl:((rng n).filter fun k=>R.q.getD k.toNat true)=(rng n).filter fun k=>By (Ad c k.toNat)&&(Bz c k.toNat).any fun m=>decide ((C9 c p.inn.l p.st.l).getD m.toNat 0≠(C9 c pin0 pst0).getD m.toNat 0):=by
  refine List.filter_congr fun k hkm=>?_
  have hkr:=Q4.1 hkm
  have hmc:∀ m∈Bz c k.toNat,Yt c k->(m∈R.ch↔(C9 c p.inn.l p.st.l).getD m.toNat 0≠(C9 c pin0 pst0).getD m.toNat 0):=fun m hm hcc=>by
   rw[hch]
   simp only[Gs,xzi,Q4,xqu]
   have hmr:=(q86 hD.h (k:=k) (by omega) hcc (m:=m) hm).1
   constructor
   ·rintro⟨_,h⟩;exact h
   ·intro h;exact⟨by omega,h⟩
  rw[Bool.eq_iff_iff,xqc,xz1]
  constructor
  ·intro hq
   obtain⟨a1,m,a2,a3⟩:=E.qn k hkr hq
   exact⟨a1,m,a2,by simpa using(hmc m a2 a1).1 a3⟩
  ·rintro⟨a1,m,a2,a3⟩
   cases hq:R.q.getD k.toNat true with
   | true=>rfl
   | false=>exact absurd ((hmc m a2 a1).2 (by simpa using a3)) (E.nq k hkr a1 hq m a2)
 unfold Qg
 rw[hk,<- hfl,hct]
 omega
theorem qII {n:Nat} {d:Int} {c:Bg}:∀ {r:Kt} {s:LS},(∀ p∈r,By (Ad c p.1.toNat)=true->p.1.toNat≠n)->(∀ i,s.out.getD i 0<=d+1)->s.out.getD n 0<=d->∀ i,(r.foldl (Dv c n) s).out.getD i 0<=d+1
 | [],s,_,h,_=>h
 | p::r,s,hr,h,hn=>by
  simp only[xz4]
  have hp:=hr p xqh
  have key:∀ i,(Dv c n s p).out.getD i 0=if By (Ad c p.1.toNat)=true/\p.1.toNat=i/\i<s.out.length then max (s.out.getD p.1.toNat 0) (s.out.getD n 0+1)else s.out.getD i 0:=fun i=>by
   unfold Dv
   by_cases hc:By (Ad c p.1.toNat)=true
   ·rw[if_pos hc]
    simp only[xqe,xzb]
    by_cases hi:p.1.toNat=i
    ·subst hi
     by_cases hl:p.1.toNat<s.out.length
     ·simp[hc,hl]
     ·simp[hc,hl]
    ·simp[hc,hi]
   ·rw[if_neg hc];simp[hc]
  refine qII (fun q hq=>hr q (xqf _ hq)) (fun i=>?_) ?_
  ·rw[key]
   split
   ·have:=h p.1.toNat;omega
   ·exact h i
  ·rw[key,if_neg]
   ·exact hn
   ·rintro⟨h1,h2,_⟩;exact hp h1 h2
theorem qGF {c:Bg} {n:Nat} (hp:∀ x∈c.nodes.l,∀ p∈x.inn.l,0<=p/\p<c.nodes.l.length) {k:Int}:(∃ p∈E7 c n,p.1=k)↔(0<=k/\k<(c.nodes.l.length:Int))/\(n:Int)∈Bz c k.toNat:=by
 have hin:∀ p∈E7 c n,∃ i:Nat,i<c.nodes.l.length/\p.1=i:=by
  intro p hpp
  have hl:=H5 c
  by_cases hn:n<(As c).length
  ·have e:E7 c n=(As c)[n]:=by simp[E7,List.getD,xqg hn]
   rw[e]at hpp
   exact Rn c _ (xqj _) p hpp
  ·have e:E7 c n=[]:=by simp[E7,List.getD,List.getElem?_eq_none (Nat.not_lt.1 hn)]
   rw[e]at hpp;cases hpp
 constructor
 ·rintro⟨p,hm,rfl⟩
  obtain⟨i,hi,e⟩:=hin p hm
  refine⟨by omega,?_⟩
  have h1:=Zc c hp i n hi
  have h2:0<Pe i (E7 c n):=by
   unfold Pe
   exact List.countP_pos_iff.2 ⟨p,hm,by simp[e]⟩
  rw[h1]at h2
  rw[e,xzl]
  exact List.count_pos_iff.1 h2
 ·rintro⟨hk,hm⟩
  have h1:=Zc c hp k.toNat n (by omega)
  have h2:=List.count_pos_iff.2 hm
  rw[<- h1]at h2
  unfold Pe at h2
  obtain⟨p,hpm,e⟩:=List.countP_pos_iff.1 h2
  exact⟨p,hpm,by simp at e;omega⟩
theorem qGG {c:Bg} (h:D3 c=0) (hp:∀ x∈c.nodes.l,∀ p∈x.inn.l,0<=p/\p<c.nodes.l.length):∀ (f d:Nat) (s:LS),(∀ i,s.out.getD i 0<=d)->∀ i,(Jg c f d s).2.out.getD i 0<=(Jg c f d s).1
 | 0,d,s,hs=>hs
 | f+1,d,s,hs=>by
  simp only[Jg]
  split
  ·refine qGG h hp f (d+1) _ fun i=>?_
   have:=qII (c:=c) (n:=(s.rdy.getD d 0).toNat) (d:=(d:Int)) (r:=E7 c (s.rdy.getD d 0).toNat) (s:=s) (fun p hm hc e=>?_) (fun i=>by have:=hs i;omega) (hs _) i
   ·omega
   ·obtain⟨h1,h2⟩:=(qGF hp (k:=p.1)).1 ⟨p,hm,rfl⟩
    have:=(q86 h h1 hc h2).2
    simp only[xzl]at this
    rw[e]at this
    omega
  ·exact hs
theorem qJl {c:Bg} (h:D3 c=0) (i:Nat):G8 c i<=c.nodes.l.length:=by
 obtain⟨hs,hd⟩:=Ii h
 have hp:=q1h hs
 have h16:=(Ig hs).2.1
 have h0:=qD7 c h16
 obtain⟨hJ,hle⟩:=q4M hp (c.nodes.l.length+1) 0 (Gp c) h0 (by omega)
 have hU:=qGG h hp (c.nodes.l.length+1) 0 (Gp c) (fun i=>by
  simp only[Gp,xqe,xz3]
  split<;>simp) i
 obtain⟨M,hli⟩:=hJ.li
 have h3:=hli.len
 have h4:=hJ.le
 show(H6 c).2.out.getD i 0<=_
 have hU':(H6 c).2.out.getD i 0<=(H6 c).1:=hU
 have h3':(H6 c).2.rdy.length<=c.nodes.l.length:=h3
 have h4':(H6 c).1<=(H6 c).2.rdy.length:=h4
 omega
theorem qHh {c:Bg} {x:Int} (h:0<=x/\x<(c.nodes.l.length:Int)):nd (Xj c) x=q3p (nd c x):=by
 have h2:x.toNat<c.nodes.l.length:=by omega
 simp[nd,Xj,xqe,h2]
theorem qIJ {l:List Int}:(rdS l).l=l:=by
 unfold rdS
 split
 ·rename_i h;rw[h];rfl
 ·rfl
theorem qJm {c:Bg} {m:Nat} (h:m<c.nodes.l.length):((W2 c).getD m Sl.z).l=U9 c (E7 c m):=by
 have h2:m<(As c).length:=by rw[H5];exact h
 simp[W2,E7,xqe,h2,qIJ]
theorem q9T {c:Bg} {r:Kt} {k:Int}:k∈U9 c r↔By (Ad c k.toNat)=true/\∃ p∈r,p.1=k:=by
 unfold U9
 simp only[xqy,xzi]
 constructor
 ·rintro⟨p,⟨h1,h2⟩,rfl⟩;exact⟨h2,p,h1,rfl⟩
 ·rintro⟨h1,p,h2,rfl⟩;exact⟨p,⟨h2,h1⟩,rfl⟩
theorem qGH {c:Bg} (h:D3 c=0):EvD c (Ks c) c.nodes.l.length:=by
 have hp:=q1h (Ii h).1
 refine⟨rfl,h,fun x hx=>?_,fun m k hm=>?_,fun k hk=>?_⟩
 ·have:nd (Ks c).c x=q3p (nd c x):=qHh hx
  rw[this]
  refine⟨rfl,?_⟩
  have h2:x.toNat<c.nodes.l.length:=by omega
  simp[q3p,cpS,nd,Bz,xqe,h2]
 ·show k∈((W2 c).getD m.toNat Sl.z).l↔_
  rw[qJm (by omega),q9T,qGF hp]
  have:((m.toNat:Nat):Int)=m:=by omega
  rw[this]
  constructor
  ·rintro⟨a,b,d⟩;exact⟨b,a,d⟩
  ·rintro⟨a,b,d⟩;exact⟨b,a,d⟩
 ·have h1:=(q3h h).2.1 k.toNat
  show((((H6 c).2.out.getD k.toNat 0).toNat:Nat):Int)=G8 c k.toNat
  have:G8 c k.toNat=(H6 c).2.out.getD k.toNat 0:=rfl
  omega
theorem qGI {c:Bg} (h:D3 c=0) (hn:c.nodes.l.length<=900):DOk (Ks c) c.nodes.l.length:=by
 have hp:=q1h (Ii h).1
 have h16:=(Ig (Ii h).1).2.1
 obtain⟨l1,l2,_⟩:=q3h h
 have hv:∀ v∈(H6 c).2.out,0<=v/\v<=(c.nodes.l.length:Int):=fun v hv=>by
  obtain⟨i,hi,rfl⟩:=xqt hv
  have h1:=l2 i
  have h2:=qJl h i
  have e:G8 c i=(H6 c).2.out[i]:=by show(H6 c).2.out.getD i 0=_;rw[Bn hi]
  omega
 refine⟨⟨l1,fun v hm=>?_,?_,fun r hr=>?_⟩,fun v hm=>(hv v hm).2⟩
 ·have:=hv v hm;omega
 ·show(W2 c).length=_
  simp[W2,H5]
 ·obtain⟨row,hrow,rfl⟩:=xqy.1 hr
  have hb:=q3Z c (by omega) h16 row hrow
  rw[qIJ]
  refine⟨?_,fun k hk=>?_⟩
  ·have:(U9 c row).length<=row.length:=by
    unfold U9
    rw[xq4]
    exact List.length_filter_le _ _
   omega
  ·obtain⟨_,p,hpm,rfl⟩:=q9T.1 hk
   obtain⟨i,h5,h6⟩:=Rn c row hrow p hpm
   omega
def eOf (E:List (Sl Int)) (n:Nat):List Int:=(E.getD n q6P).l
def wkF (E:List (Sl Int)):Nat->Nat->List Bool->List Bool
 | 0,_,B=>B
 | f+1,n,B=>if B.getD n false then B else(eOf E n).foldl (fun b k=>wkF E f k.toNat b) (B.set n true)
def qN8 (B:List Bool):Nat:=B.countP fun b=>!b
inductive Rch (E:List (Sl Int)):Nat->Nat->Prop
 | refl (n:Nat):Rch E n n
 | step (n m:Nat) (k:Int) (h:k∈eOf E n) (hr:Rch E k.toNat m):Rch E n m
theorem qNY:∀ {B C:List Bool},B.length=C.length->(∀ i,B.getD i false=true->C.getD i false=true)->qN8 C<=qN8 B
 | [],[],_,_=>xzo _
 | b::B,c::C,hl,h=>by
  have ih:=qNY (B:=B) (C:=C) (by simpa using hl) fun i hi=>by simpa using h (i+1) (by simpa using hi)
  have h0:=h 0
  simp only[List.getD_cons_zero]at h0
  unfold qN8 at ih ⊢
  simp only[List.countP_cons]
  cases b with
  | false=>cases c<;>simp<;>omega
  | true =>
   have:=h0 rfl
   subst this
   simp;omega
theorem qNc {B:List Bool} {n:Nat} (h:n<B.length) (hn:B.getD n false=false):qN8 (B.set n true)+1=qN8 B:=by
 induction B generalizing n with
 | nil=>simp at h
 | cons b B ih =>
  cases n with
  | zero =>
   simp only[List.getD_cons_zero]at hn
   subst hn
   simp[qN8]
  | succ n =>
   have:=ih (n:=n) (by simpa using h) (by simpa using hn)
   simp only[qN8,List.set_cons_succ,List.countP_cons]at this ⊢
   omega
theorem qNU {α:Type} {g:List Bool->α->List Bool} (hg:∀ b k,(g b k).length=b.length):∀ {l:List α} {b:List Bool},(l.foldl g b).length=b.length
 | [],b=>rfl
 | k::l,b=>by
  show(l.foldl g (g b k)).length=_
  rw[qNU hg,hg]
theorem qMv {α:Type} {g:List Bool->α->List Bool} (hg:∀ b k i,b.getD i false=true->(g b k).getD i false=true):∀ {l:List α} {b:List Bool} {i:Nat},b.getD i false=true->(l.foldl g b).getD i false=true
 | [],b,i,h=>h
 | k::l,b,i,h=>qMv hg (l:=l) (hg b k i h)
theorem qN9 {E:List (Sl Int)}:∀ (f n:Nat) (B:List Bool),(wkF E f n B).length=B.length
 | 0,_,_=>rfl
 | f+1,n,B=>by
  simp only[wkF]
  split
  ·rfl
  ·rw[qNU fun b k=>qN9 f _ b];simp
theorem qO2 {B:List Bool} {n i:Nat} (h:B.getD i false=true):(B.set n true).getD i false=true:=by
 by_cases hn:n<B.length
 ·rw[qNQ hn]
  split
  ·rfl
  ·exact h
 ·rw[List.set_eq_of_length_le (by omega)];exact h
theorem qNH {E:List (Sl Int)}:∀ (f n:Nat) (B:List Bool) (i:Nat),B.getD i false=true->(wkF E f n B).getD i false=true
 | 0,_,_,_,h=>h
 | f+1,n,B,i,h=>by
  simp only[wkF]
  split
  ·exact h
  ·exact qMv (fun b k j hj=>qNH f _ b j hj) (qO2 h)
theorem qNw {E:List (Sl Int)} {N:Nat} (hE:∀ i k,k∈eOf E i->0<=k/\k<N):∀ (f n:Nat) (B:List Bool),B.length=N->qN8 B<f->n<N ->
  (wkF E f n B).getD n false=true/\∀ i,(wkF E f n B).getD i false=true->B.getD i false=true\/(Rch E n i/\∀ k∈eOf E i,(wkF E f n B).getD k.toNat false=true)
 | 0,_,_,_,h,_=>by omega
 | f+1,n,B,hB,hf,hn=>by
  simp only[wkF]
  split
  ·rename_i h;exact⟨h,fun i hi=>.inl hi⟩
  ·rename_i h
   have h:B.getD n false=false:=by simpa using h
   have hs:=qNc (by omega:n<B.length) h
   have key:∀ (l:List Int) (b:List Bool),(∀ k∈l,k∈eOf E n)->b.length=N->qN8 b<f ->
     (∀ k∈l,(l.foldl (fun b k=>wkF E f k.toNat b) b).getD k.toNat false=true)/\∀ i,(l.foldl (fun b k=>wkF E f k.toNat b) b).getD i false=true->b.getD i false=true\/(Rch E n i/\∀ k∈eOf E i,(l.foldl (fun b k=>wkF E f k.toNat b) b).getD k.toNat false=true):=by
    intro l
    induction l with
    | nil=>intro b _ _ _;exact⟨(fun k hk=>by cases hk),fun i hi=>.inl hi⟩
    | cons a l ih =>
     intro b hl hb ho
     have ha:=hE n a (hl a xqh)
     obtain⟨w1,w2⟩:=qNw hE f a.toNat b hb ho (by omega)
     have hb2:(wkF E f a.toNat b).length=N:=by rw[qN9];exact hb
     have ho2:qN8 (wkF E f a.toNat b)<f:=by
      have:=qNY (by rw[qN9]) fun i hi=>qNH (E:=E) f a.toNat b i hi
      omega
     obtain⟨v1,v2⟩:=ih (wkF E f a.toNat b) (fun k hk=>hl k (xqf _ hk)) hb2 ho2
     have hm:∀ i,(wkF E f a.toNat b).getD i false=true->(l.foldl (fun b k=>wkF E f k.toNat b) (wkF E f a.toNat b)).getD i false=true:=fun i hi=>qMv (fun b k j hj=>qNH f _ b j hj) hi
     refine⟨fun k hk=>?_,fun i hi=>?_⟩
     ·rcases xqv.1 hk with rfl|hk
      ·exact hm _ w1
      ·exact v1 k hk
     ·rcases v2 i hi with h1|h1
      ·rcases w2 i h1 with h2|⟨h2,h3⟩
       ·exact .inl h2
       ·exact .inr ⟨.step n i a (hl a xqh) h2,fun k hk=>hm _ (h3 k hk)⟩
      ·exact .inr h1
   obtain⟨k1,k2⟩:=key (eOf E n) (B.set n true) (fun k hk=>hk) (by simpa using hB) (by omega)
   have hm:∀ i,(B.set n true).getD i false=true->((eOf E n).foldl (fun b k=>wkF E f k.toNat b) (B.set n true)).getD i false=true:=fun i hi=>qMv (fun b k j hj=>qNH f _ b j hj) hi
   refine⟨hm n (by rw[qNQ (by omega),if_pos rfl]),fun i hi=>?_⟩
   rcases k2 i hi with h1|h1
   ·rw[qNQ (by omega)]at h1
    split at h1
    ·rename_i e;subst e;exact .inr ⟨.refl i,k1⟩
    ·exact .inl h1
   ·exact .inr h1
def rcB (E:List (Sl Int)) (l:List Int) (B:List Bool):List Bool:=l.foldl (fun b k=>wkF E (E.length+1) k.toNat b) B
theorem qNs {E:List (Sl Int)} {l:List Int} {B:List Bool}:(rcB E l B).length=B.length:=qNU fun b k=>qN9 _ _ b
theorem qNd {E:List (Sl Int)} {l:List Int} {B:List Bool} {i:Nat} (h:B.getD i false=true):(rcB E l B).getD i false=true:=qMv (fun b k j hj=>qNH _ _ b j hj) h
theorem qNo {E:List (Sl Int)} (hE:∀ i k,k∈eOf E i->0<=k/\k<E.length):∀ (l:List Int) (B:List Bool),(∀ k∈l,0<=k/\k<E.length)->B.length=E.length ->
  (∀ k∈l,(rcB E l B).getD k.toNat false=true)/\∀ i,(rcB E l B).getD i false=true->B.getD i false=true\/((∃ k∈l,Rch E k.toNat i)/\∀ k∈eOf E i,(rcB E l B).getD k.toNat false=true)
 | [],B,_,_=>⟨(fun k hk=>by cases hk),fun i hi=>.inl hi⟩
 | a::l,B,hl,hB=>by
  have ha:=hl a xqh
  have ho:qN8 B<E.length+1:=by
   have:qN8 B<=B.length:=List.countP_le_length
   omega
  obtain⟨w1,w2⟩:=qNw hE (E.length+1) a.toNat B hB ho (by omega)
  obtain⟨v1,v2⟩:=qNo hE l (wkF E (E.length+1) a.toNat B) (fun k hk=>hl k (xqf _ hk)) (by rw[qN9];exact hB)
  have e:rcB E (a::l) B=rcB E l (wkF E (E.length+1) a.toNat B):=rfl
  rw[e]
  refine⟨fun k hk=>?_,fun i hi=>?_⟩
  ·rcases xqv.1 hk with rfl|hk
   ·exact qNd w1
   ·exact v1 k hk
  ·rcases v2 i hi with h1|⟨⟨k,h2,h3⟩,h4⟩
   ·rcases w2 i h1 with h2|⟨h2,h3⟩
    ·exact .inl h2
    ·exact .inr ⟨⟨a,xqh,h2⟩,fun k hk=>qNd (h3 k hk)⟩
   ·exact .inr ⟨⟨k,xqf _ h2,h3⟩,h4⟩
def qNA (E:List (Sl Int)) (l:List Int):List Bool:=rcB E l (List.replicate E.length false)
theorem qNV {E:List (Sl Int)} {l:List Int}:(qNA E l).length=E.length:=by rw[qNA,qNs];simp
theorem qO3 {n i:Nat}:(List.replicate n false).getD i false=false:=by
 rw[xqe,xz3]
 split<;>rfl
theorem qNt {E:List (Sl Int)} (hE:∀ i k,k∈eOf E i->0<=k/\k<E.length) {l:List Int} (hl:∀ k∈l,0<=k/\k<E.length) :
  (∀ k∈l,(qNA E l).getD k.toNat false=true)/\∀ i,(qNA E l).getD i false=true->(∃ k∈l,Rch E k.toNat i)/\∀ k∈eOf E i,(qNA E l).getD k.toNat false=true:=by
 obtain⟨h1,h2⟩:=qNo hE l (List.replicate E.length false) hl (by simp)
 refine⟨h1,fun i hi=>?_⟩
 rcases h2 i hi with h|h
 ·rw[qO3]at h;cases h
 ·exact h
def qMc:List Bool->Nat->List Int
 | [],_=>[]
 | b::l,i=>if b then(i:Int)::qMc l (i+1)else qMc l (i+1)
theorem qNj:∀ {l:List Bool} {i:Nat} {k:Int},k∈qMc l i↔(i:Int)<=k/\l.getD (k.toNat-i) false=true
 | [],i,k=>by simp[qMc]
 | b::l,i,k=>by
  have ih:=qNj (l:=l) (i:=i+1) (k:=k)
  simp only[qMc]
  by_cases hk:k=i
  ·subst hk
   cases b
   ·simp only[xqn,if_false,ih];simp;omega
   ·simp
  ·have hne:¬ (k=(i:Int)):=hk
   have h1:((i:Int)<=k/\(b::l).getD (k.toNat-i) false=true)↔((i+1:Nat):Int)<=k/\l.getD (k.toNat-(i+1)) false=true:=by
    constructor
    ·rintro⟨h1,h2⟩
     refine⟨by omega,?_⟩
     have e:k.toNat-i=(k.toNat-(i+1))+1:=by omega
     rw[e,List.getD_cons_succ]at h2;exact h2
    ·rintro⟨h1,h2⟩
     refine⟨by omega,?_⟩
     have e:k.toNat-i=(k.toNat-(i+1))+1:=by omega
     rw[e,List.getD_cons_succ];exact h2
   rw[h1]
   cases b
   ·simp only[xqn,if_false,ih]
   ·simp only[if_true,xqv,hne,false_or,ih]
theorem qNe {l:List Bool} {k:Int}:k∈qMc l 0↔0<=k/\l.getD k.toNat false=true:=by
 rw[qNj];simp
theorem qNW:∀ {l:List Bool} {i:Nat},(qMc l i).length<=l.length
 | [],_=>xzo _
 | b::l,i=>by
  have:=qNW (l:=l) (i:=i+1)
  simp only[qMc]
  split<;>simp<;>omega
theorem qNm {l:List Bool}:∀ {i:Nat} (h:i<l.length) (s:Nat),qMc (l.take (i+1)) s=qMc (l.take i) s++if l[i] then[((s+i:Nat):Int)] else[]:=by
 induction l with
 | nil=>intro i h;simp at h
 | cons b l ih =>
  intro i h s
  cases i with
  | zero=>simp only[List.take_succ_cons,List.take_zero,qMc,List.getElem_cons_zero,List.nil_append,xzp]
  | succ i =>
   have:=ih (i:=i) (by simpa using h) (s+1)
   simp only[List.take_succ_cons,qMc,List.getElem_cons_succ,this]
   have e:s+1+i=s+(i+1):=by omega
   rw[e]
   split<;>simp
theorem qNk {c:Bg} {n:Nat} {k:Int} (hp:∀ x∈c.nodes.l,∀ p∈x.inn.l,0<=p/\p<c.nodes.l.length) (hn:n<c.nodes.l.length):k∈eOf (W2 c) n↔By (Ad c k.toNat)=true/\(0<=k/\k<c.nodes.l.length)/\(n:Int)∈Bz c k.toNat:=by
 have e:eOf (W2 c) n=U9 c (E7 c n):=by
  unfold eOf
  have:=qJm (c:=c) hn
  have hl:n<(W2 c).length:=by simp[W2,H5];exact hn
  rw[<- this]
  simp[xqe,hl]
 rw[e,q9T,qGF hp]
theorem qNB {c:Bg}:(W2 c).length=c.nodes.l.length:=by simp[W2,H5]
theorem qNp {c:Bg} (hp:∀ x∈c.nodes.l,∀ p∈x.inn.l,0<=p/\p<c.nodes.l.length):∀ i k,k∈eOf (W2 c) i->0<=k/\k<(W2 c).length:=by
 intro i k hk
 rw[qNB]
 by_cases hi:i<c.nodes.l.length
 ·exact((qNk hp hi).1 hk).2.1
 ·unfold eOf at hk
  rw[xqe,List.getElem?_eq_none (by rw[qNB];omega)]at hk
  cases hk
theorem qNu {c:Bg} (h:D3 c=0) (hp:∀ x∈c.nodes.l,∀ p∈x.inn.l,0<=p/\p<c.nodes.l.length) {i1 i2 f1 f2:List Int} (h1:qFV c i1 f1) (h2:qFV c i2 f2) {l:List Int} (hl:∀ k∈l,0<=k/\k<c.nodes.l.length)
  (hfrom:∀ i:Nat,i<c.nodes.l.length->By (Ad c i)=false->f1.getD i 0≠f2.getD i 0->(i:Int)∈l):∀ i:Nat,i<c.nodes.l.length->f1.getD i 0≠f2.getD i 0->(qNA (W2 c) l).getD i false=true:=by
 obtain⟨r1,r2⟩:=qNt (E:=W2 c) (qNp hp) (l:=l) (fun k hk=>by rw[qNB];exact hl k hk)
 refine qD8 h (Q:=fun i=>f1.getD i 0≠f2.getD i 0->(qNA (W2 c) l).getD i false=true) fun i hi hcb hne=>?_
 by_cases hc:By (Ad c i)=true
 ·have:∃ q∈Bz c i,f1.getD q.toNat 0≠f2.getD q.toNat 0:=by
   by_cases hx:∃ q∈Bz c i,f1.getD q.toNat 0≠f2.getD q.toNat 0
   ·exact hx
   ·exfalso
    apply hne
    rw[h1.2 i hi,h2.2 i hi,if_pos hc,if_pos hc]
    congr 1
    unfold G9
    refine xq1 fun q hq=>?_
    by_cases e:f1.getD q.toNat 0=f2.getD q.toNat 0
    ·exact e
    ·exact absurd ⟨q,hq,e⟩ hx
  obtain⟨q,hq,hqn⟩:=this
  have hb:=hcb hc q hq
  have hq2:=hb.2 hqn
  have hqr:=hb.1
  have:=(r2 _ hq2).2 (i:Int) ((qNk hp (by omega)).2 ⟨by simpa using hc,⟨by omega,by omega⟩,by
   have e:((q.toNat:Nat):Int)=q:=by omega
   rw[e];simpa using hq⟩)
  simpa using this
 ·have:=r1 _ (hfrom i hi (by simpa using hc) hne)
  simpa using this
end Go.Lg
namespace Go.Lg
open Go
section
variable {P:Program} {Γ:Tables} {Q:AX->St->Prop} {s:St}
/- probecard/cones.check (function 82) -/
abbrev qNC:IC:=(.seq (.reg [od 2 (.box true (tm 0)),od 4 (.mv (ki 0))] [kp [1,2] []]) (.seq (.seq (.reg [od 6 (lG 4 2),od 7 (.call 133 [(tm 6)]),om 5 7] [kp [1,2,5] []]) (.seq (.reg [om 8 5,od 9 (.bin .neq (tm 8) (ki 0))] [kp [1,2,5,9]
 []]) (.cond (tm 9) (.seq (.reg [om 10 5,om 4 10] [kp [4] []]) .ret) .skip))) (.seq (.seq (.reg [od 11 (lG 4 2),om 12 1,od 13 (.call 149 [(tm 11),(tm 12)]),od 14 (.un .not (tm 13))] [kp [14] []]) (.cond (tm 14) (.seq (.reg [od
 4 (.mv (ki 1))] [kp [4] []]) .ret) .skip)) (.seq (.reg [od 4 (.mv (ki 0))] [kp [4] []]) .ret))))
def qND:List RV:=[.tmp 4]
/- probecard/cones.valid (function 149) -/
abbrev qNE:IC:=(.seq (.reg [od 2 (.box true (tm 0)),od 4 (.mv kF)] [kp [1,2] []]) (.seq (.reg [om 5 1,od 6 (.mkf 189 [(tm 2)]),od 7 (.call 163 [(tm 5),(tm 6)]),od 8 (.un .not (tm 7)),om 4 8] [kp [4] []]) .ret))
def qNF:List RV:=[.tmp 4]
/- probecard/cones.valid$1 (function 189) -/
abbrev qMw:IC:=(.seq (.reg [od 3 (.mv kF)] [kp [0,1] []]) (.seq (.reg [om 4 0,od 5 (.bin .lss (tm 4) (ki 0)),om 6 5,oF 7 (.mv (tm 0)) 6,oF 8 (fa 0 1) 6,oF 9 (ld 1 8) 6,oF 10 (le 0 9) 6,oF 11 (.bin .geq (tm 7) (tm 10)) 6,od 12 (.pick (tm
 6) kT (tm 11)),om 3 12] [kp [3] []]) .ret))
def qMx:List RV:=[.tmp 3]
/- probecard/cones.readers (function 85) -/
abbrev qMy:IC:=.gh (.seq (.reg [od 23 (.bin .lss (tm 22) (tm 21))] [.keepE [1,3,4,13,14,15,20,21,22,23]]) (.seq (.cond (tm 23) .skip (.exit 2)) (.seq (.block 3 (.seq (.reg [od 24 (ia 2 20 22),od 25 (lG 2 24),od 7 (.alloc false [(.int
 .i64 0),(.int .i64 0)]),on (.store 2 (tm 7) (tm 25))] [.keepE [1,3,4,7,13,14,15,20,21,22]]) (.seq (.reg [od 26 (fa 0 1),od 27 (ld 1 26),od 28 (fa 0 7),od 29 (ld 1 28),od 30 (ia 4 27 29),od 31 (fa 0 30),od 32 (ld 1
 31),od 33 (.call 14 [(tm 32)])] [.keepE [1,3,4,7,13,14,15,20,21,22,33]]) (.cond (tm 33) (.reg [od 34 (.mvP (tm 3)),od 35 (.mvP (tm 4)),om 36 3,om 37 4,od 38 (ia 1 36 37),od 39 (.ldR 11 1 false (tm 38)),od 40 (fa 0
 7),od 41 (.ldR 7 1 false (tm 40)),od 42 (.bsl true 3 1 [(tm 41)]),od 43 (.app false 3 1 (tm 39) (tm 42)),od 44 (ia 1 34 35),on (.stR 11 1 (tm 44) (tm 43))] [.ren 43 700,.keepE [1,3,4,13,14,15,20,21,22]]) .skip))))
 (.reg [od 45 (.bin .add (tm 22) (ki 1)),om 22 45] [.drop [7],.keepE [1,3,4,13,14,15,20,21,22]])))) [.keepE [1,3,4,13,14,15,20,21,22]]
def qMZ:IC:=.loop qMy
abbrev qMz:IC:=.gh (.seq (.reg [od 16 (.bin .lss (tm 15) (tm 14))] [.keepE [1,3,13,14,15,16]]) (.seq (.cond (tm 16) .skip (.exit 0)) (.seq (.block 1 (.seq (.reg [om 17 15,od 18 (ia 1 13 15),od 19 (ld 1 18),om 4 17,om 5 19] [.keepE [1,3,
 4,5,13,14,15]]) (.seq (.reg [om 20 5,od 21 (le 0 20),od 22 (.mv (ki 0))] [.keepE [1,3,4,13,14,15,20,21,22]]) (.block 2 qMZ)))) (.reg [od 46 (.bin .add (tm 15) (ki 1)),om 15 46] [.frz 700,.keepE [1,3,
 13,14,15]])))) [.keepE [1,3,13,14,15]]
def qMa:IC:=.loop qMz
abbrev qN0:IC:=(.seq (.reg [od 1 (.box true (tm 0)),od 2 (.mv kN)] [.keepE [1]]) (.seq (.reg [od 8 (fa 0 1),od 9 (ld 1 8),od 10 (le 0 9),od 11 (.mk 33 1 [(.slice none 0 0)] (tm 10) (tm 10)),om 3 11] [.toR 11,.keepE [1,3]]) (.seq (.seq
 (.reg [od 12 (lG 4 1),od 13 (.call 41 [(tm 12)]),od 14 (le 0 13),od 15 (.mv (ki 0))] [.keepE [1,3,13,14,15]]) (.block 0 qMa)) (.seq (.reg [om 47 3,om 2 47] [.frz 11,.keepE [2]]) .ret))))
theorem qMj (h:∀ K:St->Prop,K=run P Γ qMZ Q->run P Γ qMy (B0 K Q) s):run P Γ qMZ Q s:=Am h
theorem qMk (h:∀ K:St->Prop,K=run P Γ qMa Q->run P Γ qMz (B0 K Q) s):run P Γ qMa Q s:=Am h
def qN1:List RV:=[.tmp 2]
/- probecard/cones.reached (function 84) -/
abbrev qN2:IC:=.gh (.seq (.reg [od 16 (.bin .lss (tm 15) (tm 14))] [.keepE [5,6,13,14,15,16]]) (.seq (.cond (tm 16) .skip (.exit 0)) (.seq (.block 1 (.seq (.reg [od 17 (ia 1 13 15),od 18 (ld 1 17),om 8 18] [.keepE [5,6,8,13,14,15]])
 (.reg [od 19 (ld 1 6),om 20 8,od 21 (.hcallvW (tm 19) [(tm 20)] 0)] [.keepE [5,6,13,14,15]]))) (.reg [od 22 (.bin .add (tm 15) (ki 1)),om 15 22] [.keepE [5,6,13,14,15]])))) [.keepE [5,6,13,14,15]]
def qMb:IC:=.loop qN2
abbrev qN3:IC:=(.seq (.reg [od 2 (.box true (tm 0)),od 4 (.mv kN)] [.keepE [1,2]]) (.seq (.reg [od 9 (ld 1 2),od 10 (le 0 9),od 11 (.mk 4 1 [(.bool false)] (tm 10) (tm 10)),od 5 (.alloc false [(.slice none 0 0)]),on (.store 1 (tm 5) (tm
 11))] [.keepE [1,2,5]]) (.seq (.reg [od 6 (.alloc false [.nilFunc])] [.keepE [1,2,5,6]]) (.seq (.reg [od 12 (.mkf 150 [(tm 5),(tm 2),(tm 6)]),on (.store 1 (tm 6) (tm 12))] [.keepE [1,5,6]]) (.seq (.seq (.reg [om 13 1,od
 14 (le 0 13),od 15 (.mv (ki 0))] [.keepE [5,6,13,14,15]]) (.block 0 qMb)) (.seq (.reg [od 23 (ld 1 5),om 4 23] [.keepE [4]]) .ret))))))
theorem qMl (h:∀ K:St->Prop,K=run P Γ qMb Q->run P Γ qN2 (B0 K Q) s):run P Γ qMb Q s:=Am h
def qN4:List RV:=[.tmp 4]
/- probecard/cones.reached$1 (function 150) -/
abbrev qMs:IC:=.gh (.seq (.reg [od 20 (.bin .lss (tm 19) (tm 18))] [.keepE [3,17,18,19,20]]) (.seq (.cond (tm 20) .skip (.exit 0)) (.seq (.block 1 (.seq (.reg [od 21 (ia 1 17 19),od 22 (ld 1 21),om 6 22] [.keepE [3,6,17,18,19]]) (.reg
 [od 23 (ld 1 3),om 24 6,od 25 (.hcallvW (tm 23) [(tm 24)] 0)] [.keepE [3,17,18,19]]))) (.reg [od 26 (.bin .add (tm 19) (ki 1)),om 19 26] [.keepE [3,17,18,19]])))) [.keepE [3,17,18,19]]
def qMY:IC:=.loop qMs
abbrev qMd:IC:=(.seq (.seq (.reg [od 7 (ld 1 1),om 8 0,od 9 (ia 1 7 8),od 10 (ld 1 9)] [.keepE [0,1,2,3,10]]) (.cond (tm 10) .ret .skip)) (.seq (.reg [od 11 (ld 1 1),om 12 0,od 13 (ia 1 11 12),on (.store 1 (tm 13) kT)] [.keepE [0,2,
 3]]) (.seq (.reg [od 14 (ld 1 2),om 15 0,od 16 (ia 1 14 15),od 17 (ld 1 16),od 18 (le 0 17),od 19 (.mv (ki 0))] [.keepE [3,17,18,19]]) (.block 0 qMY))))
theorem qMi (h:∀ K:St->Prop,K=run P Γ qMY Q->run P Γ qMs (B0 K Q) s):run P Γ qMY Q s:=Am h
def qMe:List RV:=[]
/- probecard/cones.set (function 83) -/
abbrev qNK:IC:=.gh (.seq (.reg [od 9 (.bin .lss (tm 8) (tm 7))] [kp [3,6,7,8,9] [17]]) (.seq (.cond (tm 9) .skip (.exit 0)) (.seq (.block 1 (.seq (.reg [om 10 8,od 11 (ia 1 6 8),od 12 (ld 1 11),om 4 10,om 5 12] [kp [3,4,5,6,7,8]
 [17]]) (.seq (.reg [om 13 5] [kp [3,4,6,7,8,13] [17]]) (.cond (tm 13) (.reg [om 14 3,om 15 4,od 16 (.bsl true 3 1 [(tm 15)]),od 17 (.app false 3 1 (tm 14) (tm 16)),om 3 17] [kp [3,6,7,8] [17]]) .skip)))) (.reg [od 18
 (.bin .add (tm 8) (ki 1)),om 8 18] [kp [3,6,7,8] [17]])))) [kp [3,6,7,8] [17]]
def qMr:IC:=.loop qNK
abbrev qNL:IC:=(.seq (.reg [od 2 (.mv kN)] [kp [0] []]) (.seq (.reg [od 3 (.mv kN)] [.nl 3 17 3 1,kp [0,3] [17]]) (.seq (.seq (.reg [om 6 0,od 7 (le 0 6),od 8 (.mv (ki 0))] [kp [3,6,7,8] [17]]) (.gh (.block 0 qMr) [.frz 17]))
 (.seq (.reg [om 19 3,od 20 (.call 49 [(tm 19)]),om 2 20] [kp [2] []]) .ret))))
theorem qN5 (h:∀ K:St->Prop,K=run P Γ qMr Q->run P Γ qNK (B0 K Q) s):run P Γ qMr Q s:=Am h
def qNM:List RV:=[.tmp 2]
/- probecard/cones.Fanout (function 31) -/
abbrev qN6:IC:=(.seq (.reg [od 2 (.box true (tm 0)),od 4 (.mv kN),od 5 (.mv (ki 0))] [kp [1,2] []]) (.seq (.seq (.reg [od 7 (lG 4 2),om 8 1,od 9 (.call 82 [(tm 7),(tm 8)]),om 6 9] [kp [1,2,6] []]) (.seq (.reg [om 10 6,od 11 (.bin .neq
 (tm 10) (ki 0))] [kp [1,2,6,11] []]) (.cond (tm 11) (.seq (.reg [om 12 6,od 4 (.mv kN),om 5 12] [kp [4,5] []]) .ret) .skip))) (.seq (.reg [od 13 (lG 4 2),od 14 (.call 85 [(tm 13)]),om 15 1,od 16 (.call 84 [(tm 14),(tm
 15)]),od 17 (.call 83 [(tm 16)]),om 4 17,od 5 (.mv (ki 0))] [kp [4,5] []]) .ret)))
def qN7:List RV:=[.tmp 4,.tmp 5]
end
end Go.Lg
namespace Go.Lg
open Go Go.Proofs
theorem qNS:Bc Tryz.prog 82 qNC 15 2 qND=true:=by kernel_rfl
theorem qNT:Bc Tryz.prog 149 qNE 9 2 qNF=true:=by kernel_rfl
theorem qNN:Bc Tryz.prog 189 qMw 13 2 qMx=true:=by kernel_rfl
theorem qNO:Bc Tryz.prog 85 qN0 48 1 qN1=true:=by kernel_rfl
theorem qNP:Bc Tryz.prog 84 qN3 24 2 qN4=true:=by kernel_rfl
theorem qNI:Bc Tryz.prog 150 qMd 27 4 qMe=true:=by kernel_rfl
theorem qNX:Bc Tryz.prog 83 qNL 21 1 qNM=true:=by kernel_rfl
theorem qNR:Bc Tryz.prog 31 qN6 18 2 qN7=true:=by kernel_rfl
end Go.Lg
namespace Go.Lg
open Go Go.Proofs
variable {Γ:Tables}
theorem qNf (c:Bg) (n:Int) (hc:c.nodes.l.length<=1000000000):A7 Tryz.prog Γ 189 [tI n,.ip (tC c) 0] (tB (Q2 c n)):=by
 refine Ac qNN rfl ?_
 by_cases h1:n<0<;>simp(disch:=omega) [qMw,ret,qMx,Dp,G3,F8,Ar,h1,tC,A9,Ab,A6,Q2]
theorem qNg (c:Bg) (hc:c.nodes.l.length<=1000000000) (l:List Int) (cap:Option Nat) (nl:Option Bool) (hl:l.length<=1000000000):B9 Tryz.prog Γ 149 [.agg (tC c),.sl (Av l) cap nl] (tB (!(l.any (Q2 c)))):=by
 refine Cc qNT rfl ?_
 have e:=Z6 (Γ:=Γ) l cap nl 189 [.ip (tC c) 0] (Q2 c) (fun x _=>qNf c x hc) hl
 simp[qNE,tC,A9,Ah,Ap,B8,D9,C7,T.one,AV.one]
 simp[tC,A9,Ah,Ap,B8]at e
 refine A4 e rfl ?_
 simp[ret,qNF]
theorem qNh (hΓ:GOk Γ) (c:Bg) (hc:COk c) (hn:c.nodes.l.length<=1000000000) (h0:D3 c=0) (l:List Int) (cap:Option Nat) (nl:Option Bool) (hl:l.length<=1000000000) (hv:l.any (Q2 c)=false):B9 Tryz.prog Γ 82 [.agg (tC c),.sl (Av l) cap nl] (tI 0):=by
 refine Cc qNS rfl ?_
 have e1:=qNi (Γ:=Γ) hΓ c hc
 have e2:=qNg (Γ:=Γ) c hn l cap nl hl
 rw[h0]at e1
 rw[hv]at e2
 simp[qNC,tC,A9,Ah,Ap,B8,D9,C7,T.one,AV.one]
 simp[tC,A9,Ah,Ap,B8]at e1 e2
 refine A4 e1 rfl ?_
 simp
 refine B6 e2 rfl ?_
 simp[ret,qND]
theorem qNl {Q:AX->St->Prop} (B:List Bool) (hn:B.length<=1000000000) (t6:Option Nat) (n6:Option Bool)
  (h0:Q (.exit 0) ⟨[(3,.ls 17 0 (qMc B 0).length none),(6,.t (.sl (An tB B) t6 n6)),(7,.t (tI B.length)),(8,.t (tI B.length)),(9,.t (tB false))],[(17,.sl 3 1 (Av (qMc B 0)))]⟩) :
  ∀ (k i:Nat),k+i=B.length ->
  run Tryz.prog Γ qMr Q ⟨[(3,.ls 17 0 (qMc (B.take i) 0).length none),(6,.t (.sl (An tB B) t6 n6)),(7,.t (tI B.length)),(8,.t (tI i))],[(17,.sl 3 1 (Av (qMc (B.take i) 0)))]⟩
 | 0,i,h=>by
  refine qN5 fun K hK=>?_
  have h2:i=B.length:=by omega
  subst h2
  rw[xzn]
  simp
  simpa using h0
 | k+1,i,h=>by
  refine qN5 fun K hK=>?_
  have h2:i<B.length:=by omega
  have e:=gE (f:=tB) false h2
  have e':=gE' (f:=tB) false h2
  have hgd:B.getD i false=B[i]:=by simp[xqe,h2]
  rw[hgd]at e e'
  have ih:=qNl B hn t6 n6 h0 k (i+1) (by omega)
  rw[qNm h2]at ih
  have hl:(qMc (B.take i) 0).length<=i:=by
   have:=qNW (l:=B.take i) (i:=0)
   rw[xzf]at this;omega
  generalize qMc (B.take i) 0=acc at *
  generalize B[i]=b at *
  have w1:=Jm (i:=i) (by omega)
  cases b
  ·simp at ih
   simp[A5,Aa,h2,e,e',w1]
   rw[hK]
   simpa using ih
  ·have hE:Av acc++[[tI (i:Int)]]=Av (acc++[(i:Int)]):=Gy
   simp at ih
   simp[A5,Aa,h2,e,e',w1,hE]
   refine⟨by omega,?_⟩
   rw[hK]
   simpa using ih
theorem qNn (B:List Bool) (hn:B.length<=1000000000) (cap:Option Nat) (nl:Option Bool):B9 Tryz.prog Γ 83 [.sl (An tB B) cap nl] (.sl (Av (qMc B 0)) (some (qMc B 0).length) none):=by
 refine Cc qNX rfl ?_
 have e:=q7D (Γ:=Γ) (Av (qMc B 0)) none none Aa
 have hl:=fun Q h0=>qNl (Γ:=Γ) (Q:=Q) B hn cap nl h0 B.length 0 (by omega)
 simp[qMc]at hl
 simp[qNL,A5]
 refine hl _ ?_
 simp[St.freeze,del,Aw.closed,qDb rfl,qBD]
 refine B6 e rfl ?_
 simp[ret,qNM,A5]
def hR (acc:List Int):List (Nat×Aw):=q83 acc
theorem qNq {Q:AX->St->Prop} (c:Bg) (hn:c.nodes.l.length<=1000000) (l:List (Sl Int)) (n:Nat) (hl:n<l.length) (row:Kt) (hrow:∀ q∈row,0<=q.1/\q.1<c.nodes.l.length) (hrl:row.length<=1000000) (m:Nat) (hm:m=l.length) (t13 t14 t15:T) (R:List Int)
  (h0:Q (.exit 2) ⟨[(1,.t (.ip (tC c) 0)),(3,.ls 11 0 m none),(4,.t (tI n)),(13,.t t13),(14,.t t14),(15,.t t15),(20,.t (Gn row)),(21,.t (tI row.length)),(22,.t (tI row.length)),(23,.t (tB false))],q83 R++[(11,.rs 33 1 ((esR l).set n [q82 R]))]⟩) :
  ∀ (j i:Nat) (acc:List Int),j+i=row.length->acc.length<=i->acc++U9 c (row.drop i)=R ->
  run Tryz.prog Γ qMZ Q ⟨[(1,.t (.ip (tC c) 0)),(3,.ls 11 0 m none),(4,.t (tI n)),(13,.t t13),(14,.t t14),(15,.t t15),(20,.t (Gn row)),(21,.t (tI row.length)),(22,.t (tI i))],q83 acc++[(11,.rs 33 1 ((esR l).set n [q82 acc]))]⟩
 | 0,i,acc,h,ha,hR=>by
  refine qMj fun K hK=>?_
  have h2:i=row.length:=by omega
  subst h2
  rw[xzs]at hR
  simp only[U9,List.filter_nil,xq3,List.append_nil]at hR
  subst hR
  simp[Gn,Ab]at h0
  simp[Gn,Ab]
  simpa using h0
 | j+1,i,acc,h,ha,hR=>by
  refine qMj fun K hK=>?_
  have h2:i<row.length:=by omega
  rw[xqq h2]at hR
  have hq:=hrow _ (xqj h2)
  have eg:∀ h,(Bo tLn row)[i]'h=tLn row[i]:=fun h=>by simp[Bo]
  generalize row[i]=p at *
  obtain⟨k,pin⟩:=p
  simp only[tLn]at eg
  have hk:=q5Q hq.1 hq.2
  have hk':=q9u hq.1 hq.2
  have hkk:(nd c k).k=Ad c k.toNat:=rfl
  have hcomb:=Z7 (Γ:=Γ) (Ad c k.toNat)
  have hcb:decide (1<=Ad c k.toNat/\Ad c k.toNat<=13)=By (Ad c k.toNat):=rfl
  rw[hcb]at hcomb
  have ih:=fun acc=>qNq c hn l n hl row hrow hrl m hm t13 t14 t15 R h0 j (i+1) acc (by omega)
  simp[Gn,Ab]at ih
  have hget:=fun x=>qJj (x:=x) hl
  have w1:=Jm (i:=i) (by omega)
  by_cases hb:By (Ad c k.toNat)=true
  ·have hR2:(acc++[k])++U9 c (row.drop (i+1))=R:=by rw[<- hR];simp[U9,hb]
   have ih:=ih (acc++[k]) (by simp;omega) hR2
   rw[hb]at hcomb
   by_cases hacc:acc=[]
   ·subst hacc
    simp[q83,q82]at ih
    simp[Gn,Ab,h2,eg,q0N,tC,A9,q83,q82,hk,hk',hq,Bj,E3,hkk]
    refine A4 hcomb rfl ?_
    simp[-A8,-Au,-Ae,-Bd,hl,hm,hget,q2Q,B8,q6P,Pn,Uw,Jd,qG8,qDV,qDW,qA3,qDX,qDY,qDZ,Yd,Ye,Kq,Xk,q4h,q3q,Vy,q0b,q6c]
    rw[hK,w1]
    simpa[tC,A9,B8,hm,An]using ih
   ·have hacc2:¬ acc++[k]=[]:=by simp
    have hE:Av acc++[[tI k]]=Av (acc++[k]):=Gy
    simp only[q83,q82,if_neg hacc2]at ih
    simp[Gn,Ab,h2,eg,q0N,tC,A9,q83,q82,hk,hk',hq,Bj,E3,hkk,hacc]
    refine A4 hcomb rfl ?_
    simp[-A8,-Au,-Ae,-Bd,hl,hm,hget,q2Q,B8,q6P,Pn,Uw,Jd,qG8,qDV,qDW,qA3,qDX,qDY,qDZ,Yd,Ye,Kq,Xk,q4h,q3q,Vy,q0b,q6c,A5,Aa,hacc]
    refine⟨by omega,?_⟩
    rw[hK,w1,hE]
    simpa[tC,A9,B8,hm]using ih
  ·have hb:By (Ad c k.toNat)=false:=by simpa using hb
   have hR2:acc++U9 c (row.drop (i+1))=R:=by rw[<- hR];simp[U9,hb]
   have ih:=ih acc (by omega) hR2
   rw[hb]at hcomb
   by_cases hacc:acc=[]
   ·subst hacc
    simp[q83,q82]at ih
    simp[Gn,Ab,h2,eg,q0N,tC,A9,q83,q82,hk,hk',hq,Bj,E3,hkk]
    refine A4 hcomb rfl ?_
    simp[-A8,-Au,-Ae,-Bd,hl,hm,hget,q2Q,B8,q6P,Pn,Uw,Jd,qG8,qDV,qDW,qA3,qDX,qDY,qDZ,Yd,Ye,Kq,Xk,q4h,q3q,Vy,q0b,q6c]
    rw[hK,w1]
    simpa[tC,A9,B8,hm,An,q6P]using ih
   ·simp only[q83,q82,if_neg hacc]at ih
    simp[Gn,Ab,h2,eg,q0N,tC,A9,q83,q82,hk,hk',hq,Bj,E3,hkk,hacc]
    refine A4 hcomb rfl ?_
    simp[-A8,-Au,-Ae,-Bd,hl,hm,hget,q2Q,B8,q6P,Pn,Uw,Jd,qG8,qDV,qDW,qA3,qDX,qDY,qDZ,Yd,Ye,Kq,Xk,q4h,q3q,Vy,q0b,q6c]
    rw[hK,w1]
    simpa[tC,A9,B8,hm]using ih
theorem qNr {Q:AX->St->Prop} (c:Bg) (hn:c.nodes.l.length<=1000000) (hrow:∀ r∈As c,r.length<=1000000/\∀ q∈r,0<=q.1/\q.1<c.nodes.l.length)
  (h0:Q (.exit 0) ⟨[(1,.t (.ip (tC c) 0)),(3,.ls 11 0 (As c).length none),(13,.t (q10 (As c))),(14,.t (tI (As c).length)),(15,.t (tI (As c).length)),(16,.t (tB false))],[(11,.rs 33 1 (esR (W2 c)))]⟩) :
  ∀ (j i:Nat),j+i=(As c).length ->
  run Tryz.prog Γ qMa Q ⟨[(1,.t (.ip (tC c) 0)),(3,.ls 11 0 (As c).length none),(13,.t (q10 (As c))),(14,.t (tI (As c).length)),(15,.t (tI i))],[(11,.rs 33 1 (esR (q0d c i)))]⟩
 | 0,i,h=>by
  refine qMk fun K hK=>?_
  have h2:i=(As c).length:=by omega
  subst h2
  have h3:q0d c (As c).length=W2 c:=by
   have:(W2 c).length=(As c).length:=by simp[W2]
   simp[q0d,<- this]
  rw[h3]
  simp[q10,A5]at h0
  simp[q10,A5]
  simpa using h0
 | j+1,i,h=>by
  refine qMk fun K hK=>?_
  have h2:i<(As c).length:=by omega
  have hr:=hrow _ (xqj h2)
  have e:=gE (f:=Gn) ([]:Kt) h2
  have e':=gE' (f:=Gn) ([]:Kt) h2
  have hgd:(As c).getD i []=(As c)[i]:=by simp[xqe,h2]
  rw[hgd]at e e'
  have hset:=qGB h2
  have hself:(esR (q0d c i)).set i [.t (B8 q6P)]=esR (q0d c i):=by
   rw[qDa]
   congr 1
   refine List.ext_getElem? fun k=>?_
   rw[xzb]
   split
   ·rename_i hk
    subst hk
    rw[qBG h2,if_pos (by rw[q84 (by omega)];exact h2)]
   ·rfl
  have hln:=q84 (c:=c) (i:=i) (by omega)
  generalize hRow:(As c)[i]=row at *
  have hl:=fun Q g0=>qNq (Γ:=Γ) (Q:=Q) c hn (q0d c i) i (by rw[hln];exact h2) row hr.2 hr.1 (As c).length hln.symm (q10 (As c)) (tI (As c).length) (tI i) (U9 c row) g0 row.length 0 [] (by omega) (by simp) (by rw[xzt,List.nil_append])
  have ih:=qNr c hn hrow h0 j (i+1) (by omega)
  rw[<- hset]at ih
  have w1:=Jm (i:=i) (by have:=H5 c;omega)
  have hrw:An Gn (As c)=(As c).map fun r=>[Gn r]:=rfl
  simp[q10,Gn,q83,q82,hself]at hl
  simp[q10]at ih
  simp[q10,A5,Aa,h2,e,e',Gn,Ab]
  refine hl _ ?_
  by_cases hR:U9 c row=[]
  ·simp only[rdS,hR,if_true]at ih
   have hself2:(q0d c i).set i q6P=q0d c i:=by
    refine List.ext_getElem? fun k=>?_
    rw[xzb]
    split
    ·rename_i hk
     subst hk
     rw[qBG h2,if_pos (by rw[hln];exact h2)]
    ·rfl
   rw[hself2]at ih
   simp[-A8,-Au,-Ae,-Bd,St.freeze,del,Aw.closed,qGA,qCR,qCS,qBD,qDb,q3s,q80,qCP,hR,hself]
   rw[hK,w1]
   simpa using ih
  ·simp only[rdS,hR,if_false]at ih
   simp[-A8,-Au,-Ae,-Bd,St.freeze,del,Aw.closed,qGA,qCR,qCS,qBD,qDb,q3s,q80,qCP,hR]
   rw[hK,w1]
   have hx:=qDa (l:=q0d c i) (n:=i) (x:=⟨U9 c row,none,none⟩)
   simp only[B8]at hx
   rw[hx]
   simpa using ih
theorem qNZ (c:Bg) (hn:c.nodes.l.length<=16384) (hi:∀ x∈c.nodes.l,x.inn.l.length<=16):B9 Tryz.prog Γ 85 [.agg (tC c)] (qFg ⟨W2 c,none,none⟩):=by
 refine Cc qNO rfl ?_
 have e7:=q5q (Γ:=Γ) c (by omega) hi
 have hf:=H5 c
 have hrow:∀ r∈As c,r.length<=1000000/\∀ q∈r,0<=q.1/\q.1<c.nodes.l.length:=fun r hr=>by
  have hb:=q3Z c (by omega) hi r hr
  refine⟨by omega,fun q hq=>?_⟩
  obtain⟨i,h5,h6⟩:=Rn c r hr q hq
  omega
 have hl:=fun Q h0=>qNr (Γ:=Γ) (Q:=Q) c (by omega) hrow h0 (As c).length 0 (by omega)
 have h00:esR (q0d c 0)=List.replicate c.nodes.l.length [AV.t (T.sl [] (some 0) (some true))]:=by
  simp[q0d,esR,B8,q6P,hf,An]
 rw[h00,hf]at hl
 simp[tC,A9,Ah,Ap,B8,q10,hf]at hl
 simp[qN0,tC,A9,Ah,Ap,B8]
 rw[Ab]
 refine⟨by omega,?_⟩
 simp[tC,A9,Ah,Ap,B8]at e7
 refine B6 e7 rfl ?_
 simp[q10,A5,hf]
 refine hl _ ?_
 have hrl:(W2 c).length=c.nodes.l.length:=by simp[W2,hf]
 simp[St.freeze,del,qCT,qHb hrl,qCR,qCS,qBD,q3s,q80,qN1,ret]
def tEd (E:List (Sl Int)):T:=.sl (An B8 E) none none
def wkA (E:List (Sl Int)):AV:=.fn 150 [.lp 1000000 0 0,.t (.ip [tEd E] 0),.lp 1000001 0 0]
def hpW (E:List (Sl Int)) (N:Nat) (B:List Bool):List (Nat×Aw):=[(1000000,.bx [.ls 1000002 0 N none]),(1000001,.bx [wkA E]),(1000002,.sl 4 1 (An tB B))]
theorem qNx {Q:AX->St->Prop} (E:List (Sl Int)) (N f:Nat) (ih:∀ (k:Nat) (B:List Bool),k<N->B.length=N->qN8 B<f->Bf Tryz.prog Γ 150 (hpW E N B) [.t (tI k),.lp 1000000 0 0,.t (.ip [tEd E] 0),.lp 1000001 0 0] (.t (.tup [])) (hpW E N (wkF E f k B)))
  (row:Sl Int) (hrow:∀ k∈row.l,0<=k/\k<N) (hrl:row.l.length<=1000000) (R:List Bool)
  (h0:Q (.exit 0) ⟨[(3,.lp 1000001 0 0),(17,.t (B8 row)),(18,.t (tI row.l.length)),(19,.t (tI row.l.length)),(20,.t (tB false))],hpW E N R⟩) :
  ∀ (j i:Nat) (B:List Bool),j+i=row.l.length->B.length=N->qN8 B<f->(row.l.drop i).foldl (fun b k=>wkF E f k.toNat b) B=R ->
  run Tryz.prog Γ qMY Q ⟨[(3,.lp 1000001 0 0),(17,.t (B8 row)),(18,.t (tI row.l.length)),(19,.t (tI i))],hpW E N B⟩
 | 0,i,B,h,hB,ho,hR=>by
  refine qMi fun K hK=>?_
  have h2:i=row.l.length:=by omega
  subst h2
  rw[xzs]at hR
  simp only[List.foldl_nil]at hR
  subst hR
  simp[hpW,B8]at h0
  simp[hpW,B8]
  simpa using h0
 | j+1,i,B,h,hB,ho,hR=>by
  refine qMi fun K hK=>?_
  have h2:i<row.l.length:=by omega
  have e:=gE (f:=tI) 0 h2
  have e':=gE' (f:=tI) 0 h2
  rw[Bn h2]at e e'
  have hq:=hrow _ (xqj h2)
  rw[xqq h2,xz4]at hR
  generalize row.l[i]=x at *
  have hc:=ih x.toNat B (by omega) hB ho
  have hx:((x.toNat:Nat):Int)=x:=by omega
  rw[hx]at hc
  have hB2:(wkF E f x.toNat B).length=N:=by rw[qN9];exact hB
  have ho2:qN8 (wkF E f x.toNat B)<f:=by
   have:=qNY (by rw[qN9]) fun i hi=>qNH (E:=E) f x.toNat B i hi
   omega
  have ih2:=qNx E N f ih row hrow hrl R h0 j (i+1) (wkF E f x.toNat B) (by omega) hB2 ho2 hR
  generalize wkF E f x.toNat B=B2 at *
  have w1:=Jm (i:=i) (by omega)
  simp[hpW,wkA,B8]at ih2 hc
  simp[hpW,wkA,B8,A5,Aa,h2,e,e',w1]
  have i0:List.idxOf 1000000 [1000000,1000001,1000002]=0:=rfl
  have i1:List.idxOf 1000001 [1000000,1000001,1000002]=1:=rfl
  have i2:List.idxOf 1000002 [1000000,1000001,1000002]=2:=rfl
  refine⟨[1000000,1000001,1000002],by simp,.t (.tup []),hpW E N B2,by simpa[hpW,wkA,i0,i1,i2]using hc,by simp[Uk,Aw.sh,hpW,A5,hB,hB2],?_⟩
  simp[hpW,wkA,i0,i1,i2,w1]
  rw[hK]
  simpa using ih2
theorem qO4 (E:List (Sl Int)) (N:Nat) (hEl:E.length=N) (hN:N<=1000000) (hE:∀ i k,k∈eOf E i->0<=k/\k<N) (hrl:∀ i,(eOf E i).length<=1000000):∀ (f k:Nat) (B:List Bool),k<N->B.length=N->qN8 B<f ->
  Bf Tryz.prog Γ 150 (hpW E N B) [.t (tI k),.lp 1000000 0 0,.t (.ip [tEd E] 0),.lp 1000001 0 0] (.t (.tup [])) (hpW E N (wkF E f k B))
 | 0,k,B,_,_,h=>by omega
 | f+1,k,B,hk,hB,ho=>by
  have ih:=qO4 E N hEl hN hE hrl f
  refine Ee qNI rfl ?_
  have b:=gE (f:=tB) false (l:=B) (i:=k) (by omega)
  have b':=gE' (f:=tB) false (l:=B) (i:=k) (by omega)
  have g:=gE (f:=B8) q6P (l:=E) (i:=k) (by omega)
  have g':=gE' (f:=B8) q6P (l:=E) (i:=k) (by omega)
  have hkE:k<E.length:=by omega
  simp only[wkF]
  by_cases hb:B.getD k false=true
  ·rw[hb]at b b'
   rw[if_pos hb]
   simp[qMd,hpW,wkA,tEd,A5,hB,hk,b,b',qMe,qE4]
  ·have hb2:B.getD k false=false:=by simpa using hb
   rw[if_neg hb]
   rw[hb2]at b b'
   have hs:=qNc (by omega:k<B.length) hb2
   have hrow:∀ q∈(E.getD k q6P).l,0<=q/\q<N:=fun q hq=>hE k q hq
   have hl1:=fun Q h0=>qNx (Γ:=Γ) (Q:=Q) E N f ih (E.getD k q6P) hrow (hrl k) ((eOf E k).foldl (fun b k=>wkF E f k.toNat b) (B.set k true)) h0 (E.getD k q6P).l.length 0 (B.set k true) (by omega) (by simpa using hB) (by omega) rfl
   have bs:(An tB B).set k [tB true]=An tB (B.set k true):=I8
   generalize (eOf E k).foldl (fun b k=>wkF E f k.toNat b) (B.set k true)=R at *
   generalize E.getD k q6P=row at *
   simp[hpW,wkA,tEd,B8]at hl1
   simp[qMd,hpW,wkA,tEd,A5,Aa,hB,hk,b,b',g,g',hEl,bs,B8]
   refine hl1 _ ?_
   simp[qMe,qE4]
theorem qNy {Q:AX->St->Prop} (E:List (Sl Int)) (N:Nat) (hEl:E.length=N) (hN:N<=1000000) (hE:∀ i k,k∈eOf E i->0<=k/\k<N) (hrl:∀ i,(eOf E i).length<=1000000)
  (l:List Int) (cap:Option Nat) (nl:Option Bool) (hl:∀ k∈l,0<=k/\k<N) (hll:l.length<=1000000) (R:List Bool)
  (h0:Q (.exit 0) ⟨[(5,.lp 5 0 0),(6,.lp 6 0 0),(13,.t (.sl (Av l) cap nl)),(14,.t (tI l.length)),(15,.t (tI l.length)),(16,.t (tB false))],[(6,.bx [.fn 150 [.lp 5 0 0,.t (.ip [tEd E] 0),.lp 6 0 0]]),(5,.bx [.ls 11 0 N none]),(11,.sl 4 1 (An tB R))]⟩) :
  ∀ (j i:Nat) (B:List Bool),j+i=l.length->B.length=N->rcB E (l.drop i) B=R ->
  run Tryz.prog Γ qMb Q ⟨[(5,.lp 5 0 0),(6,.lp 6 0 0),(13,.t (.sl (Av l) cap nl)),(14,.t (tI l.length)),(15,.t (tI i))],[(6,.bx [.fn 150 [.lp 5 0 0,.t (.ip [tEd E] 0),.lp 6 0 0]]),(5,.bx [.ls 11 0 N none]),(11,.sl 4 1 (An tB B))]⟩
 | 0,i,B,h,hB,hR=>by
  refine qMl fun K hK=>?_
  have h2:i=l.length:=by omega
  subst h2
  rw[xzs]at hR
  have hR:B=R:=hR
  subst hR
  simp
  simpa using h0
 | j+1,i,B,h,hB,hR=>by
  refine qMl fun K hK=>?_
  have h2:i<l.length:=by omega
  have e:=gE (f:=tI) 0 h2
  have e':=gE' (f:=tI) 0 h2
  rw[Bn h2]at e e'
  have hq:=hl _ (xqj h2)
  rw[xqq h2]at hR
  generalize l[i]=x at *
  have ho:qN8 B<N+1:=by
   have:qN8 B<=B.length:=List.countP_le_length
   omega
  have hc:=qO4 (Γ:=Γ) E N hEl hN hE hrl (N+1) x.toNat B (by omega) hB ho
  have hx:((x.toNat:Nat):Int)=x:=by omega
  rw[hx]at hc
  have hR:rcB E (l.drop (i+1)) (wkF E (E.length+1) x.toNat B)=R:=hR
  rw[hEl]at hR
  have hB2:(wkF E (N+1) x.toNat B).length=N:=by rw[qN9];exact hB
  have ih2:=qNy E N hEl hN hE hrl l cap nl hl hll R h0 j (i+1) (wkF E (N+1) x.toNat B) (by omega) hB2 hR
  generalize wkF E (N+1) x.toNat B=B2 at *
  have w1:=Jm (i:=i) (by omega)
  simp at ih2
  simp[hpW,wkA]at hc
  have i0:List.idxOf 5 [5,6,11]=0:=rfl
  have i1:List.idxOf 6 [5,6,11]=1:=rfl
  have i2:List.idxOf 11 [5,6,11]=2:=rfl
  simp[A5,Aa,h2,e,e',w1]
  refine⟨[5,6,11],by simp,.t (.tup []),hpW E N B2,by simpa[hpW,wkA,i0,i1,i2]using hc,by simp[Uk,Aw.sh,hpW,A5,hB,hB2],?_⟩
  simp[hpW,wkA,i0,i1,i2,w1]
  rw[hK]
  simpa using ih2
theorem qNa (E:List (Sl Int)) (hN:E.length<=1000000) (hE:∀ i k,k∈eOf E i->0<=k/\k<E.length) (hrl:∀ i,(eOf E i).length<=1000000) (l:List Int) (cap:Option Nat) (nl:Option Bool) (hl:∀ k∈l,0<=k/\k<E.length) (hll:l.length<=1000000) :
  B9 Tryz.prog Γ 84 [tEd E,.sl (Av l) cap nl] (.sl (An tB (qNA E l)) none none):=by
 refine Cc qNP rfl ?_
 have hl1:=fun Q h0=>qNy (Γ:=Γ) (Q:=Q) E E.length rfl hN hE hrl l cap nl hl hll (qNA E l) h0 l.length 0 (List.replicate E.length false) (by omega) (by simp) rfl
 have hB0:List.replicate E.length [T.v (.bool false)]=An tB (List.replicate E.length false):=by simp[An]
 have hlen:=qNV (E:=E) (l:=l)
 generalize qNA E l=R at *
 simp[tEd]at hl1
 simp[qN3,tEd,A5]
 refine⟨by omega,?_⟩
 simp[hB0,A5]at hl1 ⊢
 refine hl1 _ ?_
 have htk:(An tB R).take E.length=An tB R:=by rw[<- hlen,<- A5 (f:=tB) (l:=R)];exact xzn
 simp[ret,qN4,Aj,htk]
theorem qJn {n:Nat}:(rng n).Pairwise (fun a b=>a<b):=by
 rw[rng,List.pairwise_map]
 exact List.pairwise_lt_range.imp fun h=>by omega
theorem qEc {n:Nat} {A B l:List Int} (h1:l.Nodup) (h2:∀ i,i∈l↔i∈Gs n A B):Vi l=Gs n A B:=by
 have hp:(Vi l).Perm l:=List.mergeSort_perm _ _
 have hd:(Gs n A B).Nodup:=q97.sublist List.filter_sublist
 refine List.Perm.eq_of_pairwise (le:=fun a b=>a<=b) (fun a b _ _ h3 h4=>by omega) ?_ ?_ (hp.trans ((List.perm_ext_iff_of_nodup h1 hd).2 h2))
 ·have:=List.pairwise_mergeSort (le:=fun x y:Int=>decide (x<=y)) (fun a b c h3 h4=>by simp at *;omega) (fun a b=>by simp;omega) l
  exact this.imp fun h=>by simpa using h
 ·exact(qJn.sublist List.filter_sublist).imp fun h=>by omega
theorem qHi (hΓ:GOk Γ) (c:Bg) (hR:ROk (Xj c)) (h:D3 c=0) (hn:c.nodes.l.length<=900) {pin0 pst0:List Int} (h1:pin0.length=(Be c).length) (h2:pst0.length=(Ba c).length) (p:Pat) (h3:p.inn.l.length=(Be c).length) (h4:p.st.l.length=(Ba c).length)
  (v0:∀ v∈C9 c pin0 pst0,V4 v) (v1:∀ v∈p.inn.l,V4 v) (v2:∀ v∈p.st.l,V4 v) (ev:Int) :
  Bf Tryz.prog Γ 12 (hS (Ks c) c.nodes.l.length (C9 c pin0 pst0) ev) [.lp 1000000 0 0,.t (.agg (tP p))] (.t (.tup [.sl (Av (Gs c.nodes.l.length (C9 c pin0 pst0) (C9 c p.inn.l p.st.l))) (some (Gs c.nodes.l.length (C9 c pin0 pst0) (C9 c p.inn.l p.st.l)).length) none,tI 0]))
   (hS (Ks c) c.nodes.l.length (C9 c p.inn.l p.st.l) (Qg c (C9 c pin0 pst0) (C9 c p.inn.l p.st.l))):=by
 have hO:=qGI h hn
 have hD:=qGH h
 obtain⟨a1,a2,a3,a4⟩:=qBI (by omega) hD hO rfl rfl h1 h2 p h3 h4 v0 v1 v2
 have hs:=qEc a2 a3
 have hl:(C9 c pin0 pst0).length=c.nodes.l.length:=(q4P h _ _).1
 have hab:∀ {l:List Int},(∀ v∈l,V4 v)->l.any Di=false:=fun h=>xz8.2 fun v hv=>by have:=(h v hv).2;simp[Di];omega
 have he:Xl (Ks c) p=0:=by
  unfold Xl
  rw[if_neg,if_neg]
  ·rw[hab v1,hab v2];simp
  ·show ¬ (p.inn.l.length≠(Be c).length\/p.st.l.length≠(Ba c).length)
   omega
 have il:=Rw c
 have sl:=Ld c
 have hh:=qHa (Γ:=Γ) hΓ (Ks c) c.nodes.l.length hO (by omega) hR (by simp[Ks,Xj]) il sl (fun k hk=>by have:=Hi k hk;omega) (fun k hk=>by have:=Hi k hk;omega) (C9 c pin0 pst0) ev hl v0 p he ⟨fun v hv=>(v1 v hv).1,fun v hv=>(v2 v hv).1⟩
 rw[hs,a1,a4]at hh
 have hcl:(S5 (Ks c) c.nodes.l.length (C9 c pin0 pst0) p).ch.length=(Gs c.nodes.l.length (C9 c pin0 pst0) (C9 c p.inn.l p.st.l)).length:=by rw[<- hs,S4]
 rw[hcl]at hh
 exact hh
theorem Bf.arg2 {P:Program} {f:FuncId} {hp hp':List (Nat×Aw)} {a b res:AV} {x:T} (ha:toT a=some x) (h:Bf P Γ f hp [b,.t x] res hp'):Bf P Γ f hp [b,a] res hp':=by
 intro w X κ vs hg hk hs har
 refine h w X κ vs hg hk hs ⟨har.1,fun k c v hc hv=>?_⟩
 match k,hc with
 | 0,hc=>exact har.2 0 c v hc hv
 | 1,hc =>
  simp only[xzr,xzq,xqa]at hc
  subst hc
  exact .t _ _ (q3J (har.2 1 a v rfl hv) ha)
theorem Bf.arg1 {P:Program} {f:FuncId} {hp hp':List (Nat×Aw)} {a res:AV} {x:T} (ha:toT a=some x) (h:Bf P Γ f hp [.t x] res hp'):Bf P Γ f hp [a] res hp':=by
 intro w X κ vs hg hk hs har
 refine h w X κ vs hg hk hs ⟨har.1,fun k c v hc hv=>?_⟩
 match k,hc with
 | 0,hc =>
  simp only[xzq,xqa]at hc
  subst hc
  exact .t _ _ (q3J (har.2 0 a v rfl hv) ha)
def qCW (D:C5) (n:Nat) (nets:List Int) (ev:Int):List T:=[A9 D.c.nodes,Ah D.c.names,Ap D.c.mems,B8 D.c.outs,B8 D.inp,B8 D.sts,B8 D.lev,qFg D.rdr,.sl (B7 nets) (some n) none,tI ev]
theorem q4m (D:C5) (n:Nat) (nets:List Int) (ev:Int):A7 Tryz.prog Γ 15 [.ip (qCW D n nets ev) 0] (tI ev):=by
 refine Ac U6 rfl ?_
 simp[N9,Na,qCW]
theorem qGJ {c:Bg} (h:ROk c):ROk (Xj c):=by
 have hl:(Xj c).nodes.l.length=c.nodes.l.length:=by simp[Xj]
 refine⟨⟨⟨by rw[hl];exact h.ok.nodes,h.ok.names,by simp[Xj],h.ok.outs,fun x hx=>?_,fun x hx=>?_,fun m hm=>nomatch hm⟩,h.ok.asc⟩,fun x hx=>?_⟩
 ·obtain⟨y,hy,rfl⟩:=xqy.1 hx
  exact h.ok.kind y hy
 ·obtain⟨y,hy,rfl⟩:=xqy.1 hx
  exact h.ok.inn y hy
 ·obtain⟨y,hy,rfl⟩:=xqy.1 hx
  rw[hl]
  exact h.inn y hy
theorem q5Z {c:Bg}:POk c (Nb c):=⟨by simp[Nb],by simp[Nb],fun v hv=>by rw[xqx hv];simp[V4],fun v hv=>by rw[xqx hv];simp[V4]⟩
def nP (c:Bg) (p:Pat):List Int:=C9 c p.inn.l p.st.l
theorem qIK (hΓ:GOk Γ) {c:Bg} (hc:NOk c) (hk:qFk c):Bf Tryz.prog Γ 11 [] [.t (.agg (tC c))] (.tu [.lp 31 0 0,.t (tI 0)]) [(31,.bx (Ax (Ks c) 634 c.nodes.l.length 0)),(634,.sl 65 1 (B7 (nP c (Nb c))))]:=by
 have hf:=qES hc (q5Z (c:=c))
 unfold qCA at hf
 rw[if_neg (by simp[hc.lev])]at hf
 exact qLd hΓ c hc.ok hk hc.ok.toCirOk hc.ok.asc (by have:=hc.n2;omega) hc.lev hf
theorem q6d (hΓ:GOk Γ) {c:Bg} (hc:NOk c) {p0 p:Pat} (hp0:POk c p0) (hp:POk c p) (ev:Int) :
  Bf Tryz.prog Γ 12 (hS (Ks c) c.nodes.l.length (nP c p0) ev) [.lp 1000000 0 0,.t (.agg (tP p))] (.t (.tup [.sl (Av (Gs c.nodes.l.length (nP c p0) (nP c p))) (some (Gs c.nodes.l.length (nP c p0) (nP c p)).length) none,tI 0]))
   (hS (Ks c) c.nodes.l.length (nP c p) (Qg c (nP c p0) (nP c p))) :=
 qHi hΓ c (qGJ (q7g hc.ok hc.lev)) hc.lev (by have:=hc.n2;omega) hp0.i hp0.s p hp.i hp.s (qHT hc.lev hp0) hp.vi hp.vs ev
theorem qJo {x:CD} (hx:q2Z x) (hm:x.mem=false):qFk (Nz x):=by
 have hl4:=q0Q hx
 have h5:=q0R hx
 have hN:(Nz x).nodes.l=Ec x:=rfl
 have hne:Ec x≠[]:=xza.1 (by omega)
 have hnl:(Nz x).names.l.length=(D8 x).length:=by simp[Nz]
 have hol:(Nz x).outs.l.length<=4:=by simp[Nz];omega
 refine⟨hne,by rw[hN];omega,(fun h=>nomatch h),xza.1 (by omega),by omega,(fun h=>nomatch h),?_,?_,Ly (by simp) (by simp;omega)⟩
 ·simp[Nz,q7T,hm]
 ·exact qER hm
end Go.Lg
namespace Go.Lg
open Go
section
variable {P:Program} {Γ:Tables} {Q:AX->St->Prop} {s:St}
/- probecard/probecardlaw08.example (function 52) -/
abbrev Zy:IC:=(.seq (.reg [od 0 (.alloc false [(.slice none 0 0),(.slice none 0 0),(.slice none 0 0),(.slice none 0 0)])] [kp [0] [0]]) (.seq (.reg [od 1 (.build [(1,(ku 0)),(1,kN),(1,(ki 0)),(1,(ki 0))]),od 2 (.bsl true 3 1 [(ki
 3)]),od 3 (.build [(1,(ku 14)),(1,(tm 2)),(1,(ki 0)),(1,(ki 0))]),od 4 (.bsl true 3 1 [(ki 0)]),od 5 (.build [(1,(ku 4)),(1,(tm 4)),(1,(ki 0)),(1,(ki 0))]),od 6 (.bsl true 3 1 [(ki 1),(ki 2)]),od 7 (.build [(1,
 (ku 5)),(1,(tm 6)),(1,(ki 0)),(1,(ki 0))]),od 8 (.bsl true 3 1 [(ki 0),(ki 2)]),od 9 (.build [(1,(ku 12)),(1,(tm 8)),(1,(ki 0)),(1,(ki 0))]),od 10 (.bsl true 3 1 [(ki 4)]),od 11 (.build [(1,(ku 13)),(1,(tm
 10)),(1,(ki 0)),(1,(ki 0))]),od 12 (.bsl true 50 4 [(tm 1),(tm 3),(tm 5),(tm 7),(tm 9),(tm 11)]),od 13 (.bsl true 9 1 [(.const (sV [97])),(.const (sV [113])),(.const (sV [110])),(.const (sV [103])),(.const (sV
 [116])),(.const (sV [98]))]),od 14 (.bsl true 3 1 [(ki 3),(ki 5)]),od 15 (.build [(1,(tm 12)),(1,(tm 13)),(1,kN),(1,(tm 14))]),on (.store 4 (tm 0) (tm 15))] [kp [0] [0]]) .ret))
def Zz:List RV:=[.cell 0 4 true]
/- probecard/probecardlaw08.lives (function 16) -/
abbrev q2B:IC:=.gh (.seq (.seq (.reg [om 41 6,od 42 (.bin .lss (tm 41) (ki 4))] [kp [1,3,4,5,6,42] [1031,1634]]) (.cond (tm 42) .skip (.exit 0))) (.seq (.block 1 (.seq (.reg [om 46 3,om 47 6,od 48 (ia 1 46 47),od 49 (ld 1 48),od 50
 (.call 54 [(tm 49)]),om 45 50,od 51 (ex 45 0),od 52 (ex 45 1),om 7 51,om 8 52] [kp [1,3,4,5,6,7] [1031,1634]]) (.seq (.seq (.reg [om 53 7,od 54 (le 0 53),od 55 (.bin .neq (tm 54) (ki 2))] [kp [1,3,4,5,6,7,55]
 [1031,1634]]) (.cond (tm 55) (.seq (.reg [od 0 (.mv kF)] [kp [0] []]) .ret) .skip)) (.seq (.reg [om 57 1,om 58 7,od 59 (.slice 1 (tm 58) none (some (ki 1)) (some (ki 1))),om 60 7,od 61 (.slice 1 (tm 60) (some (ki 1)) none
 none),od 62 (.build [(1,(tm 59)),(1,(tm 61))]),od 63 (.hcallW 12 [(tm 57),(tm 62)] 0),om 56 63,od 64 (ex 56 0),od 65 (ex 56 1),om 9 64,om 10 65] [kp [1,3,4,5,6,9,10] [1031,1634]]) (.seq (.reg [om 66 10,od 67
 (.bin .neq (tm 66) (ki 0)),om 68 67,oF 69 (.mv (tm 9)) 68,oF 70 (.mv (tm 4)) 68,oF 71 (.mv (tm 6)) 68,oF 72 (ia 1 70 71) 68,oF 73 (ld 1 72) 68,oF 74 (.call 20 [(tm 69),(tm 73)]) 68,oF 75 (.bin .neq (tm 74) (ki 0)) 68,od
 76 (.pick (tm 68) kT (tm 75)),om 77 76,oF 78 (.mv (tm 1)) 77,oF 79 (.call 15 [(tm 78)]) 77,oF 80 (.mv (tm 5)) 77,oF 81 (.mv (tm 6)) 77,oF 82 (ia 1 80 81) 77,oF 83 (ld 1 82) 77,oF 84 (.bin .neq (tm 79) (tm 83)) 77,od 85
 (.pick (tm 77) kT (tm 84))] [kp [1,3,4,5,6,85] [1031,1634]]) (.cond (tm 85) (.seq (.reg [od 0 (.mv kF)] [kp [0] []]) .ret) .skip)))))) (.reg [om 43 6,od 44 (.bin .add (tm 43) (ki 1)),om 6 44] [kp [1,3,4,5,6] [1031,
 1634]]))) [kp [1,3,4,5,6] [1031,1634]]
def Xm:IC:=.loop q2B
abbrev q2C:IC:=(.seq (.reg [od 0 (.mv kF)] [kp [] []]) (.seq (.reg [od 14 (.call 52 []),od 15 (.ncall 11 [(tm 14)] 1000),om 13 15,od 16 (ex 13 0),od 17 (ex 13 1),om 1 16,om 2 17] [kp [1,2] [1031,1634]]) (.seq (.seq (.reg [om 18 2,od 19
 (.bin .neq (tm 18) (ki 0)),om 20 19,oF 21 (.mv (tm 1)) 20,oF 22 (.isNilP true (tm 21)) 20,od 23 (.pick (tm 20) kT (tm 22)),om 24 23,oF 25 (.mv (tm 1)) 24,oF 26 (.call 15 [(tm 25)]) 24,oF 27 (.bin .neq (tm 26) (ki 0)) 24,od
 28 (.pick (tm 24) kT (tm 27)),om 29 28,oF 30 (.mv (tm 1)) 29,oF 31 (.hcallW 18 [(tm 30)] 0) 29,oF 32 (.call 53 [(tm 31)]) 29,oF 33 (.bin .neq (tm 32) (.const (sV [88,88,88,88,88,88]))) 29,od 34 (.pick (tm 29) kT (tm
 33))] [kp [1,34] [1031,1634]]) (.cond (tm 34) (.seq (.reg [od 0 (.mv kF)] [kp [0] []]) .ret) .skip)) (.seq (.reg [od 35 (.bsl true 9 1 [(.const (sV [48,49])),(.const (sV [49,49])),(.const (sV [49,48])),(.const (sV [49,
 48]))]),om 3 35] [kp [1,3] [1031,1634]]) (.seq (.reg [od 36 (.bsl true 3 1 [(ki 0),(ki 1),(ki 2),(ki 3),(ki 4),(ki 5)]),od 37 (.bsl true 3 1 [(ki 0),(ki 2),(ki 3),(ki 4),(ki 5)]),od 38 (.bsl true 3 1 [(ki 1)]),od 39
 (.bsl true 33 1 [(tm 36),(tm 37),(tm 38),kN]),om 4 39] [kp [1,3,4] [1031,1634]]) (.seq (.reg [od 40 (.bsl true 3 1 [(ki 4),(ki 4),(ki 1),(ki 0)]),om 5 40] [kp [1,3,4,5] [1031,1634]]) (.seq (.seq (.reg [od 6 (.mv (ki
 0))] [kp [1,3,4,5,6] [1031,1634]]) (.block 0 Xm)) (.seq (.reg [om 87 1,od 88 (.bsl true 65 1 [(ku 1)]),od 89 (.build [(1,(tm 88)),(1,kN)]),od 90 (.hcallW 12 [(tm 87),(tm 89)] 0),om 86 90,od 91 (ex 86 0),
 od 92 (ex 86 1),om 11 91,om 12 92] [kp [1,12] [1031,1634]]) (.seq (.reg [om 93 12,od 94 (.bin .eql (tm 93) (ki 8)),om 95 94,oT 96 (.mv (tm 1)) 95,oT 97 (.hcallW 18 [(tm 96)] 0) 95,oT 98 (.call 53 [(tm 97)]) 95,oT 99 (.bin
 .eql (tm 98) (.const (sV [49,48,48,48,48,48]))) 95,od 100 (.pick (tm 95) (tm 99) kF),om 0 100] [kp [0] []]) .ret)))))))))
theorem Gm (h:∀ K:St->Prop,K=run P Γ Xm Q->run P Γ q2B (B0 K Q) s):run P Γ Xm Q s:=Am h
def q2D:List RV:=[.tmp 0]
/- probecard/probecardlaw08.EventsApply (function 5) -/
end
end Go.Lg
namespace Go.Lg
open Go Go.Proofs
theorem q4n:Bc Tryz.prog 52 Zy 16 0 Zz=true:=by kernel_rfl
theorem q6Q:Bc Tryz.prog 16 q2C 101 0 q2D=true:=by kernel_rfl
end Go.Lg
namespace Go.Lg
open Go Go.Proofs
variable {Γ:Tables}
theorem qGK {Q:AX->St->Prop} (s:List UInt8) (hl:s.length<=1000) (hs:∀ b∈s,b=48\/b=49\/b=88\/b=90)
  (h0:Q (.exit 0) ⟨[(0,.t (tS s)),(4,.ls 9 0 s.length none),(11,.t (tI s.length)),(12,.t (tI s.length)),(13,.t (tB false))],[(9,.sl 65 1 (B7 (s.map U2)))]⟩) :
  ∀ (k i:Nat),k+i=s.length ->
  run Tryz.prog Γ Qc Q ⟨[(0,.t (tS s)),(4,.ls 9 0 s.length none),(11,.t (tI s.length)),(12,.t (tI i))],[(9,.sl 65 1 (B7 ((s.map U2).take i++List.replicate (s.length-i) 0)))]⟩
 | 0,i,h=>by
  refine Xe fun K hK=>?_
  have h2:i=s.length:=by omega
  subst h2
  rw[xqw (by simp),xjb,List.replicate_zero,List.append_nil]
  simp
  simpa using h0
 | k+1,i,h=>by
  refine Xe fun K hK=>?_
  have h2:i<s.length:=by omega
  have h2R:i<(s.map U2).length:=by simpa using h2
  have ih:=qGK s hl hs h0 k (i+1) (by omega)
  have hb:=hs _ (xqj h2)
  have hget:(s[i]?.getD 0)=s[i]:=by simp[h2]
  have hRi:(s.map U2)[i]=U2 s[i]:=by simp
  have hset:∀ v:Int,v=U2 s[i]->(B7 ((s.map U2).take i++List.replicate (s.length-i) 0)).set i [tK v]=B7 ((s.map U2).take (i+1)++List.replicate (s.length-(i+1)) 0):=by
   rintro v rfl
   rw[show(B7 ((s.map U2).take i++List.replicate (s.length-i) 0)).set i [tK (U2 s[i])]=B7 (((s.map U2).take i++List.replicate (s.length-i) 0).set i (U2 s[i])) from I8]
   congr 1
   have ht:((s.map U2).take i).length=i:=by rw[xzf];omega
   rw[List.set_append_right _ _ (by omega),ht,xjb,show s.length-i=(s.length-(i+1))+1 by omega,List.replicate_succ,List.set_cons_zero,xz7,xqg h2R,hRi]
   simp
  have hel:(B7 ((s.map U2).take i++List.replicate (s.length-i) 0)).length=s.length:=by rw[A5];simp;omega
  generalize B7 ((s.map U2).take i++List.replicate (s.length-i) 0)=E at *
  generalize B7 ((s.map U2).take (i+1)++List.replicate (s.length-(i+1)) 0)=E' at *
  generalize hbq:s[i]=b at *
  have hi:=q1X (Γ:=Γ) (ByteArray.mk #[48,49,88,90]) (b.toNat:Int)
  have hx:Lib.indexByte (ByteArray.mk #[48,49,88,90]).data.toList ((b.toNat:Int)).toNat.toUInt8=U2 b:=by
   rcases hb with rfl|rfl|rfl|rfl<;>rfl
  rw[hx]at hi
  have hp:0<=U2 b/\U2 b<=3:=by rcases hb with rfl|rfl|rfl|rfl<;>decide
  have hset:=hset _ rfl
  generalize U2 b=v at *
  have hneg:¬ v<0:=by omega
  have wv:IntKind.u8.wrap v=v:=by rw[Bw]<;>omega
  have w1:=Jm (i:=i) (by omega)
  simp[tS,sV]at ih
  simp[tS,sV,h2,hget,hbq]
  refine A4 hi rfl ?_
  simp[hneg,wv,h2,hel,hset,w1]
  rw[hK]
  simpa using ih
theorem qCX (s:List UInt8) (hl:s.length<=1000) (hs:∀ b∈s,b=48\/b=49\/b=88\/b=90):A7 Tryz.prog Γ 54 [tS s] (.tup [.sl (B7 (s.map U2)) none none,tI 0]):=by
 refine Ac q6M rfl ?_
 have g:=fun Q h0=>qGK (Γ:=Γ) (Q:=Q) s hl hs h0 s.length 0 (by omega)
 have hz:B7 ((s.map U2).take 0++List.replicate (s.length-0) 0)=List.replicate s.length [tK 0]:=by simp[An]
 rw[hz]at g
 have vt:(B7 (s.map U2)).take s.length=B7 (s.map U2):=xqw (by rw[A5];simp)
 simp[tS,sV]at g
 simp[q22,tS,sV]
 refine⟨by omega,g _ ?_⟩
 simp[q24,Aj,vt]
structure q88 (c:Bg) (s:Stt):Prop where
 d:s.dff.l.length=(Ba c).length
 w:s.words.l.length=c.mems.l.length
 r:s.read.l.length=c.mems.l.length
 wl:∀ i,i<c.mems.l.length->(s.words.l.getD i Sl.zz).l.length=2 ^ (c.mems.l.getD i Mm.d).addr.l.length
 wr:∀ i,i<c.mems.l.length->∀ w∈(s.words.l.getD i Sl.zz).l,w.l.length=(c.mems.l.getD i Mm.d).data.l.length
 rl:∀ i,i<c.mems.l.length->(s.read.l.getD i Sl.z).l.length=(c.mems.l.getD i Mm.d).data.l.length
 vd:∀ v∈s.dff.l,0<=v/\v<=2
 vw:∀ w∈s.words.l,∀ r∈w.l,∀ v∈r.l,0<=v/\v<=2
 vr:∀ r∈s.read.l,∀ v∈r.l,0<=v/\v<=2
theorem qEd {c:Bg} (h:E4 c=0):∀ m∈c.mems.l,(1<=m.addr.l.length/\m.addr.l.length<=8)/\(1<=m.data.l.length/\m.data.l.length<=32)/\(∀ n∈m.addr.l,0<=n/\n<c.nodes.l.length)/\(∀ n∈m.data.l,0<=n/\n<c.nodes.l.length)/\0<=m.write/\m.write<c.nodes.l.length:=by
 unfold E4 at h
 split at h
 ·cases h
 split at h
 ·cases h
 split at h
 ·rename_i h2;exact absurd h h2
 split at h
 ·rename_i h2;exact absurd h h2
 split at h
 ·rename_i h2;exact absurd h h2
 rename_i h2
 intro m hm
 have h3:=Yq (by simpa using h2) m hm
 unfold O8 at h3
 split at h3
 ·cases h3
 rename_i h4
 split at h3
 ·cases h3
 rename_i h5
 simp only[not_or,xzm]at h4 h5
 obtain⟨a1,a2⟩:=h4
 obtain⟨a3,a4,a5⟩:=h5
 simp[Un]at a1 a2
 simp[Q2]at a5
 refine⟨⟨by have:=xza.2 a1.1;omega,by omega⟩,⟨by have:=xza.2 a2.1;omega,by omega⟩,q2N a3,q2N a4,a5.1,a5.2⟩
structure MOk (c:Bg):Prop where
 ok:COk c
 lev:D3 c=0
 n:c.nodes.l.length<=1000000
theorem MOk.mf {c:Bg} (h:MOk c):∀ m∈c.mems.l,(1<=m.addr.l.length/\m.addr.l.length<=8)/\(1<=m.data.l.length/\m.data.l.length<=32)/\(∀ n∈m.addr.l,0<=n/\n<c.nodes.l.length)/\(∀ n∈m.data.l,0<=n/\n<c.nodes.l.length)/\0<=m.write/\m.write<c.nodes.l.length:=qEd (Ii h.lev).1
theorem q9U {α:Type} {l:List α} {d:α} {i:Nat} (h:i<l.length):l.getD i d∈l:=by
 rw[show l.getD i d=l[i]by simp[xqe,h]]
 exact xqj h
theorem q88.words {c:Bg} {s:Stt} (h:MOk c) (H:q88 c s):∀ w∈s.words.l,w.l.length<=256/\w.l≠[]/\∀ r∈w.l,r.l.length<=32:=by
 intro w hw
 obtain⟨i,hi,rfl⟩:=xqt hw
 have hi':i<c.mems.l.length:=by rw[<- H.w];exact hi
 have e:s.words.l.getD i Sl.zz=s.words.l[i]:=by simp[xqe,hi]
 have h1:=H.wl i hi'
 have h2:=H.wr i hi'
 have h3:=h.mf _ (q9U (d:=Mm.d) hi')
 rw[e]at h1 h2
 have h4:2 ^ (c.mems.l.getD i Mm.d).addr.l.length<=2 ^ 8:=Nat.pow_le_pow_right (by omega) h3.1.2
 have h5:0<2 ^ (c.mems.l.getD i Mm.d).addr.l.length:=Nat.pow_pos (by omega)
 exact⟨by omega,fun e=>by have:=congrArg List.length e;rw[h1,xq9]at this;omega,fun r hr=>by rw[h2 r hr];exact h3.2.1.2⟩
theorem q88.reads {c:Bg} {s:Stt} (h:MOk c) (H:q88 c s):∀ r∈s.read.l,r.l.length<=32:=by
 intro r hr
 obtain⟨i,hi,rfl⟩:=xqt hr
 have hi':i<c.mems.l.length:=by rw[<- H.r];exact hi
 have e:s.read.l.getD i Sl.z=s.read.l[i]:=by simp[xqe,hi]
 have h1:=H.rl i hi'
 have h3:=h.mf _ (q9U (d:=Mm.d) hi')
 rw[e]at h1
 rw[h1];exact h3.2.1.2
def qGL (R:List (List Int)):Sl (Sl Int):=⟨R.map fun r=>⟨r,none,none⟩,some R.length,none⟩
def qGM (nets:List Int) (ms:List Mm) (ws:List (Sl (Sl Int))):List (Sl Int):=List.zipWith (fun m w=>⟨qIA (w.l.map (·.l)) (F5 nets m.addr.l),none,none⟩) ms ws
def qGN (nets:List Int) (ms:List Mm) (ws:List (Sl (Sl Int))):List (Sl (Sl Int)):=List.zipWith (fun m w=>qGL (qCE (F5 nets m.addr.l) (F5 nets m.data.l) (nets.getD m.write.toNat 0) 0 (w.l.map (·.l)))) ms ws
def qGO (c:Bg) (s:Stt) (nets:List Int):Stt :=
 ⟨⟨Xb c nets,some (Xb c nets).length,none⟩,⟨qGN nets c.mems.l s.words.l,some c.mems.l.length,none⟩,⟨qGM nets c.mems.l s.words.l,some c.mems.l.length,none⟩⟩
def qGP (c:Bg) (s:Stt) (inn:List Int):List Int:=qLU c inn s.dff.l s.rd
def qGQ (rel:Int->Int->Prop) (l m:List Int):Prop:=l.length=m.length/\∀ i,i<l.length->rel (l.getD i 0) (m.getD i 0)
structure qJp (rel:Int->Int->Prop) (a b:Stt):Prop where
 d:qGQ rel a.dff.l b.dff.l
 rl:a.read.l.length=b.read.l.length
 r:∀ i,i<a.read.l.length->qGQ rel (a.read.l.getD i Sl.z).l (b.read.l.getD i Sl.z).l
 wl:a.words.l.length=b.words.l.length
 w:∀ i,i<a.words.l.length->(a.words.l.getD i Sl.zz).l.length=(b.words.l.getD i Sl.zz).l.length/\∀ j,j<(a.words.l.getD i Sl.zz).l.length->qGQ rel ((a.words.l.getD i Sl.zz).l.getD j Sl.z).l ((b.words.l.getD i Sl.zz).l.getD j Sl.z).l
end Go.Lg
namespace Go.Lg
open Go Go.Proofs
def V3 (v:Int):Prop:=0<=v/\v<=2
end Go.Lg
namespace Go.Lg
open Go Go.Proofs
variable {Γ:Tables}
theorem qIL {α:Type} {l:List α} (h:l.length=1):∃ a,l=[a]:=by
 match l,h with
 | [a],_=>exact⟨a,rfl⟩
theorem qDg {α:Type} {l:List α} (h:l.length=2):∃ a b,l=[a,b]:=by
 match l,h with
 | [a,b],_=>exact⟨a,b,rfl⟩
theorem st2 {c:Bg} {s:Stt} (H:q88 c s) {m:Mm} (hm:c.mems.l=[m]) (ha:m.addr.l.length=1) (hd:m.data.l.length=2) :
  ∃ W r0 r1 a b cc d rd e f,s.words.l=[W]/\W.l=[r0,r1]/\r0.l=[a,b]/\r1.l=[cc,d]/\s.read.l=[rd]/\rd.l=[e,f]/\V3 a/\V3 b/\V3 cc/\V3 d/\V3 e/\V3 f:=by
 have hl:c.mems.l.length=1:=by rw[hm];rfl
 obtain⟨W,hW⟩:=qIL (H.w.trans hl)
 obtain⟨rd,hr⟩:=qIL (H.r.trans hl)
 have wl:=H.wl 0 (by omega)
 have wr:=H.wr 0 (by omega)
 have rl:=H.rl 0 (by omega)
 have em:c.mems.l.getD 0 Mm.d=m:=by rw[hm];rfl
 have eW:s.words.l.getD 0 Sl.zz=W:=by rw[hW];rfl
 have er:s.read.l.getD 0 Sl.z=rd:=by rw[hr];rfl
 rw[eW,em,ha]at wl
 rw[eW,em,hd]at wr
 rw[er,em,hd]at rl
 obtain⟨r0,r1,hW2⟩:=qDg (show W.l.length=2 from wl)
 obtain⟨e,f,hrd⟩:=qDg rl
 obtain⟨a,b,h0⟩:=qDg (wr r0 (by rw[hW2];simp))
 obtain⟨cc,d,h1⟩:=qDg (wr r1 (by rw[hW2];simp))
 have v0:=H.vw W (by rw[hW];simp) r0 (by rw[hW2];simp)
 have v1:=H.vw W (by rw[hW];simp) r1 (by rw[hW2];simp)
 have v2:=H.vr rd (by rw[hr];simp)
 exact⟨W,r0,r1,a,b,cc,d,rd,e,f,hW,hW2,h0,h1,hr,hrd,v0 a (by rw[h0];simp),v0 b (by rw[h0];simp),v1 cc (by rw[h1];simp),v1 d (by rw[h1];simp),v2 e (by rw[hrd];simp),v2 f (by rw[hrd];simp)⟩
theorem q8M.rel {a b:List Int} (h:q8M a b):qGQ Blw a b:=⟨h.1,fun i _=>h.2 i⟩
end Go.Lg
namespace Go.Lg
open Go Go.Proofs
structure q2E (a b:Stt):Prop where
 d:a.dff.l=b.dff.l
 w:a.ws=b.ws
 r:a.rd=b.rd
theorem q2E.refl (a:Stt):q2E a a:=⟨rfl,rfl,rfl⟩
theorem q2E.symm {a b:Stt} (h:q2E a b):q2E b a:=⟨h.d.symm,h.w.symm,h.r.symm⟩
theorem q2E.trans {a b d:Stt} (h:q2E a b) (g:q2E b d):q2E a d:=⟨h.d.trans g.d,h.w.trans g.w,h.r.trans g.r⟩
theorem q89 {nets:List Int}:∀ {ms:List Mm} {ws:List (Sl (Sl Int))},qGM nets ms ws=List.zipWith (fun m w=>⟨qIA w (F5 nets m.addr.l),none,none⟩) ms (ws.map fun w=>w.l.map (·.l))
 | [],_=>rfl
 | _::_,[]=>rfl
 | m::ms,w::ws=>by
  have:=q89 (nets:=nets) (ms:=ms) (ws:=ws)
  unfold qGM at this ⊢
  simp only[List.zipWith_cons_cons,xqm,this]
theorem q8A {nets:List Int}:∀ {ms:List Mm} {ws:List (Sl (Sl Int))},qGN nets ms ws=List.zipWith (fun m w=>qGL (qCE (F5 nets m.addr.l) (F5 nets m.data.l) (nets.getD m.write.toNat 0) 0 w)) ms (ws.map fun w=>w.l.map (·.l))
 | [],_=>rfl
 | _::_,[]=>rfl
 | m::ms,w::ws=>by
  have:=q8A (nets:=nets) (ms:=ms) (ws:=ws)
  unfold qGN at this ⊢
  simp only[List.zipWith_cons_cons,xqm,this]
theorem q2E.nets {c:Bg} {a b:Stt} (h:q2E a b) (i:List Int):qGP c a i=qGP c b i:=by unfold qGP;rw[h.d,h.r]
theorem q2E.next {c:Bg} {a b:Stt} (h:q2E a b) (N:List Int):qGO c a N=qGO c b N:=by
 unfold qGO
 rw[q89,q89,q8A,q8A]
 have hw:=h.w
 unfold Stt.ws at hw
 rw[hw]
theorem q3t {a b:List (Sl Int)} (h:a.map (·.l)=b.map (·.l)) (i:Nat):(a.getD i Sl.z).l=(b.getD i Sl.z).l:=by
 have:=congrArg (fun x=>x.getD i []) h
 simp only[xqe,xqr]at this ⊢
 cases ha:a[i]?<;>cases hb:b[i]?<;>simp[ha,hb]at this ⊢<;>first|exact this|(simp[Sl.z,this])
theorem Wa {α β:Type} {f:α->β} {a b:List α} (h:a.map f=b.map f):a.length=b.length:=by
 have:=congrArg List.length h
 simpa using this
theorem q3u {a b:List (Sl (Sl Int))} (h:(a.map fun w=>w.l.map (·.l))=b.map fun w=>w.l.map (·.l)) (i:Nat):(a.getD i Sl.zz).l.map (·.l)=(b.getD i Sl.zz).l.map (·.l):=by
 have:=congrArg (fun x=>x.getD i []) h
 simp only[xqe,xqr]at this ⊢
 cases ha:a[i]?<;>cases hb:b[i]?<;>simp[ha,hb]at this ⊢<;>first|exact this|(simp[Sl.zz,this])
theorem qGR {a b:List Int} (h:a=b):qGQ (·=·) a b:=by subst h;exact⟨rfl,fun _ _=>rfl⟩
theorem q2E.rel {a b:Stt} (h:q2E a b):qJp (·=·) a b:=by
 have hw:=h.w
 have hr:=h.r
 unfold Stt.ws at hw
 unfold Stt.rd at hr
 refine⟨qGR h.d,Wa hr,fun i _=>qGR (q3t hr i),Wa hw,fun i _=>?_⟩
 have:=q3u hw i
 exact⟨Wa this,fun j _=>qGR (q3t this j)⟩
theorem q5a {a b:List (Sl Int)} (h:a.map (·.l)=b.map (·.l)) {r:Sl Int} (hr:r∈a):∃ q∈b,q.l=r.l:=by
 have:r.l∈b.map (·.l):=by rw[<- h];exact xqy.2 ⟨r,hr,rfl⟩
 obtain⟨q,hq,e⟩:=xqy.1 this
 exact⟨q,hq,e⟩
theorem q2E.ok {c:Bg} {a b:Stt} (h:q2E a b) (H:q88 c b):q88 c a:=by
 have hw:=h.w
 have hr:=h.r
 unfold Stt.ws at hw
 unfold Stt.rd at hr
 refine⟨by rw[h.d,H.d],(Wa hw).trans H.w,(Wa hr).trans H.r,fun i hi=>(Wa (q3u hw i)).trans (H.wl i hi),fun i hi w hw'=>?_,fun i hi=>by rw[q3t hr i];exact H.rl i hi,by rw[h.d];exact H.vd,fun w hw' r hr'=>?_,fun r hr'=>?_⟩
 ·obtain⟨q,hq,e⟩:=q5a (q3u hw i) hw'
  rw[<- e];exact H.wr i hi q hq
 ·have:w.l.map (·.l)∈b.words.l.map fun w=>w.l.map (·.l):=by rw[<- hw];exact xqy.2 ⟨w,hw',rfl⟩
  obtain⟨W,hW,e⟩:=xqy.1 this
  obtain⟨q,hq,e2⟩:=q5a e.symm hr'
  rw[<- e2];exact H.vw W hW q hq
 ·obtain⟨q,hq,e⟩:=q5a hr hr'
  rw[<- e];exact H.vr q hq
def qLe (c:Bg) (is:List (List Int)):Prop:=∀ i∈is,i.length=(Be c).length/\∀ v∈i,V4 v
end Go.Lg
namespace Go.Lg
open Go
section
variable {P:Program} {Γ:Tables} {Q:AX->St->Prop} {s:St}
/- probecard/cycles.Run (function 27) -/
abbrev q3C:IC:=.gh (.seq (.seq (.reg [om 18 5,om 19 0,od 20 (le 0 19),od 21 (.bin .lss (tm 18) (tm 20))] [kp [0,1,5,21] []]) (.cond (tm 21) .skip (.exit 0))) (.seq (.block 1 (.seq (.reg [om 24 0,om 25 5,od 26 (ia 1 24 25),od 27 (ld 1
 26),om 28 1,om 29 5,od 30 (ia 1 28 29),od 31 (ld 1 30),od 32 (.bin .neq (tm 27) (tm 31))] [kp [0,1,5,32] []]) (.cond (tm 32) (.seq (.reg [od 4 (.mv (ki 1))] [kp [4] []]) .ret) .skip))) (.reg [om 22 5,od 23 (.bin .add (tm
 22) (ki 1)),om 5 23] [kp [0,1,5] []]))) [kp [0,1,5] []]
def T8:IC:=.loop q3C
abbrev q3D:IC:=(.seq (.reg [od 4 (.mv (ki 0))] [kp [0,1] []]) (.seq (.seq (.reg [om 6 0,od 7 (le 0 6),om 8 1,od 9 (le 0 8),od 10 (.bin .neq (tm 7) (tm 9)),om 11 10,oF 12 (.mv (tm 0)) 11,oF 13 (.cap (tm 12)) 11,oF 14 (.mv (tm 0)) 11,oF
 15 (le 0 14) 11,oF 16 (.bin .gtr (tm 13) (tm 15)) 11,od 17 (.pick (tm 11) kT (tm 16))] [kp [0,1,17] []]) (.cond (tm 17) (.seq (.reg [od 4 (.mv (ki 1))] [kp [4] []]) .ret) .skip)) (.seq (.seq (.reg [od 5 (.mv (ki 0))] [kp [0,1,
 5] []]) (.block 0 T8)) (.seq (.reg [od 4 (.mv (ki 0))] [kp [4] []]) .ret))))
theorem Yh (h:∀ K:St->Prop,K=run P Γ T8 Q->run P Γ q3C (B0 K Q) s):run P Γ T8 Q s:=Am h
def q3E:List RV:=[.tmp 4]
end
end Go.Lg
namespace Go.Lg
open Go Go.Proofs
theorem q8B:Bc Tryz.prog 20 q3D 33 2 q3E=true:=by kernel_rfl
end Go.Lg
namespace Go.Lg
open Go Go.Proofs
variable {Γ:Tables}
theorem qJp.refl (s:Stt):qJp (·=·) s s:=⟨⟨rfl,fun _ _=>rfl⟩,rfl,fun _ _=>⟨rfl,fun _ _=>rfl⟩,rfl,fun _ _=>⟨rfl,fun _ _=>⟨rfl,fun _ _=>rfl⟩⟩⟩
def qLf (c:Bg) (l:List (Sl Int)):Prop:=∀ x∈l,x.l.length=(Be c).length/\∀ v∈x.l,V4 v
theorem qLf.seq {c:Bg} {l:List (Sl Int)} (h:qLf c l):qLe c (l.map (·.l)):=fun i hi=>by
 obtain⟨x,hx,rfl⟩:=xqy.1 hi
 exact h x hx
theorem qDh {Q:AX->St->Prop} (l:List Int) (hl:l.length<=1000000) (c1 c2:Option Nat) (n1 n2:Option Bool)
  (h0:Q (.exit 0) ⟨[(0,.t (.sl (Av l) c1 n1)),(1,.t (.sl (Av l) c2 n2)),(5,.t (tI l.length)),(21,.t (tB false))],[]⟩) :
  ∀ (k i:Nat),k+i=l.length->run Tryz.prog Γ T8 Q ⟨[(0,.t (.sl (Av l) c1 n1)),(1,.t (.sl (Av l) c2 n2)),(5,.t (tI i))],[]⟩
 | 0,i,h=>by
  refine Yh fun K hK=>?_
  have h2:i=l.length:=by omega
  subst h2
  simp[A5]
  simpa using h0
 | k+1,i,h=>by
  refine Yh fun K hK=>?_
  have h2:i<l.length:=by omega
  have e1:=gE (f:=tI) 0 h2
  have e1':=gE' (f:=tI) 0 h2
  rw[Bn h2]at e1 e1'
  generalize l[i]=x at *
  have ih:=qDh l hl c1 c2 n1 n2 h0 k (i+1) (by omega)
  have h3:(i:Int)<l.length:=by omega
  have w1:=Jm (i:=i) (by omega)
  simp[A5,Aa,h2,h3,e1,e1',w1]
  rw[hK]
  simpa using ih
theorem q2R (l:List Int) (hl:l.length<=1000000) (c2:Option Nat) (n1 n2:Option Bool) :
  A7 Tryz.prog Γ 20 [.sl (Av l) (some l.length) n1,.sl (Av l) c2 n2] (tI 0):=by
 refine Ac q8B rfl ?_
 have g:=fun Q h0=>qDh (Γ:=Γ) (Q:=Q) l hl (some l.length) c2 n1 n2 h0 l.length 0 (by omega)
 simp at g
 simp[q3D,A5]
 refine g _ ?_
 simp[q3E]
theorem qGS:B9 Tryz.prog Γ 52 [] (.agg (tC Uf)):=by
 refine Cc q4n rfl ?_
 simp[Zy,Zz,tC,Uf,A9,Ah,Ap,B8,Bo,An,E3,tS,sV,Es]
theorem qDi:NOk Uf:=by
 refine⟨qMR,qLR,rfl,by decide +kernel,by decide,by decide,fun i hi=>?_⟩
 have:i=0\/i=1\/i=2\/i=3\/i=4\/i=5:=by simp[Uf]at hi;omega
 rcases this with rfl|rfl|rfl|rfl|rfl|rfl<;>simp[Ad,Uf]
theorem qJq:qFk Uf:=by
 refine⟨by simp[Uf],by simp[Uf],by simp[Uf],by simp[Uf],by simp[Uf],by simp[Uf],rfl,fun x hx=>?_,P8 (by simp)⟩
 simp[Uf]at hx
 rcases hx with rfl|rfl|rfl|rfl|rfl|rfl
 ·exact q7q
 ·exact P8 (by simp)
 ·exact P8 (by simp)
 ·exact P8 (by simp)
 ·exact P8 (by simp)
 ·exact P8 (by simp)
def p8 (a b:Int):Pat:=⟨⟨[a],some 1,none⟩,⟨[b],none,none⟩⟩
theorem exN (a b:Int) (ha:V4 a) (hb:V4 b):POk Uf (p8 a b):=⟨by rw[show(Be Uf).length=1 by decide +kernel];rfl,by rw[show(Ba Uf).length=1 by decide +kernel];rfl,fun v hv=>by simp[p8]at hv;subst hv;exact ha,fun v hv=>by simp[p8]at hv;subst hv;exact hb⟩
theorem qGT (l:List Int) (s:List UInt8) (hl:l.length<=1000) (hv:∀ v∈l,0<=v) (h:qDJ l=s):A7 Tryz.prog Γ 53 [.sl (B7 l) (some 6) none] (.v (.string ⟨s.toArray⟩)):=by
 have:=qEM (Γ:=Γ) ⟨l,some 6,none⟩ (by show l.length<=_;omega) hv
 rw[h]at this
 exact this
theorem qJr (a b:UInt8) (x y:Int) (ha:a=48\/a=49) (hb:b=48\/b=49) (hx:U2 a=x) (hy:U2 b=y):A7 Tryz.prog Γ 54 [.v (.string ⟨#[a,b]⟩)] (.tup [.sl (B7 [x,y]) none none,tI 0]):=by
 have:=qCX (Γ:=Γ) [a,b] (by simp) (fun q hq=>by
  simp only[xqv,xz2,or_false]at hq
  rcases hq with rfl|rfl
  ·rcases ha with rfl|rfl<;>simp
  ·rcases hb with rfl|rfl<;>simp)
 simp only[xqm,xq3,hx,hy]at this
 exact this
theorem ap8 (hΓ:GOk Γ) {p0:Pat} (h0:POk Uf p0) (a b:Int) (ha:V4 a) (hb:V4 b) (N0 N1 d:List Int) (e ev:Int) (h1:nP Uf p0=N0) (h2:nP Uf (p8 a b)=N1) (h3:Gs 6 N0 N1=d) (h4:Qg Uf N0 N1=e) :
  Bf Tryz.prog Γ 12 (hS (Ks Uf) 6 N0 ev) [.lp 1000000 0 0,.ag [.t (.sl [[tK a]] (some 1) none),.t (.sl [[tK b]] none none)]] (.t (.tup [.sl (Av d) (some d.length) none,tI 0])) (hS (Ks Uf) 6 N1 e):=by
 refine Bf.arg2 (x:=.agg (tP (p8 a b))) rfl ?_
 have:=q6d (Γ:=Γ) hΓ qDi h0 (exN a b ha hb) ev
 rw[show Uf.nodes.l.length=6 from rfl,h1,h2,h3,h4]at this
 exact this
theorem qA5 (hΓ:GOk Γ):B9 Tryz.prog Γ 16 [] (tB true):=by
 refine Cc q6Q rfl ?_
 have enew:=qIK (Γ:=Γ) hΓ qDi qJq
 have n0:nP Uf (Nb Uf)=[2,2,2,2,2,2]:=by decide +kernel
 rw[n0]at enew
 have h6:Uf.nodes.l.length=6:=rfl
 rw[h6]at enew
 have et:=qGT (Γ:=Γ) [2,2,2,2,2,2] [88,88,88,88,88,88] (by decide) (by decide) (by decide +kernel)
 have ev0:=q4m (Γ:=Γ) (Ks Uf) 6 [2,2,2,2,2,2] 0
 have vv:=qBF (Γ:=Γ) (Ks Uf) 6 [2,2,2,2,2,2] 0 (by omega) rfl (by omega)
 simp only[qCW]at ev0
 have hix:List.idxOf 1634 [1031,1634]=1:=rfl
 simp[q2C]
 refine B6 qGS rfl ?_
 simp
 refine⟨_,_,enew,?_⟩
 simp[Ax]
 refine A4 ev0 (by simp[Aj,Ag];exact E5 (l:=[2,2,2,2,2,2])) ?_
 simp
 refine⟨[1031,1634],by simp,.t (.sl (B7 [2,2,2,2,2,2]) (some 6) none),hS (Ks Uf) 6 [2,2,2,2,2,2] 0,by simpa[hS,Ax,hix]using vv,by simp[Uk,Aw.sh,hS,Ax],?_⟩
 simp[hS,Ax,hix]
 refine A4 et (by simp[Aj]) ?_
 simp[sV]
 have q1:=qJr (Γ:=Γ) 48 49 0 1 (by simp) (by simp) rfl rfl
 have q2:=qJr (Γ:=Γ) 49 49 1 1 (by simp) (by simp) rfl rfl
 have q3:=qJr (Γ:=Γ) 49 48 1 0 (by simp) (by simp) rfl rfl
 have a0:=ap8 (Γ:=Γ) hΓ (q5Z (c:=Uf)) 0 1 (by simp[V4]) (by simp[V4]) [2,2,2,2,2,2] [0,1,1,1,3,3] [0,1,2,3,4,5] 4 0 n0 (by decide +kernel) (by decide +kernel) (by decide +kernel)
 have i0:=q2R (Γ:=Γ) [0,1,2,3,4,5] (by decide) (some 6) none (some false)
 have v0:=q4m (Γ:=Γ) (Ks Uf) 6 [0,1,1,1,3,3] 4
 simp only[qCW]at v0
 refine Gm fun K0 hK0=>?_
 simp[Dt]
 refine A4 q1 rfl ?_
 simp[An,Dt]
 refine⟨[1031,1634],by simp,.t (.tup [.sl (Av [0,1,2,3,4,5]) (some 6) none,tI 0]),hS (Ks Uf) 6 [0,1,1,1,3,3] 4,by simpa[hS,Ax,hix,An]using a0,by simp[Uk,Aw.sh,hS,Ax,A5],?_⟩
 simp[hS,Ax,hix,Dt]
 refine A4 i0 rfl ?_
 simp[Dt]
 refine A4 v0 (by simp[Aj,Ag];exact E5 (l:=[0,1,1,1,3,3])) ?_
 simp[Dt,A6]
 rw[hK0]
 have a1:=ap8 (Γ:=Γ) hΓ (exN 0 1 (by simp[V4]) (by simp[V4])) 1 1 (by simp[V4]) (by simp[V4]) [0,1,1,1,3,3] [1,1,0,0,0,0] [0,2,3,4,5] 4 4 (by decide +kernel) (by decide +kernel) (by decide +kernel) (by decide +kernel)
 have i1:=q2R (Γ:=Γ) [0,2,3,4,5] (by decide) (some 5) none (some false)
 have v1:=q4m (Γ:=Γ) (Ks Uf) 6 [1,1,0,0,0,0] 4
 simp only[qCW]at v1
 refine Gm fun K1 hK1=>?_
 simp[Dt]
 refine A4 q2 rfl ?_
 simp[An,Dt]
 refine⟨[1031,1634],by simp,.t (.tup [.sl (Av [0,2,3,4,5]) (some 5) none,tI 0]),hS (Ks Uf) 6 [1,1,0,0,0,0] 4,by simpa[hS,Ax,hix,An]using a1,by simp[Uk,Aw.sh,hS,Ax,A5],?_⟩
 simp[hS,Ax,hix,Dt]
 refine A4 i1 rfl ?_
 simp[Dt]
 refine A4 v1 (by simp[Aj,Ag];exact E5 (l:=[1,1,0,0,0,0])) ?_
 simp[Dt,A6]
 rw[hK1]
 have a2:=ap8 (Γ:=Γ) hΓ (exN 1 1 (by simp[V4]) (by simp[V4])) 1 0 (by simp[V4]) (by simp[V4]) [1,1,0,0,0,0] [1,0,0,0,0,0] [1] 1 4 (by decide +kernel) (by decide +kernel) (by decide +kernel) (by decide +kernel)
 have i2:=q2R (Γ:=Γ) [1] (by decide) (some 1) none (some false)
 have v2:=q4m (Γ:=Γ) (Ks Uf) 6 [1,0,0,0,0,0] 1
 simp only[qCW]at v2
 refine Gm fun K2 hK2=>?_
 simp[Dt]
 refine A4 q3 rfl ?_
 simp[An,Dt]
 refine⟨[1031,1634],by simp,.t (.tup [.sl (Av [1]) (some 1) none,tI 0]),hS (Ks Uf) 6 [1,0,0,0,0,0] 1,by simpa[hS,Ax,hix,An]using a2,by simp[Uk,Aw.sh,hS,Ax,A5],?_⟩
 simp[hS,Ax,hix,Dt]
 refine A4 i2 rfl ?_
 simp[Dt]
 refine A4 v2 (by simp[Aj,Ag];exact E5 (l:=[1,0,0,0,0,0])) ?_
 simp[Dt,A6]
 rw[hK2]
 have a3:=ap8 (Γ:=Γ) hΓ (exN 1 0 (by simp[V4]) (by simp[V4])) 1 0 (by simp[V4]) (by simp[V4]) [1,0,0,0,0,0] [1,0,0,0,0,0] [] 0 1 (by decide +kernel) (by decide +kernel) (by decide +kernel) (by decide +kernel)
 have i3:=q2R (Γ:=Γ) [] (by decide) (some 0) none (some true)
 have v3:=q4m (Γ:=Γ) (Ks Uf) 6 [1,0,0,0,0,0] 0
 simp only[qCW]at v3
 refine Gm fun K3 hK3=>?_
 simp[Dt]
 refine A4 q3 rfl ?_
 simp[An,Dt]
 refine⟨[1031,1634],by simp,.t (.tup [.sl (Av []) (some 0) none,tI 0]),hS (Ks Uf) 6 [1,0,0,0,0,0] 0,by simpa[hS,Ax,hix,An]using a3,by simp[Uk,Aw.sh,hS,Ax,A5],?_⟩
 simp[hS,Ax,hix,Dt]
 refine A4 i3 rfl ?_
 simp[Dt]
 refine A4 v3 (by simp[Aj,Ag];exact E5 (l:=[1,0,0,0,0,0])) ?_
 simp[Dt,A6]
 rw[hK3]
 have p9:Bf Tryz.prog Γ 12 (hS (Ks Uf) 6 [1,0,0,0,0,0] 0) [.lp 1000000 0 0,.ag [.t (.sl [[tK 1]] (some 1) (some false)),.t (.sl [] (some 0) (some true))]] (.t (.tup [.sl [] (some 0) (some true),tI 8])) (hS (Ks Uf) 6 [1,0,0,0,0,0] 0):=by
  refine Bf.arg2 (x:=.agg (tP ⟨⟨[1],some 1,some false⟩,⟨[],some 0,some true⟩⟩)) rfl ?_
  refine qEZ (Ks Uf) 6 [1,0,0,0,0,0] 0 ⟨⟨[1],some 1,some false⟩,⟨[],some 0,some true⟩⟩ (by simp) 8 ?_ (by simp)
  unfold Xl
  rw[if_pos]
  right
  show ¬ ([]:List Int).length=(Ba Uf).length
  rw[show(Ba Uf).length=1 by decide +kernel]
  simp
 have v9:=qBF (Γ:=Γ) (Ks Uf) 6 [1,0,0,0,0,0] 0 (by omega) rfl (by omega)
 have t9:=qGT (Γ:=Γ) [1,0,0,0,0,0] [49,48,48,48,48,48] (by decide) (by decide) (by decide +kernel)
 refine Gm fun K9 hK9=>?_
 simp[Dt]
 refine⟨[1031,1634],by simp,.t (.tup [.sl [] (some 0) (some true),tI 8]),hS (Ks Uf) 6 [1,0,0,0,0,0] 0,by simpa[hS,Ax,hix,An]using p9,by simp[Uk,Aw.sh,hS,Ax,A5],?_⟩
 simp[hS,Ax,hix]
 refine⟨[1031,1634],by simp,.t (.sl (B7 [1,0,0,0,0,0]) (some 6) none),hS (Ks Uf) 6 [1,0,0,0,0,0] 0,by simpa[hS,Ax,hix]using v9,by simp[Uk,Aw.sh,hS,Ax,A5],?_⟩
 simp[hS,Ax,hix]
 refine A4 t9 (by simp[Aj]) ?_
 simp[q2D,Aj]
def cB (c:Bg):Aw:=.bx [.t (A9 c.nodes),.t (Ah c.names),.t (Ap c.mems),.t (B8 c.outs)]
end Go.Lg
