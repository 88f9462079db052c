/- Package memories: Af as trees; the values of nets; the nets that are not combinational are loaded. Conditions: none. -/
import Derived.Test.YtnhgdofpomioeaaGreatDoorPkE
import Derived.Test.YtnhgdofpomioeaaGreatDoorPkC
import Derived.Test.YtnhgdofpomioeaaGreatDoorProg
import Derived.KernelRfl
import Derived.Test.YtnhgdofpomioeaaGreatDoorPkD
set_option linter.unusedSimpArgs false
set_option linter.unusedVariables false
set_option maxRecDepth 100000
namespace Go.Lg
open Go Go.Proofs
variable {Γ:Tables}
structure Hk where
 dff:Sl Int
 words:Sl (Sl (Sl Int))
 read:Sl (Sl Int)
def Ig (s:Sl (Sl (Sl Int))):T:=.sl (Ac tW s.l) s.cap s.nl
def B7 (s:Hk):List T:=[tV s.dff,Ig s.words,tW s.read]
def Hk.rd (s:Hk):List (List Int):=s.read.l.map (·.l)
def Hk.ws (s:Hk):List (List (List Int)):=s.words.l.map fun w=>w.l.map (·.l)
def Sl.zz:Sl (Sl Int):=⟨[],none,none⟩
def Bi (nets:List Int) (l:List Int):List Int:=l.map fun k=>nets.getD k.toNat 0
theorem qL9 {Q:AX→St→Prop} (c:B0) (nets:Sl Int) (hn:nets.l.length≤1000000) (l:Sl Int) (hl:l.l.length≤1000000) (hin:∀ k ∈ l.l,0≤k∧k<nets.l.length) (R:List Int)
  (h0:R.length=l.l.length→Q (.exit 0) ⟨[(2,.t (.ip (Nq c nets) 0)),(5,.ls 10 0 l.l.length none),(11,.t (B6 l)),(12,.t (tI l.l.length)),(13,.t (tI l.l.length)),(14,.t (tB false))],[(10,.sl 71 1 (Ap R))]⟩) :
  ∀ (k i:Nat) (out:List Int),k+i=l.l.length→out.length=i→out++Bi nets.l (l.l.drop i)=R →
  run Tryz.prog Γ E9 Q ⟨[(2,.t (.ip (Nq c nets) 0)),(5,.ls 10 0 i none),(11,.t (B6 l)),(12,.t (tI l.l.length)),(13,.t (tI i))],[(10,.sl 71 1 (Ap out))]⟩
 | 0,i,out,h,ho,hR=>by
  refine I6 fun K hK=>?_
  have h2:i=l.l.length:=by omega
  subst h2
  rw [List.drop_length] at hR
  simp only [Bi,List.map_nil,List.append_nil] at hR
  subst hR
  have:=h0 ho
  simp [B6] at this
  simp [B6]
  simpa using this
 | k+1,i,out,h,ho,hR=>by
  refine I6 fun K hK=>?_
  have h2:i<l.l.length:=by omega
  rw [List.drop_eq_getElem_cons h2] at hR
  simp only [Bi,List.map_cons] at hR
  have e1:=gE (f:=tI) 0 h2
  have e1':=gE' (f:=tI) 0 h2
  obtain ⟨q0,q1⟩:=hin _ (List.getElem_mem h2)
  rw [Bv h2] at e1 e1'
  generalize l.l[i]=q at *
  have h3:q.toNat<nets.l.length:=by omega
  have e2:=gE (f:=tK) 0 h3
  have e2':=gE' (f:=tK) 0 h3
  have ih:=qL9 c nets hn l hl hin R h0 k (i+1) (out++[nets.l.getD q.toNat 0]) (by omega) (by simp [ho]) (by rw [← hR]; simp [Bi])
  generalize nets.l.getD q.toNat 0=v at *
  have vs:=Pz (l:=out) (v:=v)
  have vt:(Ap out).take i=Ap out:=by rw [← ho]; exact Cj
  have w1:=B5 (i:=i) (by omega)
  simp [Nq,A5,A8,Ad,B6,tV] at ih
  simp [Nq,A5,A8,Ad,B6,tV,A0,A6,h2,e1,e1',q0,q1,h3,e2,e2',vt,vs,ho,w1]
  refine ⟨by omega,?_⟩
  rw [hK]
  simpa using ih
theorem q2H (c:B0) (nets:Sl Int) (hn:nets.l.length≤1000000) (l:Sl Int) (hl:l.l.length≤1000000) (hin:∀ k ∈ l.l,0≤k∧k<nets.l.length) :
  A3 Tryz.prog Γ 87 [.agg (Nq c nets),B6 l] (tV ⟨Bi nets.l l.l,none,none⟩):=by
 refine A7 Xm rfl ?_
 have g:=fun Q h0=>qL9 (Γ:=Γ) (Q:=Q) c nets hn l hl hin (Bi nets.l l.l) h0 l.l.length 0 [] (by omega) rfl (by simp)
 generalize Bi nets.l l.l=R at *
 simp [Nq,A5,A8,Ad,B6,tV,Cd] at g
 simp [Lh,Nq,A5,A8,Ad,B6,tV,A0]
 refine ⟨by omega,g _ fun hR=>?_⟩
 have vt:(Ap R).take l.l.length=Ap R:=by rw [← hR]; exact Cj
 simp [Lj,Ai,vt]
theorem qLA {Q:AX→St→Prop} (c:B0) (s:Hk) (inn:Sl Int) (ns:List Int) (cap:Option Nat) (n:Nat) (hn:n≤1000000) (hns:ns.length≤n) (hin:∀ x ∈ ns,0≤x∧x<n) (hp:inn.l.length=ns.length) (R:List Int)
  (h0:Q (.exit 0) ⟨[(2,.t (tV inn)),(3,.lp 3 0 0),(4,.t (.ip (B7 s) 0)),(14,.t (.sl (Av ns) (some ns.length) none)),(15,.t (tI ns.length)),(16,.t (tI ns.length)),(17,.t (tB false))],[(3,.bx (Zk c 1000000 n cap)),(1000000,.sl 71 1 (Ap R))]⟩) :
  ∀ (k i:Nat) (l:List Int),k+i=ns.length→l.length=n→G2 (ns.drop i) (inn.l.drop i) l=R →
  run Tryz.prog Γ Em Q ⟨[(2,.t (tV inn)),(3,.lp 3 0 0),(4,.t (.ip (B7 s) 0)),(14,.t (.sl (Av ns) (some ns.length) none)),(15,.t (tI ns.length)),(16,.t (tI i))],[(3,.bx (Zk c 1000000 n cap)),(1000000,.sl 71 1 (Ap l))]⟩
 | 0,i,l,h,hl,hR=>by
  refine Ji fun K hK=>?_
  have h2:i=ns.length:=by omega
  subst h2
  rw [List.drop_length] at hR
  simp only [G2] at hR
  subst hR
  simp
  exact h0
 | k+1,i,l,h,hl,hR=>by
  refine Ji fun K hK=>?_
  have h2:i<ns.length:=by omega
  have h3:i<inn.l.length:=by omega
  rw [qAR h2 h3] at hR
  have ih:=qLA c s inn ns cap n hn hns hin hp R h0 k (i+1) _ (by omega) (by simp [hl]) hR
  have e1:=gE (f:=tI) 0 h2
  have e1':=gE' (f:=tI) 0 h2
  have e2:=gE (f:=tK) 0 h3
  have e2':=gE' (f:=tK) 0 h3
  obtain ⟨hx0,hx1⟩:=hin (ns.getD i 0) (by rw [Bv h2]; exact List.getElem_mem h2)
  have hs:∀ (j:Nat) (v:Int),(Ap l).set j [tK v]=Ap (l.set j v):=fun j v=>Jb
  generalize ns.getD i 0=x at *
  generalize inn.l.getD i 0=v at *
  have hx2:x.toNat<n:=by omega
  have w1:=B5 (i:=i) (by omega)
  simp [Zk,tV] at ih
  simp [h2,h3,A0,A6,e1,e1',e2,e2',hx0,hx1,hx2,hl,Zk,tV,hs,hp,w1]
  rw [hK]
  simpa using ih
theorem qLB {Q:AX→St→Prop} (c:B0) (s:Hk) (ns:List Int) (cap:Option Nat) (n:Nat) (hn:n≤1000000) (hns:ns.length≤n) (hin:∀ x ∈ ns,0≤x∧x<n) (hp:s.dff.l.length=ns.length) (R:List Int)
  (h0:Q (.exit 2) ⟨[(3,.lp 3 0 0),(4,.t (.ip (B7 s) 0)),(32,.t (.sl (Av ns) (some ns.length) none)),(33,.t (tI ns.length)),(34,.t (tI ns.length)),(35,.t (tB false))],[(3,.bx (Zk c 1000000 n cap)),(1000000,.sl 71 1 (Ap R))]⟩) :
  ∀ (k i:Nat) (l:List Int),k+i=ns.length→l.length=n→G2 (ns.drop i) (s.dff.l.drop i) l=R →
  run Tryz.prog Γ En Q ⟨[(3,.lp 3 0 0),(4,.t (.ip (B7 s) 0)),(32,.t (.sl (Av ns) (some ns.length) none)),(33,.t (tI ns.length)),(34,.t (tI i))],[(3,.bx (Zk c 1000000 n cap)),(1000000,.sl 71 1 (Ap l))]⟩
 | 0,i,l,h,hl,hR=>by
  refine Jj fun K hK=>?_
  have h2:i=ns.length:=by omega
  subst h2
  rw [List.drop_length] at hR
  simp only [G2] at hR
  subst hR
  simp
  exact h0
 | k+1,i,l,h,hl,hR=>by
  refine Jj fun K hK=>?_
  have h2:i<ns.length:=by omega
  have h3:i<s.dff.l.length:=by omega
  rw [qAR h2 h3] at hR
  have ih:=qLB c s ns cap n hn hns hin hp R h0 k (i+1) _ (by omega) (by simp [hl]) hR
  have e1:=gE (f:=tI) 0 h2
  have e1':=gE' (f:=tI) 0 h2
  have e2:=gE (f:=tK) 0 h3
  have e2':=gE' (f:=tK) 0 h3
  obtain ⟨hx0,hx1⟩:=hin (ns.getD i 0) (by rw [Bv h2]; exact List.getElem_mem h2)
  have hs:∀ (j:Nat) (v:Int),(Ap l).set j [tK v]=Ap (l.set j v):=fun j v=>Jb
  generalize ns.getD i 0=x at *
  generalize s.dff.l.getD i 0=v at *
  have hx2:x.toNat<n:=by omega
  have w1:=B5 (i:=i) (by omega)
  simp [Zk,tV,B7] at ih
  simp [h2,h3,A0,A6,e1,e1',e2,e2',hx0,hx1,hx2,hl,Zk,tV,B7,hs,hp,w1]
  rw [hK]
  simpa using ih
theorem qLC {Q:AX→St→Prop} (c:B0) (s:Hk) (ns:List Int) (cap:Option Nat) (hn:c.nodes.l.length≤1000000) (hns:ns.length≤c.nodes.l.length) (hin:∀ x ∈ ns,0≤x∧x<c.nodes.l.length)
  (hm:∀ x ∈ ns,0≤(nd c x).mem∧(nd c x).mem<s.read.l.length∧0≤(nd c x).bit∧(nd c x).bit<(s.read.l.getD (nd c x).mem.toNat Sl.z).l.length) (R:List Int)
  (h0:Q (.exit 4) ⟨[(3,.lp 3 0 0),(4,.t (.ip (B7 s) 0)),(52,.t (.sl (Av ns) (some ns.length) none)),(53,.t (tI ns.length)),(54,.t (tI ns.length)),(55,.t (tB false))],[(3,.bx (Zk c 1000000 c.nodes.l.length cap)),(1000000,.sl 71 1 (Ap R))]⟩) :
  ∀ (k i:Nat) (l:List Int),k+i=ns.length→l.length=c.nodes.l.length→G2 (ns.drop i) ((ns.drop i).map fun n=>(s.read.l.getD (nd c n).mem.toNat Sl.z).l.getD (nd c n).bit.toNat 0) l=R →
  run Tryz.prog Γ Eo Q ⟨[(3,.lp 3 0 0),(4,.t (.ip (B7 s) 0)),(52,.t (.sl (Av ns) (some ns.length) none)),(53,.t (tI ns.length)),(54,.t (tI i))],[(3,.bx (Zk c 1000000 c.nodes.l.length cap)),(1000000,.sl 71 1 (Ap l))]⟩
 | 0,i,l,h,hl,hR=>by
  refine Jk fun K hK=>?_
  have h2:i=ns.length:=by omega
  subst h2
  rw [List.drop_length] at hR
  simp only [G2] at hR
  subst hR
  simp
  exact h0
 | k+1,i,l,h,hl,hR=>by
  refine Jk fun K hK=>?_
  have h2:i<ns.length:=by omega
  rw [List.drop_eq_getElem_cons h2,List.map_cons] at hR
  simp only [G2] at hR
  have e1:=gE (f:=tI) 0 h2
  have e1':=gE' (f:=tI) 0 h2
  have hxm:=List.getElem_mem h2
  rw [Bv h2] at e1 e1'
  generalize ns[i]=x at *
  obtain ⟨hx0,hx1⟩:=hin x hxm
  obtain ⟨m0,m1,b0,b1⟩:=hm x hxm
  have ih:=qLC c s ns cap hn hns hin hm R h0 k (i+1) _ (by omega) (by rw [List.length_set]; exact hl) hR
  have hget:=qAU hx0 hx1
  have hget':=qCj hx0 hx1
  generalize nd c x=y at *
  have hm2:y.mem.toNat<s.read.l.length:=by omega
  have e2:=gE (f:=tV) Sl.z hm2
  have e2':=gE' (f:=tV) Sl.z hm2
  generalize s.read.l.getD y.mem.toNat Sl.z=row at *
  have hb2:y.bit.toNat<row.l.length:=by omega
  have e3:=gE (f:=tK) 0 hb2
  have e3':=gE' (f:=tK) 0 hb2
  generalize row.l.getD y.bit.toNat 0=v at *
  have hs:∀ (j:Nat) (v:Int),(Ap l).set j [tK v]=Ap (l.set j v):=fun j v=>Jb
  have hx2:x.toNat<c.nodes.l.length:=by omega
  have w1:=B5 (i:=i) (by omega)
  simp only [tV] at e2 e2'
  simp [Zk,B7,tW] at ih
  simp [h2,A0,A6,Aa,Bf,e1,e1',e2,e2',e3,e3',hx0,hx1,hx2,hl,Zk,B7,tW,A5,Dn,hget,hget',m0,m1,hm2,b0,b1,hb2,hs,w1]
  rw [hK]
  simpa [A5] using ih
theorem qKP (c:B0) (hc:COk c) (s:Hk) (inn:Sl Int) (cap:Option Nat) (l:List Int) (hl:l.length=c.nodes.l.length) (hn:c.nodes.l.length≤1000000) (h1:inn.l.length=(Bg c).length) (h2:s.dff.l.length=(Af c).length)
  (hm:∀ x ∈ mems c,0≤(nd c x).mem∧(nd c x).mem<s.read.l.length∧0≤(nd c x).bit∧(nd c x).bit<(s.read.l.getD (nd c x).mem.toNat Sl.z).l.length) (hz:l=List.replicate c.nodes.l.length 0) :
  F6 Tryz.prog Γ 84 [(1000000,.sl 71 1 (Ap l))] [.ag (Zk c 1000000 c.nodes.l.length cap),.t (.agg (B7 s)),.t (tV inn)] (.t (.tup [])) [(1000000,.sl 71 1 (Ap (Wu c inn.l s.dff.l s.rd)))]:=by
 refine Gy Zl rfl ?_
 have hmv:Xo c s.rd=(mems c).map fun n=>(s.read.l.getD (nd c n).mem.toNat Sl.z).l.getD (nd c n).bit.toNat 0:=by
  unfold Xo
  refine List.map_congr_left fun x hx=>?_
  obtain ⟨m0,m1,_,_⟩:=hm x hx
  have:(nd c x).mem.toNat<s.read.l.length:=by omega
  simp [Hk.rd,List.getD_eq_getElem?_getD,this]
 have hL:Wu c inn.l s.dff.l s.rd=G2 (mems c) ((mems c).map fun n=>(s.read.l.getD (nd c n).mem.toNat Sl.z).l.getD (nd c n).bit.toNat 0) (G2 (Af c) s.dff.l (G2 (Bg c) inn.l l)):=by
  unfold Wu q8e
  rw [hmv,hz]
 have g1:=fun Q h0=>qLA (Γ:=Γ) (Q:=Q) c s inn (Bg c) cap c.nodes.l.length hn (Ov c) (fun x hx=>⟨(Np x hx).1,(Np x hx).2.1⟩) h1 _ h0 (Bg c).length 0 l (by omega) hl rfl
 have g2:=fun Q h0=>qLB (Γ:=Γ) (Q:=Q) c s (Af c) cap c.nodes.l.length hn (Di c) (fun x hx=>⟨(Np x hx).1,(Np x hx).2.1⟩) h2 _ h0 (Af c).length 0 (G2 (Bg c) inn.l l) (by omega) (by rw [Pq]; exact hl) rfl
 have g3:=fun Q h0=>qLC (Γ:=Γ) (Q:=Q) c s (mems c) cap hn (Xe _ _ _) (fun x hx=>⟨(Np x hx).1,(Np x hx).2.1⟩) hm (Wu c inn.l s.dff.l s.rd) h0 (mems c).length 0 (G2 (Af c) s.dff.l (G2 (Bg c) inn.l l)) (by omega) (by rw [Pq,Pq]; exact hl) (by rw [hL,List.drop_zero])
 simp only [List.drop_zero] at g1 g2
 have e3:=qCY (Γ:=Γ) c hc 15
 have hmm:Ky [15] c.nodes.l 0=mems c:=rfl
 rw [hmm] at e3
 generalize Wu c inn.l s.dff.l s.rd=RR at *
 generalize G2 (Af c) s.dff.l (G2 (Bg c) inn.l l)=R2 at *
 generalize G2 (Bg c) inn.l l=R1 at *
 simp [Zk,B7,tV,tW,Ig,A5,A8,Ad,B6] at g1 g2 g3
 simp [O7,Zk,B7,tV,tW,Ig,A5,A8,Ad,B6]
 refine A9 (V6 c hc) rfl ?_
 simp [A0]
 refine g1 _ ?_
 simp
 refine A9 (Et c hc) rfl ?_
 simp [A0]
 refine g2 _ ?_
 simp
 refine A1 e3 rfl ?_
 simp [A0]
 refine g3 _ ?_
 simp [O8]
structure Ei (c:B0) (s:Hk):Prop where
 d:s.dff.l.length=(Af c).length
 w:s.words.l.length=c.mems.l.length
 r:s.read.l.length=c.mems.l.length
 wl:∀ i,i<c.mems.l.length→(s.words.l.getD i Sl.zz).l.length=2 ^ (c.mems.l.getD i Mm.d).addr.l.length
 wr:∀ i,i<c.mems.l.length→∀ w ∈ (s.words.l.getD i Sl.zz).l,w.l.length=(c.mems.l.getD i Mm.d).data.l.length
 rl:∀ i,i<c.mems.l.length→(s.read.l.getD i Sl.z).l.length=(c.mems.l.getD i Mm.d).data.l.length
 vd:∀ v ∈ s.dff.l,0≤v∧v≤2
 vw:∀ w ∈ s.words.l,∀ r ∈ w.l,∀ v ∈ r.l,0≤v∧v≤2
 vr:∀ r ∈ s.read.l,∀ v ∈ r.l,0≤v∧v≤2
theorem qHT {c:B0} (h:Dz c=0):∀ m ∈ c.mems.l,(1≤m.addr.l.length∧m.addr.l.length≤8)∧(1≤m.data.l.length∧m.data.l.length≤32)∧(∀ n ∈ m.addr.l,0≤n∧n<c.nodes.l.length)∧(∀ n ∈ m.data.l,0≤n∧n<c.nodes.l.length)∧0≤m.write∧m.write<c.nodes.l.length:=by
 unfold Dz at h
 split at h
 ·cases h
 split at h
 ·cases h
 split at h
 ·rename_i h2; exact absurd h h2
 split at h
 ·rename_i h2; exact absurd h h2
 split at h
 ·rename_i h2; exact absurd h h2
 rename_i h2
 intro m hm
 have h3:=q0q (by simpa using h2) m hm
 unfold On at h3
 split at h3
 ·cases h3
 rename_i h4
 split at h3
 ·cases h3
 rename_i h5
 simp only [not_or,Bool.not_eq_true] at h4 h5
 obtain ⟨a1,a2⟩:=h4
 obtain ⟨a3,a4,a5⟩:=h5
 simp [Vt] at a1 a2
 simp [Qj] at a5
 refine ⟨⟨by have:=List.length_pos_iff.2 a1.1; omega,by omega⟩,⟨by have:=List.length_pos_iff.2 a2.1; omega,by omega⟩,q4P a3,q4P a4,a5.1,a5.2⟩
theorem qE4 {hp:List (Nat × B9)} {f:FuncId} {K:T→Prop} {cs:List T} {t res:T} (h:Ab Tryz.prog Γ f (t::cs) res∨A3 Tryz.prog Γ f (t::cs) res) (hk:K res):q4v Tryz.prog Γ hp f (.t t::cs.map .t) K ⟨⟩:=by
 rcases h with h | h
 ·exact A9 h (by simp only [List.map_cons,List.map_map,Function.comp_def,Ah,toT]; rw [Pm]; rfl) hk
 ·exact Yf h hk
theorem qGN {Q:AX→St→Prop} (l:List (Sl Int)) (c:Option Nat) (nl:Option Bool) (f:FuncId) (cs:List T) (hp:∀ x ∈ l,Ab Tryz.prog Γ f (tV x::cs) (tB false)∨A3 Tryz.prog Γ f (tV x::cs) (tB false)) (hl:l.length≤1000000)
  (h0:Q (.exit 0) ⟨[(0,.t (.sl (Ac tV l) c nl)),(1,.t (.fn f cs)),(7,.t (tI l.length)),(8,.t (tI l.length)),(9,.t (tB false))],[]⟩):∀ (k i:Nat),k+i=l.length →
  run Tryz.prog Γ D7 Q ⟨[(0,.t (.sl (Ac tV l) c nl)),(1,.t (.fn f cs)),(7,.t (tI l.length)),(8,.t (tI i))],[]⟩
 | 0,i,h=>by
  refine Gj fun K hK=>?_
  have h2:i=l.length:=by omega
  subst h2
  simp
  simpa using h0
 | k+1,i,h=>by
  refine Gj fun K hK=>?_
  have h2:i<l.length:=by omega
  have ih:=qGN l c nl f cs hp hl h0 k (i+1) (by omega)
  have e1:=gE (f:=tV) Sl.z h2
  have e1':=gE' (f:=tV) Sl.z h2
  rw [show l.getD i Sl.z=l[i] by simp [List.getD_eq_getElem?_getD,h2]] at e1 e1'
  have hq:=hp _ (List.getElem_mem h2)
  generalize l[i]=x at *
  have w1:=B5 (i:=i) (by omega)
  simp [A0,A6,h2,e1,e1']
  refine qE4 hq ?_
  simp [w1]
  rw [hK]
  simpa using ih
theorem q4X (l:List (Sl Int)) (c:Option Nat) (nl:Option Bool) (f:FuncId) (cs:List T) (hp:∀ x ∈ l,Ab Tryz.prog Γ f (tV x::cs) (tB false)∨A3 Tryz.prog Γ f (tV x::cs) (tB false)) (hl:l.length≤1000000):A3 Tryz.prog Γ 103 [.sl (Ac tV l) c nl,.fn f cs] (tB false):=by
 have hi:A3 Tryz.prog Γ 172 [.sl (Ac tV l) c nl,.fn f cs] (tI (-1)):=by
  refine A7 Rm rfl ?_
  have g:=fun Q h0=>qGN (Γ:=Γ) (Q:=Q) l c nl f cs hp hl h0 l.length 0 (by omega)
  simp at g
  simp [I8,A0]
  refine g _ ?_
  simp [I9]
 refine A7 P0 rfl ?_
 simp [Gt]
 refine A1 hi rfl ?_
 simp [Gu]
theorem qAh (l:Sl Int) (m:Mm):A3 Tryz.prog Γ 210 [tV l,.ip (tMm m) 0] (tB (decide (¬ (l.l.length:Int)=m.data.l.length))):=by
 refine A7 q4n rfl ?_
 simp [Yy,tV,tMm,B6,A0,Yz]
theorem qMP {n:Nat} (h:n≤8):IntKind.i64.wrap (2 ^ min n IntKind.i64.bits)=((2 ^ n:Nat):Int):=by
 have e:min n IntKind.i64.bits=n:=by
  have:IntKind.i64.bits=64:=rfl
  rw [this]
  exact Nat.min_eq_left (by omega)
 rw [e]
 have h2:2 ^ n≤2 ^ 8:=Nat.pow_le_pow_right (by omega) h
 have h3:(2:Int) ^ n=((2 ^ n:Nat):Int):=by simp
 rw [h3]
 generalize 2 ^ n=q at *
 exact A4 (by omega) (by omega)
theorem qE5 {Q:AX→St→Prop} (c:B0) (hcm:c.mems.l.length≤16) (hma:∀ m ∈ c.mems.l,m.addr.l.length≤8) (s:Hk) (H:Ei c s)
  (h0:Q (.exit 0) ⟨[(3,.t (.ip (B7 s) 0)),(34,.t (Ad c.mems)),(35,.t (tI c.mems.l.length)),(36,.t (tI c.mems.l.length)),(37,.t (tB false))],[]⟩):∀ (k i:Nat),k+i=c.mems.l.length →
  run Tryz.prog Γ M1 Q ⟨[(3,.t (.ip (B7 s) 0)),(34,.t (Ad c.mems)),(35,.t (tI c.mems.l.length)),(36,.t (tI i))],[]⟩
 | 0,i,h=>by
  refine Vb fun K hK=>?_
  have h2:i=c.mems.l.length:=by omega
  subst h2
  simp [B7,Ad] at h0
  simp [B7,Ad]
  simpa using h0
 | k+1,i,h=>by
  refine Vb fun K hK=>?_
  have h2:i<c.mems.l.length:=by omega
  have ih:=qE5 c hcm hma s H h0 k (i+1) (by omega)
  have e1:(Ar tMm c.mems.l)[i]?.getD []=tMm (c.mems.l.getD i Mm.d):=by simp [Ar,h2]
  have e1':∀ h,(Ar tMm c.mems.l)[i]'h=tMm (c.mems.l.getD i Mm.d):=fun h=>by simp [Ar,h2]
  have ma:(c.mems.l.getD i Mm.d).addr.l.length≤8:=by
   rw [show c.mems.l.getD i Mm.d=c.mems.l[i] by simp [List.getD_eq_getElem?_getD,h2]]
   exact hma _ (List.getElem_mem h2)
  have h3:i<s.words.l.length:=by rw [H.w]; exact h2
  have h4:i<s.read.l.length:=by rw [H.r]; exact h2
  have e2:=gE (f:=tW) Sl.zz h3
  have e2':=gE' (f:=tW) Sl.zz h3
  have e3:=gE (f:=tV) Sl.z h4
  have e3':=gE' (f:=tV) Sl.z h4
  have wl:=H.wl i h2
  have wr:=H.wr i h2
  have rl:=H.rl i h2
  generalize s.words.l.getD i Sl.zz=W at *
  generalize s.read.l.getD i Sl.z=rd at *
  generalize c.mems.l.getD i Mm.d=m at *
  have sh:=qMP ma
  have hwl:(W.l.length:Int)=2 ^ m.addr.l.length:=by rw [wl]; simp
  have hWl:W.l.length≤256:=by rw [wl]; exact Nat.pow_le_pow_right (by omega) ma
  have f1:=qAh (Γ:=Γ) rd m
  have hrl:¬ (¬ (rd.l.length:Int)=m.data.l.length):=by omega
  rw [decide_eq_false hrl] at f1
  have f2:=q4X (Γ:=Γ) W.l W.cap W.nl 210 [.ip (tMm m) 0] (fun x hx=>by
   have:=qAh (Γ:=Γ) x m
   rw [decide_eq_false (by have:=wr x hx; omega)] at this
   exact .inr this) (by omega)
  have w1:=B5 (i:=i) (by omega)
  have h3':(i:Int)<s.words.l.length:=by omega
  have h4':(i:Int)<s.read.l.length:=by omega
  simp only [tV] at e3 e3' f1
  simp only [tW] at e2 e2'
  simp only [tMm,B6] at e1 e1' f1 f2
  simp [B7,Ad,tW,Ig] at ih
  simp [B7,Ad,Qi,tW,Ig,Aa,A0,A6,h2,e1,e1',e2,e2',e3,e3',h3,h4,sh,hwl]
  refine A1 f1 rfl ?_
  simp [h2,e1,e1',e2,e2',e3,e3',h3,h4,A0,A6]
  refine A1 f2 rfl ?_
  simp [w1]
  rw [hK]
  simpa using ih
theorem qFQ (c:B0) (hc:COk c) (hcm:c.mems.l.length≤16) (hma:∀ m ∈ c.mems.l,m.addr.l.length≤8) (s:Hk) (H:Ei c s):Ab Tryz.prog Γ 148 [.agg (tC c),.agg (B7 s)] (tB true):=by
 refine Aq q7D rfl ?_
 have g:=fun Q h0=>qE5 (Γ:=Γ) (Q:=Q) c hcm hma s H h0 c.mems.l.length 0 (by omega)
 have es:=Et (Γ:=Γ) c hc
 have h1:=H.d
 have h2:=H.w
 have h3:=H.r
 simp [B7,tV,tW,Ig,Ad] at g
 simp [tC,A5,A8,Ad,B6] at es
 simp [q1S,tC,A5,A8,Ad,B6,B7,tV,tW,Ig]
 refine A9 es rfl ?_
 simp [A0,Aa,h1,h2,h3]
 refine g _ ?_
 simp [q1T]
def Qz (s:Hk):List (Sl Int):=s.dff::s.read.l++s.words.l.flatMap (·.l)
theorem qE6 {Q:AX→St→Prop} (words:Sl (Sl (Sl Int))) (hl:words.l.length≤1000) (hw:∀ w ∈ words.l,w.l.length≤1000) (hw1:∀ w ∈ words.l,w.l ≠ []) (R:List (Sl Int))
  (h0:Q (.exit 0) ⟨[(3,.ls 11 0 R.length none),(13,.t (Ig words)),(14,.t (tI words.l.length)),(15,.t (tI words.l.length)),(16,.t (tB false))],[(11,.sl 55 1 (Ac tV R))]⟩) :
  ∀ (k i:Nat) (out:List (Sl Int)),k+i=words.l.length→out.length≤2000+1000*i→out++(words.l.drop i).flatMap (·.l)=R →
  run Tryz.prog Γ K5 Q ⟨[(3,.ls 11 0 out.length none),(13,.t (Ig words)),(14,.t (tI words.l.length)),(15,.t (tI i))],[(11,.sl 55 1 (Ac tV out))]⟩
 | 0,i,out,h,ho,hR=>by
  refine S1 fun K hK=>?_
  have h2:i=words.l.length:=by omega
  subst h2
  rw [List.drop_length] at hR
  simp only [List.flatMap_nil,List.append_nil] at hR
  subst hR
  simp
  simpa using h0
 | k+1,i,out,h,ho,hR=>by
  refine S1 fun K hK=>?_
  have h2:i<words.l.length:=by omega
  rw [List.drop_eq_getElem_cons h2,List.flatMap_cons] at hR
  have e1:=gE (f:=tW) Sl.zz h2
  have e1':=gE' (f:=tW) Sl.zz h2
  rw [show words.l.getD i Sl.zz=words.l[i] by simp [List.getD_eq_getElem?_getD,h2]] at e1 e1'
  have hwl:=hw _ (List.getElem_mem h2)
  have hwn:=hw1 _ (List.getElem_mem h2)
  generalize words.l[i]=w at *
  have ih:=qE6 words hl hw hw1 R h0 k (i+1) (out++w.l) (by omega) (by simp; omega) (by rw [← hR]; simp)
  have w1:=B5 (i:=i) (by omega)
  have vt:(Ac tV out).take out.length=Ac tV out:=Ag
  have va:Ac tV out++Ac tV w.l=Ac tV (out++w.l):=q6g
  simp only [tW] at e1 e1'
  simp [Ig] at ih
  simp [Ig,A0,A6,h2,e1,e1',vt,va,w1]
  refine ⟨by omega,?_⟩
  rw [hK]
  simpa using ih
theorem qFR (s:Hk) (hl:s.words.l.length≤1000) (hr:s.read.l.length=s.words.l.length) (hw:∀ w ∈ s.words.l,w.l.length≤1000) (hw1:∀ w ∈ s.words.l,w.l ≠ []):Ab Tryz.prog Γ 149 [.agg (B7 s)] (.sl (Ac tV (Qz s)) none none):=by
 have hwid:Cm 1 [[T.sl (Ap s.dff.l) s.dff.cap s.dff.nl]]:=by intro e he; simp at he; subst he; rfl
 by_cases h0:s.words.l=[]
 ·have h1:s.read.l=[]:=List.eq_nil_of_length_eq_zero (by rw [hr,h0]; rfl)
  refine Aq q4m rfl ?_
  simp [Yw,B7,tV,tW,Ig,h0,h1,Cd]
  refine q2B fun K hK=>?_
  simp [Yx,Qz,h0,h1,Ac,tV]
 ·refine Aq q65 rfl ?_
  have g:=fun Q h0=>qE6 (Γ:=Γ) (Q:=Q) s.words hl hw hw1 (Qz s) h0 s.words.l.length 0 (s.dff::s.read.l) (by omega) (by simp; omega) (by simp [Qz])
  have vt:(Ac tV (Qz s)).take (Qz s).length=Ac tV (Qz s):=Ag
  have hrn:¬ s.read.l=[]:=fun e=>by rw [e] at hr; exact h0 (List.eq_nil_of_length_eq_zero hr.symm)
  have hen:¬ Ac tV s.read.l=[]:=fun e=>hrn (by have:=congrArg List.length e; rw [A0] at this; exact List.eq_nil_of_length_eq_zero this)
  have hcons:Ac tV (s.dff::s.read.l)=[tV s.dff]::Ac tV s.read.l:=rfl
  rw [hcons] at g
  generalize Qz s=R at *
  simp [tV,tW,Ig] at g
  simp [q0D,B7,tV,tW,Ig,A0,A6,hen,hwid]
  rw [Nat.add_comm 1]
  refine ⟨by omega,g _ ?_⟩
  simp [q0E,Ai,vt]
theorem qC5 (v m:Int):A3 Tryz.prog Γ 146 [tK v,.ip [tK m] 0] (tB (decide (v > m))):=by
 refine A7 q2C rfl ?_
 simp [S3,S4]
theorem qE7 (m:Int):Ab Tryz.prog Γ 145 [tK m] (.fn 146 [.ip [tK m] 0]):=by
 refine Aq q3r rfl ?_
 simp [Wp,Wq,Ai,Nv,q0v,Ah]
theorem qIx (l:Sl Int) (hl:l.l.length≤1000000) (hv:∀ v ∈ l.l,v≤2):A3 Tryz.prog Γ 147 [tV l,.ip [.fn 145 []] 0] (tB false):=by
 refine A7 q3s rfl ?_
 have e:=E0 (Γ:=Γ) l.l l.cap l.nl 146 [.ip [tK 2] 0] (fun v=>decide (v > 2)) (fun x _=>qC5 x 2) (by omega)
 have ha:l.l.any (fun v=>decide (v > 2))=false:=by
  rw [List.any_eq_false]
  intro v h
  have:=hv v h
  simp; omega
 rw [ha] at e
 simp [Ws,tV]
 refine A9 (qE7 2) rfl ?_
 simp
 refine A1 e rfl ?_
 simp [Wt]
structure MOk (c:B0):Prop where
 ok:COk c
 lev:Eh c=0
 n:c.nodes.l.length≤1000000
theorem MOk.cm {c:B0} (h:MOk c):c.mems.l.length≤16:=(Ih (Po h.lev).1).2.2.2
theorem MOk.mf {c:B0} (h:MOk c):∀ m ∈ c.mems.l,(1≤m.addr.l.length∧m.addr.l.length≤8)∧(1≤m.data.l.length∧m.data.l.length≤32)∧(∀ n ∈ m.addr.l,0≤n∧n<c.nodes.l.length)∧(∀ n ∈ m.data.l,0≤n∧n<c.nodes.l.length)∧0≤m.write∧m.write<c.nodes.l.length:=qHT (Po h.lev).1
theorem U3 {α:Type} {l:List α} {d:α} {i:Nat} (h:i<l.length):l.getD i d ∈ l:=by
 rw [show l.getD i d=l[i] by simp [List.getD_eq_getElem?_getD,h]]
 exact List.getElem_mem h
theorem Ei.words {c:B0} {s:Hk} (h:MOk c) (H:Ei c s):∀ w ∈ s.words.l,w.l.length≤256∧w.l ≠ []∧∀ r ∈ w.l,r.l.length≤32:=by
 intro w hw
 obtain ⟨i,hi,rfl⟩:=List.getElem_of_mem hw
 have hi':i<c.mems.l.length:=by rw [← H.w]; exact hi
 have e:s.words.l.getD i Sl.zz=s.words.l[i]:=by simp [List.getD_eq_getElem?_getD,hi]
 have h1:=H.wl i hi'
 have h2:=H.wr i hi'
 have h3:=h.mf _ (U3 (d:=Mm.d) hi')
 rw [e] at h1 h2
 have h4:2 ^ (c.mems.l.getD i Mm.d).addr.l.length≤2 ^ 8:=Nat.pow_le_pow_right (by omega) h3.1.2
 have h5:0<2 ^ (c.mems.l.getD i Mm.d).addr.l.length:=Nat.pow_pos (by omega)
 exact ⟨by omega,fun e=>by have:=congrArg List.length e; rw [h1,List.length_nil] at this; omega,fun r hr=>by rw [h2 r hr]; exact h3.2.1.2⟩
theorem Ei.reads {c:B0} {s:Hk} (h:MOk c) (H:Ei c s):∀ r ∈ s.read.l,r.l.length≤32:=by
 intro r hr
 obtain ⟨i,hi,rfl⟩:=List.getElem_of_mem hr
 have hi':i<c.mems.l.length:=by rw [← H.r]; exact hi
 have e:s.read.l.getD i Sl.z=s.read.l[i]:=by simp [List.getD_eq_getElem?_getD,hi]
 have h1:=H.rl i hi'
 have h3:=h.mf _ (U3 (d:=Mm.d) hi')
 rw [e] at h1
 rw [h1]; exact h3.2.1.2
theorem q8s (hΓ:GOk Γ) (c:B0) (h:MOk c) (s:Hk) (H:Ei c s) (inn:Sl Int) (hi:inn.l.length=(Bg c).length) (hv:∀ v ∈ inn.l,v≤3):Ab Tryz.prog Γ 82 [.agg (tC c),.agg (B7 s),tV inn] (tI 0):=by
 refine Aq q66 rfl ?_
 have e1:=q5v hΓ c h.ok
 have e2:=V6 (Γ:=Γ) c h.ok
 have e3:=qFQ (Γ:=Γ) c h.ok h.cm (fun m hm=>(h.mf m hm).1.2) s H
 have hcm:=h.cm
 have hsw:=H.w
 have hsr:=H.r
 have hsd:=H.d
 have hsl:=Di c
 have hil:=Ov c
 have hn:=h.n
 have hW:=H.words h
 have hR:=H.reads h
 have e4:=qFR (Γ:=Γ) s (by omega) (by omega) (fun w hw=>by have:=(hW w hw).1; omega) (fun w hw=>(hW w hw).2.1)
 have hlen:(Qz s).length≤1000000:=by
  have:(s.words.l.flatMap (·.l)).length≤256*s.words.l.length:=by
   have key:∀ l:List (Sl (Sl Int)),(∀ w ∈ l,w.l.length≤256)→(l.flatMap (·.l)).length≤256*l.length:=by
    intro l
    induction l with
    | nil=>intro _; simp
    | cons w l ih =>
     intro hl
     have h1:=hl w List.mem_cons_self
     have h2:=ih fun x hx=>hl x (List.mem_cons_of_mem _ hx)
     simp only [List.flatMap_cons,List.length_append,List.length_cons]
     omega
   exact key _ fun w hw=>(hW w hw).1
  simp only [Qz,List.cons_append,List.length_cons,List.length_append]
  omega
 have hall:∀ r ∈ Qz s,r.l.length≤1000000∧∀ v ∈ r.l,v≤2:=by
  intro r hr
  simp only [Qz,List.cons_append,List.mem_cons,List.mem_append,List.mem_flatMap] at hr
  rcases hr with rfl | hr | ⟨w,hw,hr⟩
  ·exact ⟨by omega,fun v hv=>(H.vd v hv).2⟩
  ·exact ⟨by have:=hR r hr; omega,fun v hv=>(H.vr r hr v hv).2⟩
  ·exact ⟨by have:=(hW w hw).2.2 r hr; omega,fun v hv=>(H.vw w hw r hr v hv).2⟩
 have e5:=q4X (Γ:=Γ) (Qz s) none none 147 [.ip [.fn 145 []] 0] (fun x hx=>.inr (qIx x (hall x hx).1 (hall x hx).2)) hlen
 have e6:=E0 (Γ:=Γ) inn.l inn.cap inn.nl 146 [.ip [tK 3] 0] (fun v=>decide (v > 3)) (fun x _=>qC5 x 3) (by omega)
 have ha:inn.l.any (fun v=>decide (v > 3))=false:=by
  rw [List.any_eq_false]
  intro v h
  have:=hv v h
  simp; omega
 rw [ha] at e6
 rw [h.lev] at e1
 generalize Qz s=L at *
 simp [tC,A5,A8,Ad,B6] at e1 e2 e3
 simp [B7,tV,tW,Ig] at e3 e4
 simp [q0F,tC,A5,A8,Ad,B6,B7,tV,tW,Ig]
 refine A1 e1 rfl ?_
 simp
 refine A9 e2 rfl ?_
 simp [A0,hi]
 refine A9 e3 rfl ?_
 simp
 refine A9 (qE7 3) rfl ?_
 simp
 refine A1 e6 rfl ?_
 simp
 refine A9 e4 rfl ?_
 simp
 refine A1 e5 rfl ?_
 simp [q0G]
def cyH (c:B0) (n:Nat) (nets:List Int):List (Nat × B9):=[(6,.bx [Fg,Fg,Fg]),(7,.bx [Fg,Fg]),(11,.bx (Zk c 35 n (some n))),(35,.sl 71 1 (Ap nets))]
def cyE (c:B0) (s:Hk):List (Nat × AV):=[(3,.t (.ip (tC c) 0)),(4,.t (.ip (B7 s) 0)),(6,.lp 6 0 0),(7,.lp 7 0 0),(11,.lp 11 0 0)]
theorem qLD {Q:AX→St→Prop} (hΓ:GOk Γ) (c:B0) (H:ROk c) (hn:c.nodes.l.length≤1000000) (s:Hk) (ord:List Int) (ho:ord.length≤1000000) (hin:∀ n ∈ ord,0≤n∧n<c.nodes.l.length) (R:List Int)
  (h0:Q (.exit 0) ⟨cyE c s++[(46,.t (.sl (Av ord) none none)),(47,.t (tI ord.length)),(48,.t (tI ord.length)),(49,.t (tB false))],cyH c c.nodes.l.length R⟩) :
  ∀ (k i:Nat) (nets:List Int),k+i=ord.length→nets.length=c.nodes.l.length→(∀ v ∈ nets,V4 v)→q95 c (ord.drop i) nets=R →
  run Tryz.prog Γ K6 Q ⟨cyE c s++[(46,.t (.sl (Av ord) none none)),(47,.t (tI ord.length)),(48,.t (tI i))],cyH c c.nodes.l.length nets⟩
 | 0,i,nets,h,hl,hv,hR=>by
  refine S5 fun K hK=>?_
  have h2:i=ord.length:=by omega
  subst h2
  rw [List.drop_length] at hR
  have hR':nets=R:=hR
  subst hR'
  simp [cyE,cyH,Zk,Fg,A5,A8,Ad,B6] at h0
  simp [cyE,cyH,Zk,Fg,A5,A8,Ad,B6]
  simpa using h0
 | k+1,i,nets,h,hl,hv,hR=>by
  refine S5 fun K hK=>?_
  have h2:i<ord.length:=by omega
  rw [List.drop_eq_getElem_cons h2] at hR
  have hR:q95 c (ord.drop (i+1)) (Uz c nets ord[i])=R:=hR
  have e1:=gE (f:=tI) 0 h2
  have e1':=gE' (f:=tI) 0 h2
  have hnn:=hin _ (List.getElem_mem h2)
  rw [Bv h2] at e1 e1'
  generalize ord[i]=n at *
  have ih:=qLD hΓ c H hn s ord ho hin R h0 k (i+1) (Uz c nets n) (by omega) (by rw [q85]; exact hl) (qGH hv) hR
  have hget:=qAU hnn.1 hnn.2
  have hget':=qCj hnn.1 hnn.2
  have hmem:=qIi hnn.1 hnn.2
  have hxi:=H.inn _ hmem
  have hkk:=H.ok.kind _ hmem
  have hinv:Ym c nets n.toNat=Bi nets (nd c n).inn.l:=rfl
  have hlR:(Ym c nets n.toNat).length=(nd c n).inn.l.length:=by rw [hinv]; simp [Bi]
  have hvR:∀ v ∈ Ym c nets n.toNat,V4 v:=fun v hv'=>by
   rw [hinv] at hv'
   obtain ⟨q,hq,rfl⟩:=List.mem_map.1 hv'
   exact Tn hv _
  have hev:=qHK hΓ (nd c n).k hkk (Ym c nets n.toNat) none none (by rw [hlR]; omega) hvR
  have hcb:=q7s (Γ:=Γ) (nd c n).k
  have hst:Uz c nets n=if E6 (nd c n).k then nets.set n.toNat (Yj (nd c n).k (Ym c nets n.toNat)) else nets:=rfl
  have hmv:=q2H (Γ:=Γ) c ⟨nets,some c.nodes.l.length,none⟩ (by show nets.length≤_; omega) (nd c n).inn (by omega) (fun k hk=>by show 0≤k∧k<(nets.length:Int); rw [hl]; exact hxi.2 k hk)
  have hcd:decide (1≤(nd c n).k∧(nd c n).k≤13)=E6 (nd c n).k:=rfl
  rw [hcd] at hcb
  rw [hst] at ih
  simp only [← hinv] at hmv
  generalize Ym c nets n.toNat=RV at *
  generalize nd c n=x at *
  obtain ⟨hn0,hn1⟩:=hnn
  have hn2:n.toNat<c.nodes.l.length:=by omega
  have hn3:n.toNat<nets.length:=by omega
  have w1:=B5 (i:=i) (by omega)
  have vt:(Ap nets).take c.nodes.l.length=Ap nets:=by rw [← hl]; exact Cj
  simp [Nq,A5,A8,Ad,B6,tV] at hmv
  simp [cyE,cyH,Zk,Fg,A5,A8,Ad,B6] at ih
  simp [cyE,cyH,Zk,Fg,A5,A8,Ad,B6,h2,A0,A6,Aa,Bf,e1,e1',hn0,hn1,hn2,hget,hget',Dn]
  refine A1 hcb rfl ?_
  by_cases hc:E6 x.k=true
  ·rw [if_pos hc] at ih
   simp only [hc]
   have hs:(Ap nets).set n.toNat [tK (Yj x.k RV)]=Ap (nets.set n.toNat (Yj x.k RV)):=Jb
   generalize Yj x.k RV=v at *
   simp
   refine A1 hmv (by simp [Ai,vt,Ah]) ?_
   simp
   refine A1 hev rfl ?_
   simp [hn0,hn1,hn2,hn3,A0,hl,hs,w1]
   rw [hK]
   simpa using ih
  ·rw [if_neg hc] at ih
   simp only [Bool.not_eq_true] at hc
   simp only [hc]
   simp [w1]
   rw [hK]
   simpa using ih
def P3 (R:List (List Int)):Sl (Sl Int):=⟨R.map fun r=>⟨r,none,none⟩,some R.length,none⟩
theorem qIy (R:List (List Int)):qGM R=tW (P3 R):=by
 unfold qGM tW P3 Ac
 simp [tV,Function.comp_def]
def Kt (nets:List Int) (ms:List Mm) (ws:List (Sl (Sl Int))):List (Sl Int):=List.zipWith (fun m w=>⟨Z1 (w.l.map (·.l)) (Bi nets m.addr.l),none,none⟩) ms ws
def Il (nets:List Int) (ms:List Mm) (ws:List (Sl (Sl Int))):List (Sl (Sl Int)):=List.zipWith (fun m w=>P3 (Ez (Bi nets m.addr.l) (Bi nets m.data.l) (nets.getD m.write.toNat 0) 0 (w.l.map (·.l)))) ms ws
def qFS (c:B0) (n:Nat) (nets:List Int) (o x d:T) (rs:List (Sl Int)) (ws:List (Sl (Sl Int))):List (Nat × B9) :=
 [(6,.bx [Fg,Fg,Fg]),(7,.bx [Fg,Fg]),(11,.bx ((Nq c ⟨nets,some n,none⟩).map .t)),(17,.bx [.t o,.t x]),(18,.bx [.t d,.ls 127 0 ws.length none,.ls 105 0 rs.length none]),(105,.sl 55 1 (Ac tV rs)),(127,.sl 57 1 (Ac tW ws))]
def qFT (c:B0) (s:Hk):List (Nat × AV):=[(4,.t (.ip (B7 s) 0)),(6,.lp 6 0 0),(7,.lp 7 0 0),(11,.lp 11 0 0),(17,.lp 17 0 0),(18,.lp 18 0 0)]
theorem qLE {Q:AX→St→Prop} (c:B0) (hn:c.nodes.l.length≤1000000) (s:Hk) (nets:List Int) (hl:nets.length=c.nodes.l.length) (hv:∀ v ∈ nets,V4 v) (hcm:c.mems.l.length≤16)
  (hm:∀ m ∈ c.mems.l,m.addr.l.length≤8∧m.data.l.length≤32∧(∀ n ∈ m.addr.l,0≤n∧n<c.nodes.l.length)∧(∀ n ∈ m.data.l,0≤n∧n<c.nodes.l.length)∧0≤m.write∧m.write<c.nodes.l.length)
  (hs:s.words.l.length=c.mems.l.length) (hw:∀ w ∈ s.words.l,w.l.length≤256∧w.l ≠ []∧∀ r ∈ w.l,r.l.length≤32) (o x d:T) (RR:List (Sl Int)) (RW:List (Sl (Sl Int)))
  (h0:Q (.exit 2) ⟨qFT c s++[(84,.t (Ad c.mems)),(85,.t (tI c.mems.l.length)),(86,.t (tI c.mems.l.length)),(87,.t (tB false))],qFS c c.nodes.l.length nets o x d RR RW⟩) :
  ∀ (k i:Nat) (rs:List (Sl Int)) (ws:List (Sl (Sl Int))),k+i=c.mems.l.length→rs.length=i→ws.length=i→rs++Kt nets (c.mems.l.drop i) (s.words.l.drop i)=RR→ws++Il nets (c.mems.l.drop i) (s.words.l.drop i)=RW →
  run Tryz.prog Γ K7 Q ⟨qFT c s++[(84,.t (Ad c.mems)),(85,.t (tI c.mems.l.length)),(86,.t (tI i))],qFS c c.nodes.l.length nets o x d rs ws⟩
 | 0,i,rs,ws,h,hr,hws,hR,hW=>by
  refine S7 fun K hK=>?_
  have h2:i=c.mems.l.length:=by omega
  subst h2
  rw [List.drop_length] at hR hW
  simp only [Kt,Il,List.zipWith_nil_left,List.append_nil] at hR hW
  subst hR
  subst hW
  simp [qFT,qFS,Nq,Fg,tV,A5,A8,Ad,B6] at h0
  simp [qFT,qFS,Nq,Fg,tV,A5,A8,Ad,B6]
  simpa using h0
 | k+1,i,rs,ws,h,hr,hws,hR,hW=>by
  refine S7 fun K hK=>?_
  have h2:i<c.mems.l.length:=by omega
  have h3:i<s.words.l.length:=by omega
  rw [List.drop_eq_getElem_cons h2,List.drop_eq_getElem_cons h3] at hR hW
  simp only [Kt,Il,List.zipWith_cons_cons] at hR hW
  have e1:(Ar tMm c.mems.l)[i]?.getD []=tMm c.mems.l[i]:=by simp [Ar,h2]
  have e1':∀ h,(Ar tMm c.mems.l)[i]'h=tMm c.mems.l[i]:=fun h=>by simp [Ar]
  have e2:=gE (f:=tW) Sl.zz h3
  have e2':=gE' (f:=tW) Sl.zz h3
  rw [show s.words.l.getD i Sl.zz=s.words.l[i] by simp [List.getD_eq_getElem?_getD,h3]] at e2 e2'
  obtain ⟨ma,md,mia,mid,mw0,mw1⟩:=hm _ (List.getElem_mem h2)
  obtain ⟨wl,wn,wr⟩:=hw _ (List.getElem_mem h3)
  generalize c.mems.l[i]=m at *
  generalize s.words.l[i]=w at *
  have ih:=qLE c hn s nets hl hv hcm hm hs hw o x d RR RW h0 k (i+1) (rs++[⟨Z1 (w.l.map (·.l)) (Bi nets m.addr.l),none,none⟩]) (ws++[P3 (Ez (Bi nets m.addr.l) (Bi nets m.data.l) (nets.getD m.write.toNat 0) 0 (w.l.map (·.l)))]) (by omega) (by rw [List.length_append,hr]; rfl) (by rw [List.length_append,hws]; rfl) (by rw [← hR,List.append_assoc]; rfl) (by rw [← hW,List.append_assoc]; rfl)
  have hva:=q2H (Γ:=Γ) c ⟨nets,some c.nodes.l.length,none⟩ (by show nets.length≤_; omega) m.addr (by omega) (fun k hk=>by show 0≤k∧k<(nets.length:Int); rw [hl]; exact mia k hk)
  have hvd:=q2H (Γ:=Γ) c ⟨nets,some c.nodes.l.length,none⟩ (by show nets.length≤_; omega) m.data (by omega) (fun k hk=>by show 0≤k∧k<(nets.length:Int); rw [hl]; exact mid k hk)
  have val:(Bi nets m.addr.l).length=m.addr.l.length:=by simp [Bi]
  have vdl:(Bi nets m.data.l).length=m.data.l.length:=by simp [Bi]
  have vav:∀ v ∈ Bi nets m.addr.l,0≤v:=fun v hv'=>by
   obtain ⟨q,_,rfl⟩:=List.mem_map.1 hv'
   exact (Tn hv _).1
  have hlook:=qHS (Γ:=Γ) w (by omega) (fun r hr=>by have:=wr r hr; omega) ⟨Bi nets m.addr.l,none,none⟩ (by show (Bi nets m.addr.l).length≤_; omega) vav
  have hsto:=qFO (Γ:=Γ) w (by omega) (fun r hr=>by have:=wr r hr; omega) ⟨Bi nets m.addr.l,none,none⟩ ⟨Bi nets m.data.l,none,none⟩ (by show (Bi nets m.addr.l).length≤_; omega) vav (by show (Bi nets m.data.l).length≤_; omega) (nets.getD m.write.toNat 0)
  rw [if_neg wn] at hlook
  rw [qIy] at hsto
  have hq:m.write.toNat<nets.length:=by omega
  have e3:=gE (f:=tK) 0 hq
  have e3':=gE' (f:=tK) 0 hq
  have hqn:m.write.toNat<c.nodes.l.length:=by omega
  generalize nets.getD m.write.toNat 0=en at *
  simp only at hlook hsto hva hvd
  have hsr:Ac tV rs++[[tV ⟨Z1 (w.l.map (·.l)) (Bi nets m.addr.l),none,none⟩]]=Ac tV (rs++[⟨Z1 (w.l.map (·.l)) (Bi nets m.addr.l),none,none⟩]):=Be
  have hsw:Ac tW ws++[[tW (P3 (Ez (Bi nets m.addr.l) (Bi nets m.data.l) en 0 (w.l.map (·.l))))]]=Ac tW (ws++[P3 (Ez (Bi nets m.addr.l) (Bi nets m.data.l) en 0 (w.l.map (·.l)))]):=Be
  generalize P3 (Ez (Bi nets m.addr.l) (Bi nets m.data.l) en 0 (w.l.map (·.l)))=nw at *
  generalize Z1 (w.l.map (·.l)) (Bi nets m.addr.l)=L at *
  have hsr:Ac tV rs++[[T.sl (Ap L) none none]]=Ac tV (rs++[⟨L,none,none⟩]):=hsr
  have hsw:Ac tW ws++[[T.sl (Ac tV nw.l) nw.cap nw.nl]]=Ac tW (ws++[nw]):=hsw
  have hsto:Ab Tryz.prog Γ 92 [tW w,.sl (Ap (Bi nets m.addr.l)) none none,.sl (Ap (Bi nets m.data.l)) none none,tK en] (T.sl (Ac tV nw.l) nw.cap nw.nl):=hsto
  generalize Bi nets m.addr.l=va at *
  generalize Bi nets m.data.l=vd at *
  have w1:=B5 (i:=i) (by omega)
  have vt:(Ap nets).take c.nodes.l.length=Ap nets:=by rw [← hl]; exact Cj
  have vt1:(Ac tV rs).take i=Ac tV rs:=by rw [← hr]; exact Ag
  have vt2:(Ac tW ws).take i=Ac tW ws:=by rw [← hws]; exact Ag
  have h3i:(i:Int)<s.words.l.length:=by omega
  simp only [tMm,B6] at e1 e1'
  simp [Nq,A5,A8,Ad,B6] at hva hvd
  simp only [tV] at hva hvd
  simp [qFT,qFS,Nq,Fg,tV,A5,A8,Ad,B6,B7,Ig] at ih
  simp [qFT,qFS,Nq,Fg,tV,A5,A8,Ad,B6,B7,Ig,h2,Qi,Aa,e1,e1']
  refine A1 hva rfl ?_
  simp [h3,A0,A6,e2,e2']
  refine A9 hlook rfl ?_
  have hw1:∀ t:T,Cm 1 [[t]]:=fun t e he=>by simp at he; subst he; rfl
  simp [hr,hws,h3,A0,A6,e2,e2',vt1,vt2,hsr,hw1]
  refine ⟨by omega,?_⟩
  refine A1 hvd rfl ?_
  simp [hl,hq,hqn,mw0,mw1,e3,e3',A0,A6]
  refine A9 hsto rfl ?_
  simp [hr,hws,A0,A6,vt1,vt2,hsw,hw1,w1]
  refine ⟨by omega,?_⟩
  rw [hK]
  simpa [hr,hws] using ih
theorem qGO (es:List (List T)) (cap:Option Nat) (nl:Option Bool) (hw:Cm 1 es):Ab Tryz.prog Γ 94 [.sl es cap nl] (.sl es (some es.length) nl):=by
 refine Aq Z3 rfl ?_
 simp [Nb,Nc,hw]
theorem qIz (es:List (List T)) (cap:Option Nat) (nl:Option Bool) (hw:Cm 1 es):Ab Tryz.prog Γ 93 [.sl es cap nl] (.sl es (some es.length) nl):=by
 refine Aq Xn rfl ?_
 simp [Ll,Lm,hw]
theorem qBH (c:B0) (hc:COk c) (nets:Sl Int) (hl:nets.l.length≤1000000000):Ab Tryz.prog Γ 88 [.agg (tC c),tV nets] (.agg [tVs (q1O c nets.l),tVs (Df c nets.l)]):=by
 refine Aq q86 rfl ?_
 have h:=qCe (Γ:=Γ) c hc nets hl
 generalize q1O c nets.l=O at *
 generalize Df c nets.l=N at *
 simp [Nq,A5,A8,Ad,B6,tV] at h
 simp [q2U,tC,A5,A8,Ad,B6,tV]
 refine A1 h rfl ?_
 simp [q2V,tVs]
def Lo (c:B0) (s:Hk) (nets:List Int):Hk :=
 ⟨⟨Df c nets,some (Df c nets).length,none⟩,⟨Il nets c.mems.l s.words.l,some c.mems.l.length,none⟩,⟨Kt nets c.mems.l s.words.l,some c.mems.l.length,none⟩⟩
def Bn (c:B0) (s:Hk) (inn:List Int):List Int:=qC0 c inn s.dff.l s.rd
set_option maxHeartbeats 4000000 in
theorem qFU (hΓ:GOk Γ) (c:B0) (h:MOk c) (hn:c.nodes.l.length≤19) (s:Hk) (H:Ei c s) (inn:Sl Int) (hi:inn.l.length=(Bg c).length) (hv:∀ v ∈ inn.l,V4 v) (hs0:∀ x ∈ mems c,0≤(nd c x).mem∧(nd c x).mem<c.mems.l.length∧0≤(nd c x).bit∧(nd c x).bit<(c.mems.l.getD (nd c x).mem.toNat Mm.d).data.l.length) (hnv:∀ v ∈ Bn c s inn.l,V4 v) (hlv:∀ v ∈ Wu c inn.l s.dff.l s.rd,V4 v) :
  Ab Tryz.prog Γ 25 [.agg (tC c),.agg (B7 s),tV inn] (.tup [.agg (B7 (Lo c s (Bn c s inn.l))),.agg [tVs (q1O c (Bn c s inn.l)),tVs (Df c (Bn c s inn.l))],.sl (Ap (Bn c s inn.l)) (some c.nodes.l.length) none,tI 0]):=by
 refine Aq q67 rfl ?_
 have e1:=q8s hΓ c h s H inn hi (fun v hv'=>(hv v hv').2)
 have e2:=qFB hΓ c h.ok hn
 have hm:=h.mf
 have hcm:=h.cm
 have hW:=H.words h
 have hzl:(List.replicate c.nodes.l.length (0:Int)).length=c.nodes.l.length:=by simp
 have hld:=qKP (Γ:=Γ) c h.ok s inn (some c.nodes.l.length) (List.replicate c.nodes.l.length 0) hzl h.n hi H.d (fun x hx=>by
  obtain ⟨a1,a2,a3,a4⟩:=hs0 x hx
  exact ⟨a1,by rw [H.r]; exact a2,a3,by rw [H.rl _ (by omega)]; exact a4⟩) rfl
 have hol:(Vu c).length=c.nodes.l.length:=by rw [(q1H c).1.length_eq,Ue]
 have g1:=fun Q h0=>qLD (Γ:=Γ) (Q:=Q) hΓ c (qML h.ok h.lev) h.n s (Vu c) (by omega) (fun n hn=>by rw [(q1H c).1.mem_iff,q9R] at hn; exact hn) (Bn c s inn.l) h0 (Vu c).length 0 (Wu c inn.l s.dff.l s.rd) (by omega) q4V hlv rfl
 have hnl:(Bn c s inn.l).length=c.nodes.l.length:=qHP
 have hll:(Wu c inn.l s.dff.l s.rd).length=c.nodes.l.length:=q4V
 have hobs:=qBH (Γ:=Γ) c h.ok ⟨Bn c s inn.l,some c.nodes.l.length,none⟩ (by show (Bn c s inn.l).length≤_; omega)
 have hcl:=qC4 (Γ:=Γ) ⟨Df c (Bn c s inn.l),some (Df c (Bn c s inn.l)).length,none⟩ (fun h=>nomatch h) (by have:=Di c; show (Df c _).length≤_; unfold Df; rw [List.length_map]; omega)
 have hcs:W0 ⟨Df c (Bn c s inn.l),some (Df c (Bn c s inn.l)).length,none⟩=⟨Df c (Bn c s inn.l),none,none⟩:=by unfold W0; rw [if_neg (fun h=>nomatch h)]
 rw [hcs] at hcl
 have g3:=fun Q o x d h0=>qLE (Γ:=Γ) (Q:=Q) c h.n s (Bn c s inn.l) hnl hnv hcm (fun m hm'=>⟨(hm m hm').1.2,(hm m hm').2.1.2,(hm m hm').2.2⟩) H.w hW o x d (Kt (Bn c s inn.l) c.mems.l s.words.l) (Il (Bn c s inn.l) c.mems.l s.words.l) h0 c.mems.l.length 0 [] [] (by omega) rfl rfl rfl rfl
 have htk:(Ap (Bn c s inn.l)).take c.nodes.l.length=Ap (Bn c s inn.l):=by rw [← hnl]; exact Cj
 have lR:(Kt (Bn c s inn.l) c.mems.l s.words.l).length=c.mems.l.length:=by unfold Kt; rw [List.length_zipWith,H.w,Nat.min_self]
 have lW:(Il (Bn c s inn.l) c.mems.l s.words.l).length=c.mems.l.length:=by unfold Il; rw [List.length_zipWith,H.w,Nat.min_self]
 have tR:(Ac tV (Kt (Bn c s inn.l) c.mems.l s.words.l)).take c.mems.l.length=Ac tV (Kt (Bn c s inn.l) c.mems.l s.words.l):=by rw [← lR]; exact Ag
 have tW':(Ac tW (Il (Bn c s inn.l) c.mems.l s.words.l)).take c.mems.l.length=Ac tW (Il (Bn c s inn.l) c.mems.l s.words.l):=by rw [← lW]; exact Ag
 have c1:=qAP (Γ:=Γ) (Ap (Df c (Bn c s inn.l))) none none A6
 have c2:=qGO (Γ:=Γ) (Ac tV (Kt (Bn c s inn.l) c.mems.l s.words.l)) none none A6
 have c3:=qIz (Γ:=Γ) (Ac tW (Il (Bn c s inn.l) c.mems.l s.words.l)) none none A6
 rw [A0] at c1 c2 c3
 rw [lR] at c2
 rw [lW] at c3
 have hz:List.replicate c.nodes.l.length [T.v (Value.int .u8 0)]=Ap (List.replicate c.nodes.l.length 0):=by simp [Ac]
 unfold Lo
 generalize Kt (Bn c s inn.l) c.mems.l s.words.l=NR at *
 generalize Il (Bn c s inn.l) c.mems.l s.words.l=NW at *
 generalize q1O c (Bn c s inn.l)=O at *
 generalize Df c (Bn c s inn.l)=X at *
 generalize Bn c s inn.l=N at *
 generalize Wu c inn.l s.dff.l s.rd=L at *
 have hlev:=h.lev
 simp [tC,A5,A8,Ad,B6,B7,tV,tW,Ig] at e1 e2 hobs hcl
 simp [hlev] at e2
 simp [Zk,A5,A8,Ad,B6,B7,tV,tW,Ig] at hld
 simp [cyE,cyH,Zk,Fg,tC,A5,A8,Ad,B6,B7,tV,tW,Ig] at g1
 simp [qFT,qFS,Nq,Fg,tC,A5,A8,Ad,B6,B7,tV,tW,Ig,Cd,lR,lW] at g3
 simp [q0J,tC,A5,A8,Ad,B6,B7,tV,tW,Ig]
 refine A9 e1 rfl ?_
 simp [Aa]
 refine ⟨by omega,?_⟩
 rw [hz]
 refine ⟨_,_,hld,?_⟩
 simp [A0,hll]
 refine A1 e2 rfl ?_
 simp [A0]
 refine g1 _ ?_
 simp [St.freeze,B9.closed,Bl,frz1,frz0,Du,del,Ai,htk]
 refine A9 hobs rfl ?_
 simp [tVs]
 refine A9 hcl rfl ?_
 simp
 refine A9 c1 rfl ?_
 simp [Aa]
 refine g3 _ _ _ _ ?_
 simp [St.freeze,B9.closed,Bl,frz1,frz0,Du,del,Ai,tR,tW']
 refine A9 c3 rfl ?_
 simp
 refine A9 c2 rfl ?_
 simp [q0K,Ai,Ah]
end Go.Lg
namespace Go.Lg
open Go
section
variable {P:Program} {Γ:Tables} {Q:AX→St→Prop} {s:St}
/- probecard/memories.alike (function 95) -/
abbrev q0S:IC:=(.seq (.reg [od 3 (.box true (tm 0)),od 4 (.box true (tm 1)),od 5 (.box true (tm 2)),od 6 (.mv kF)] [kp [3,4,5] []]) (.seq (.reg [od 9 (.mkf 166 [(tm 5)]),od 7 (.alloc false [.nilFunc]),on (.store 1 (tm 7) (tm 9))] [kp [3,
 4,7] [7]]) (.seq (.reg [od 10 (.mkf 168 [(tm 7)]),om 8 10] [kp [3,4,7,8] [7]]) (.seq (.reg [od 11 (ld 1 7),od 12 (fa 0 3),od 13 (ld 1 12),od 14 (fa 0 4),od 15 (ld 1 14),od 16 (.callv (tm 11) [(tm 13),(tm 15)]),om 17 16,
 oT 18 (.mv (tm 8)) 17,oT 19 (fa 2 3) 17,oT 20 (ld 1 19) 17,oT 21 (fa 2 4) 17,oT 22 (ld 1 21) 17,oT 23 (.callv (tm 18) [(tm 20),(tm 22)]) 17,od 24 (.pick (tm 17) (tm 23) kF),om 25 24,oT 26 (fa 1 3) 25,oT 27 (ld 1 26) 25,
 oT 28 (fa 1 4) 25,oT 29 (ld 1 28) 25,oT 30 (.mv (tm 8)) 25,oT 31 (.call 170 [(tm 27),(tm 29),(tm 30)]) 25,od 32 (.pick (tm 25) (tm 31) kF),om 6 32] [kp [6] []]) .ret))))
def q0T:List RV:=[.tmp 6]
/- probecard/memories.alike$1 (function 166) -/
abbrev Ww:IC:=(.seq (.reg [od 5 (.mv kF)] [kp [0,1,2] []]) (.seq (.reg [om 6 0,om 7 1,od 8 (ld 1 2),od 9 (.call 167 [(tm 6),(tm 7),(tm 8)]),om 5 9] [kp [5] []]) .ret))
def Wx:List RV:=[.tmp 5]
/- probecard/memories.alike$2 (function 168) -/
abbrev Wy:IC:=(.seq (.reg [od 5 (.mv kF)] [kp [0,1,2] []]) (.seq (.reg [om 6 0,om 7 1,od 8 (ld 1 2),od 9 (.call 169 [(tm 6),(tm 7),(tm 8)]),om 5 9] [kp [5] []]) .ret))
def Wz:List RV:=[.tmp 5]
/- probecard/memories.Below (function 30) -/
abbrev q0U:IC:=(.seq (.reg [od 2 (.box true (tm 0)),od 3 (.box true (tm 1)),od 4 (.mv kF)] [kp [2,3] []]) (.seq (.reg [od 5 (lG 3 2),od 6 (lG 3 3),od 7 (.call 95 [(tm 5),(tm 6),(.func 98)]),om 4 7] [kp [4] []]) .ret))
def q0V:List RV:=[.tmp 4]
/- probecard/memories.Same (function 27) -/
abbrev Im:IC:=.gh (.seq (.reg [od 18 (.bin .lss (tm 17) (tm 16))] [kp [1,2,15,16,17,18] []]) (.seq (.cond (tm 18) .skip (.exit 0)) (.seq (.block 1 (.seq (.reg [om 19 17,od 20 (ia 1 15 17),od 21 (ld 1 20),om 7 19,om 8 21] [kp [1,2,7,
 8,15,16,17] []]) (.seq (.reg [om 22 1,om 23 7,od 24 (ia 1 22 23),od 25 (ld 1 24),om 9 25] [kp [1,2,8,9,15,16,17] []]) (.seq (.reg [om 26 2,om 27 8,om 28 9,od 29 (.callv (tm 26) [(tm 27),(tm 28)]),od 30 (.un .not
 (tm 29))] [kp [1,2,15,16,17,30] []]) (.cond (tm 30) (.seq (.reg [od 6 (.mv kF)] [kp [6] []]) .ret) .skip))))) (.reg [od 31 (.bin .add (tm 17) (ki 1)),om 17 31] [kp [1,2,15,16,17] []])))) [kp [1,2,15,16,17] []]
def Dj:IC:=.loop Im
abbrev Ip:IC:=(.seq (.reg [od 6 (.mv kF)] [kp [0,1,2] []]) (.seq (.seq (.reg [om 10 0,od 11 (le 0 10),om 12 1,od 13 (le 0 12),od 14 (.bin .neq (tm 11) (tm 13))] [kp [0,1,2,14] []]) (.cond (tm 14) (.seq (.reg [od 6 (.mv kF)] [kp [6] []])
 .ret) .skip)) (.seq (.seq (.reg [om 15 0,od 16 (le 0 15),od 17 (.mv (ki 0))] [kp [1,2,15,16,17] []]) (.block 0 Dj)) (.seq (.reg [od 6 (.mv kT)] [kp [6] []]) .ret))))
theorem Gv (h:∀ K:St→Prop,K=run P Γ Dj Q→run P Γ Im (Am K Q) s):run P Γ Dj Q s:=Ae h
def Iq:List RV:=[.tmp 6]
/- slices.EqualFunc[[][]probecard/api.Value,[][]probecard/api.Value,[]probecard/api.Value,[]probecard/api.Value] (function 169) -/
abbrev Ia:IC:=.gh (.seq (.reg [od 18 (.bin .lss (tm 17) (tm 16))] [kp [1,2,15,16,17,18] []]) (.seq (.cond (tm 18) .skip (.exit 0)) (.seq (.block 1 (.seq (.reg [om 19 17,od 20 (ia 1 15 17),od 21 (ld 1 20),om 7 19,om 8 21] [kp [1,2,7,
 8,15,16,17] []]) (.seq (.reg [om 22 1,om 23 7,od 24 (ia 1 22 23),od 25 (ld 1 24),om 9 25] [kp [1,2,8,9,15,16,17] []]) (.seq (.reg [om 26 2,om 27 8,om 28 9,od 29 (.callv (tm 26) [(tm 27),(tm 28)]),od 30 (.un .not
 (tm 29))] [kp [1,2,15,16,17,30] []]) (.cond (tm 30) (.seq (.reg [od 6 (.mv kF)] [kp [6] []]) .ret) .skip))))) (.reg [od 31 (.bin .add (tm 17) (ki 1)),om 17 31] [kp [1,2,15,16,17] []])))) [kp [1,2,15,16,17] []]
def D9:IC:=.loop Ia
abbrev Ib:IC:=(.seq (.reg [od 6 (.mv kF)] [kp [0,1,2] []]) (.seq (.seq (.reg [om 10 0,od 11 (le 0 10),om 12 1,od 13 (le 0 12),od 14 (.bin .neq (tm 11) (tm 13))] [kp [0,1,2,14] []]) (.cond (tm 14) (.seq (.reg [od 6 (.mv kF)] [kp [6] []])
 .ret) .skip)) (.seq (.seq (.reg [om 15 0,od 16 (le 0 15),od 17 (.mv (ki 0))] [kp [1,2,15,16,17] []]) (.block 0 D9)) (.seq (.reg [od 6 (.mv kT)] [kp [6] []]) .ret))))
theorem Gm (h:∀ K:St→Prop,K=run P Γ D9 Q→run P Γ Ia (Am K Q) s):run P Γ D9 Q s:=Ae h
def Ic:List RV:=[.tmp 6]
/- slices.EqualFunc[[][][]probecard/api.Value,[][][]probecard/api.Value,[][]probecard/api.Value,[][]probecard/api.Value] (function 170) -/
abbrev Hl:IC:=.gh (.seq (.reg [od 18 (.bin .lss (tm 17) (tm 16))] [kp [1,2,15,16,17,18] []]) (.seq (.cond (tm 18) .skip (.exit 0)) (.seq (.block 1 (.seq (.reg [om 19 17,od 20 (ia 1 15 17),od 21 (ld 1 20),om 7 19,om 8 21] [kp [1,2,7,
 8,15,16,17] []]) (.seq (.reg [om 22 1,om 23 7,od 24 (ia 1 22 23),od 25 (ld 1 24),om 9 25] [kp [1,2,8,9,15,16,17] []]) (.seq (.reg [om 26 2,om 27 8,om 28 9,od 29 (.callv (tm 26) [(tm 27),(tm 28)]),od 30 (.un .not
 (tm 29))] [kp [1,2,15,16,17,30] []]) (.cond (tm 30) (.seq (.reg [od 6 (.mv kF)] [kp [6] []]) .ret) .skip))))) (.reg [od 31 (.bin .add (tm 17) (ki 1)),om 17 31] [kp [1,2,15,16,17] []])))) [kp [1,2,15,16,17] []]
def D2:IC:=.loop Hl
abbrev Hm:IC:=(.seq (.reg [od 6 (.mv kF)] [kp [0,1,2] []]) (.seq (.seq (.reg [om 10 0,od 11 (le 0 10),om 12 1,od 13 (le 0 12),od 14 (.bin .neq (tm 11) (tm 13))] [kp [0,1,2,14] []]) (.cond (tm 14) (.seq (.reg [od 6 (.mv kF)] [kp [6] []])
 .ret) .skip)) (.seq (.seq (.reg [om 15 0,od 16 (le 0 15),od 17 (.mv (ki 0))] [kp [1,2,15,16,17] []]) (.block 0 D2)) (.seq (.reg [od 6 (.mv kT)] [kp [6] []]) .ret))))
theorem G3 (h:∀ K:St→Prop,K=run P Γ D2 Q→run P Γ Hl (Am K Q) s):run P Γ D2 Q s:=Ae h
def Hn:List RV:=[.tmp 6]
end
end Go.Lg
namespace Go.Lg
open Go Go.Proofs
theorem q6D:Ao Tryz.prog 95 q0S 33 3 q0T=true:=by kernel_rfl
theorem q3x:Ao Tryz.prog 166 Ww 10 3 Wx=true:=by kernel_rfl
theorem q3y:Ao Tryz.prog 168 Wy 10 3 Wz=true:=by kernel_rfl
theorem q6E:Ao Tryz.prog 30 q0U 8 2 q0V=true:=by kernel_rfl
theorem U4:Ao Tryz.prog 167 Ip 32 3 Iq=true:=by kernel_rfl
theorem Rn:Ao Tryz.prog 169 Ib 32 3 Ic=true:=by kernel_rfl
theorem R7:Ao Tryz.prog 170 Hm 32 3 Hn=true:=by kernel_rfl
end Go.Lg
namespace Go.Lg
open Go Go.Proofs
variable {Γ:Tables}
theorem q2I {hp:List (Nat × B9)} {f:FuncId} {K:T→Prop} {cs:List T} {t u res:T} (h:Ab Tryz.prog Γ f (t::u::cs) res∨A3 Tryz.prog Γ f (t::u::cs) res) (hk:K res):q4v Tryz.prog Γ hp f (.t t::.t u::cs.map .t) K ⟨⟩:=by
 rcases h with h | h
 ·exact A9 h (by simp only [List.map_cons,List.map_map,Function.comp_def,Ah,toT]; rw [Pm]; rfl) hk
 ·exact A1 h (by simp only [List.map_cons,List.map_map,Function.comp_def,Ah,Ai]; rw [Pm]; rfl) hk
theorem qJ0 {Q:AX→St→Prop} (a b:List Int) (ac bc:Option Nat) (an bn:Option Bool) (hl:a.length≤1000000) (hab:a.length=b.length) (f:FuncId) (cs:List T)
  (hf:∀ i,i<a.length→Ab Tryz.prog Γ f (tK (a.getD i 0)::tK (b.getD i 0)::cs) (tB true)∨A3 Tryz.prog Γ f (tK (a.getD i 0)::tK (b.getD i 0)::cs) (tB true))
  (h0:Q (.exit 0) ⟨[(1,.t (.sl (Ac tK b) bc bn)),(2,.t (.fn f cs)),(15,.t (.sl (Ac tK a) ac an)),(16,.t (tI a.length)),(17,.t (tI a.length)),(18,.t (tB false))],[]⟩) :
  ∀ (k i:Nat),k+i=a.length→run Tryz.prog Γ Dj Q ⟨[(1,.t (.sl (Ac tK b) bc bn)),(2,.t (.fn f cs)),(15,.t (.sl (Ac tK a) ac an)),(16,.t (tI a.length)),(17,.t (tI i))],[]⟩
 | 0,i,h=>by
  refine Gv fun K hK=>?_
  have h2:i=a.length:=by omega
  subst h2
  simp
  simpa using h0
 | k+1,i,h=>by
  refine Gv fun K hK=>?_
  have h2:i<a.length:=by omega
  have h3:i<b.length:=by omega
  have ih:=qJ0 a b ac bc an bn hl hab f cs hf h0 k (i+1) (by omega)
  have hq:=hf i h2
  have e1:=gE (f:=tK) 0 h2
  have e1':=gE' (f:=tK) 0 h2
  have e2:=gE (f:=tK) 0 h3
  have e2':=gE' (f:=tK) 0 h3
  generalize a.getD i 0=x at *
  generalize b.getD i 0=y at *
  have w1:=B5 (i:=i) (by omega)
  simp [A0,A6,h2,h3,e1,e1',e2,e2']
  refine q2I hq ?_
  simp [w1]
  rw [hK]
  simpa using ih
theorem qJ1 (a b:List Int) (ac bc:Option Nat) (an bn:Option Bool) (hl:a.length≤1000000) (hab:a.length=b.length) (f:FuncId) (cs:List T)
  (hf:∀ i,i<a.length→Ab Tryz.prog Γ f (tK (a.getD i 0)::tK (b.getD i 0)::cs) (tB true)∨A3 Tryz.prog Γ f (tK (a.getD i 0)::tK (b.getD i 0)::cs) (tB true)) :
  A3 Tryz.prog Γ 167 [.sl (Ac tK a) ac an,.sl (Ac tK b) bc bn,.fn f cs] (tB true):=by
 refine A7 U4 rfl ?_
 have g:=fun Q h0=>qJ0 (Γ:=Γ) (Q:=Q) a b ac bc an bn hl hab f cs hf h0 a.length 0 (by omega)
 simp at g
 simp [Ip,A0,hab]
 rw [hab] at g
 refine g _ ?_
 simp [Iq]
theorem qJ2 {Q:AX→St→Prop} (a b:List (Sl Int)) (ac bc:Option Nat) (an bn:Option Bool) (hl:a.length≤1000000) (hab:a.length=b.length) (f:FuncId) (cs:List T)
  (hf:∀ i,i<a.length→Ab Tryz.prog Γ f (tV (a.getD i Sl.z)::tV (b.getD i Sl.z)::cs) (tB true)∨A3 Tryz.prog Γ f (tV (a.getD i Sl.z)::tV (b.getD i Sl.z)::cs) (tB true))
  (h0:Q (.exit 0) ⟨[(1,.t (.sl (Ac tV b) bc bn)),(2,.t (.fn f cs)),(15,.t (.sl (Ac tV a) ac an)),(16,.t (tI a.length)),(17,.t (tI a.length)),(18,.t (tB false))],[]⟩) :
  ∀ (k i:Nat),k+i=a.length→run Tryz.prog Γ D9 Q ⟨[(1,.t (.sl (Ac tV b) bc bn)),(2,.t (.fn f cs)),(15,.t (.sl (Ac tV a) ac an)),(16,.t (tI a.length)),(17,.t (tI i))],[]⟩
 | 0,i,h=>by
  refine Gm fun K hK=>?_
  have h2:i=a.length:=by omega
  subst h2
  simp
  simpa using h0
 | k+1,i,h=>by
  refine Gm fun K hK=>?_
  have h2:i<a.length:=by omega
  have h3:i<b.length:=by omega
  have ih:=qJ2 a b ac bc an bn hl hab f cs hf h0 k (i+1) (by omega)
  have hq:=hf i h2
  have e1:=gE (f:=tV) Sl.z h2
  have e1':=gE' (f:=tV) Sl.z h2
  have e2:=gE (f:=tV) Sl.z h3
  have e2':=gE' (f:=tV) Sl.z h3
  generalize a.getD i Sl.z=x at *
  generalize b.getD i Sl.z=y at *
  have w1:=B5 (i:=i) (by omega)
  simp [A0,A6,h2,h3,e1,e1',e2,e2']
  refine q2I hq ?_
  simp [w1]
  rw [hK]
  simpa using ih
theorem qJ3 (a b:List (Sl Int)) (ac bc:Option Nat) (an bn:Option Bool) (hl:a.length≤1000000) (hab:a.length=b.length) (f:FuncId) (cs:List T)
  (hf:∀ i,i<a.length→Ab Tryz.prog Γ f (tV (a.getD i Sl.z)::tV (b.getD i Sl.z)::cs) (tB true)∨A3 Tryz.prog Γ f (tV (a.getD i Sl.z)::tV (b.getD i Sl.z)::cs) (tB true)) :
  A3 Tryz.prog Γ 169 [.sl (Ac tV a) ac an,.sl (Ac tV b) bc bn,.fn f cs] (tB true):=by
 refine A7 Rn rfl ?_
 have g:=fun Q h0=>qJ2 (Γ:=Γ) (Q:=Q) a b ac bc an bn hl hab f cs hf h0 a.length 0 (by omega)
 simp at g
 simp [Ib,A0,hab]
 rw [hab] at g
 refine g _ ?_
 simp [Ic]
theorem qJ4 {Q:AX→St→Prop} (a b:List (Sl (Sl Int))) (ac bc:Option Nat) (an bn:Option Bool) (hl:a.length≤1000000) (hab:a.length=b.length) (f:FuncId) (cs:List T)
  (hf:∀ i,i<a.length→Ab Tryz.prog Γ f (tW (a.getD i Sl.zz)::tW (b.getD i Sl.zz)::cs) (tB true)∨A3 Tryz.prog Γ f (tW (a.getD i Sl.zz)::tW (b.getD i Sl.zz)::cs) (tB true))
  (h0:Q (.exit 0) ⟨[(1,.t (.sl (Ac tW b) bc bn)),(2,.t (.fn f cs)),(15,.t (.sl (Ac tW a) ac an)),(16,.t (tI a.length)),(17,.t (tI a.length)),(18,.t (tB false))],[]⟩) :
  ∀ (k i:Nat),k+i=a.length→run Tryz.prog Γ D2 Q ⟨[(1,.t (.sl (Ac tW b) bc bn)),(2,.t (.fn f cs)),(15,.t (.sl (Ac tW a) ac an)),(16,.t (tI a.length)),(17,.t (tI i))],[]⟩
 | 0,i,h=>by
  refine G3 fun K hK=>?_
  have h2:i=a.length:=by omega
  subst h2
  simp
  simpa using h0
 | k+1,i,h=>by
  refine G3 fun K hK=>?_
  have h2:i<a.length:=by omega
  have h3:i<b.length:=by omega
  have ih:=qJ4 a b ac bc an bn hl hab f cs hf h0 k (i+1) (by omega)
  have hq:=hf i h2
  have e1:=gE (f:=tW) Sl.zz h2
  have e1':=gE' (f:=tW) Sl.zz h2
  have e2:=gE (f:=tW) Sl.zz h3
  have e2':=gE' (f:=tW) Sl.zz h3
  generalize a.getD i Sl.zz=x at *
  generalize b.getD i Sl.zz=y at *
  have w1:=B5 (i:=i) (by omega)
  simp [A0,A6,h2,h3,e1,e1',e2,e2']
  refine q2I hq ?_
  simp [w1]
  rw [hK]
  simpa using ih
theorem qJ5 (a b:List (Sl (Sl Int))) (ac bc:Option Nat) (an bn:Option Bool) (hl:a.length≤1000000) (hab:a.length=b.length) (f:FuncId) (cs:List T)
  (hf:∀ i,i<a.length→Ab Tryz.prog Γ f (tW (a.getD i Sl.zz)::tW (b.getD i Sl.zz)::cs) (tB true)∨A3 Tryz.prog Γ f (tW (a.getD i Sl.zz)::tW (b.getD i Sl.zz)::cs) (tB true)) :
  A3 Tryz.prog Γ 170 [.sl (Ac tW a) ac an,.sl (Ac tW b) bc bn,.fn f cs] (tB true):=by
 refine A7 R7 rfl ?_
 have g:=fun Q h0=>qJ4 (Γ:=Γ) (Q:=Q) a b ac bc an bn hl hab f cs hf h0 a.length 0 (by omega)
 simp at g
 simp [Hm,A0,hab]
 rw [hab] at g
 refine g _ ?_
 simp [Hn]
def q3z (rel:Int→Int→Prop) (l m:List Int):Prop:=l.length=m.length∧∀ i,i<l.length→rel (l.getD i 0) (m.getD i 0)
structure q40 (rel:Int→Int→Prop) (a b:Hk):Prop where
 d:q3z rel a.dff.l b.dff.l
 rl:a.read.l.length=b.read.l.length
 r:∀ i,i<a.read.l.length→q3z rel (a.read.l.getD i Sl.z).l (b.read.l.getD i Sl.z).l
 wl:a.words.l.length=b.words.l.length
 w:∀ i,i<a.words.l.length→(a.words.l.getD i Sl.zz).l.length=(b.words.l.getD i Sl.zz).l.length∧∀ j,j<(a.words.l.getD i Sl.zz).l.length→q3z rel ((a.words.l.getD i Sl.zz).l.getD j Sl.z).l ((b.words.l.getD i Sl.zz).l.getD j Sl.z).l
structure qKQ (a:Hk):Prop where
 d:a.dff.l.length≤1000000
 r:a.read.l.length≤1000000∧∀ x ∈ a.read.l,x.l.length≤1000000
 w:a.words.l.length≤1000000∧∀ x ∈ a.words.l,x.l.length≤1000000∧∀ y ∈ x.l,y.l.length≤1000000
theorem q8t (a b:Sl Int) (hl:a.l.length≤1000000) (f:FuncId) (rel:Int→Int→Prop) (hf:∀ x y,rel x y→A3 Tryz.prog Γ f [tK x,tK y] (tB true)) (h:q3z rel a.l b.l) :
  A3 Tryz.prog Γ 166 [tV a,tV b,.ip [.fn f []] 0] (tB true):=by
 refine A7 q3x rfl ?_
 have e:=qJ1 (Γ:=Γ) a.l b.l a.cap b.cap a.nl b.nl hl h.1 f [] (fun i hi=>.inr (hf _ _ (h.2 i hi)))
 simp [Ww,tV]
 refine A1 e rfl ?_
 simp [Wx]
theorem q8u (a b:Sl (Sl Int)) (hl:a.l.length≤1000000) (hl2:∀ x ∈ a.l,x.l.length≤1000000) (f:FuncId) (rel:Int→Int→Prop) (hf:∀ x y,rel x y→A3 Tryz.prog Γ f [tK x,tK y] (tB true)) (hab:a.l.length=b.l.length)
  (h:∀ i,i<a.l.length→q3z rel (a.l.getD i Sl.z).l (b.l.getD i Sl.z).l) :
  A3 Tryz.prog Γ 168 [tW a,tW b,.ip [.fn 166 [.ip [.fn f []] 0]] 0] (tB true):=by
 refine A7 q3y rfl ?_
 have e:=qJ3 (Γ:=Γ) a.l b.l a.cap b.cap a.nl b.nl hl hab 166 [.ip [.fn f []] 0] (fun i hi=>.inr (q8t _ _ (hl2 _ (U3 hi)) f rel hf (h i hi)))
 simp [Wy,tW]
 refine A1 e rfl ?_
 simp [Wz]
theorem qFV (a b:Hk) (hs:qKQ a) (f:FuncId) (rel:Int→Int→Prop) (hf:∀ x y,rel x y→A3 Tryz.prog Γ f [tK x,tK y] (tB true)) (h:q40 rel a b) :
  Ab Tryz.prog Γ 95 [.agg (B7 a),.agg (B7 b),.fn f []] (tB true):=by
 refine Aq q6D rfl ?_
 have e1:=q8t (Γ:=Γ) a.dff b.dff hs.d f rel hf h.d
 have e2:=q8u (Γ:=Γ) a.read b.read hs.r.1 hs.r.2 f rel hf h.rl h.r
 have e3:=qJ5 (Γ:=Γ) a.words.l b.words.l a.words.cap b.words.cap a.words.nl b.words.nl hs.w.1 h.wl 168 [.ip [.fn 166 [.ip [.fn f []] 0]] 0]
  (fun i hi=>.inr (q8u _ _ (hs.w.2 _ (U3 hi)).1 (fun x hx=>(hs.w.2 _ (U3 hi)).2 x hx) f rel hf (h.w i hi).1 (h.w i hi).2))
 simp [tV,tW] at e1 e2
 simp [q0S,B7,tV,tW,Ig]
 refine A1 e1 (by simp [Ai,Ah]) ?_
 simp
 refine A1 e2 (by simp [Ai,Ah]) ?_
 simp
 refine A1 e3 (by simp [Ai,Ah]) ?_
 simp [q0T]
theorem qE8 (a b:Hk) (hs:qKQ a) (h:q40 Og a b):Ab Tryz.prog Γ 30 [.agg (B7 a),.agg (B7 b)] (tB true):=by
 refine Aq q6E rfl ?_
 have e:=qFV (Γ:=Γ) a b hs 98 Og (fun x y h=>by
  have:=qFD (Γ:=Γ) x y
  rwa [Og.below h] at this) h
 simp [B7,tV,tW,Ig] at e
 simp [q0U,B7,tV,tW,Ig]
 refine A9 e rfl ?_
 simp [q0V]
end Go.Lg
namespace Go.Lg
open Go
section
variable {P:Program} {Γ:Tables} {Q:AX→St→Prop} {s:St}
/- probecard/probecardlaw09.taken (function 141) -/
abbrev q41:IC:=.gh (.seq (.seq (.reg [om 9 8,om 10 2,od 11 (.bin .lss (tm 9) (tm 10))] [kp [0,1,2,7,8,11] [19]]) (.cond (tm 11) .skip (.exit 0))) (.seq (.block 1 (.seq (.reg [om 14 0,od 15 (le 0 14),od 16 (.bin .eql (tm 15) (ki 0))] [kp
 [0,1,2,7,8,16] [19]]) (.cond (tm 16) (.reg [om 17 7,od 18 (.bsl true 71 1 [(ku 2)]),od 19 (.app false 71 1 (tm 17) (tm 18)),om 7 19] [kp [0,1,2,7,8] [19]]) (.reg [om 20 7,om 21 0,om 22 1,om 23 8,od 24 (.bin .add (tm
 22) (tm 23)),om 25 0,od 26 (le 0 25),od 27 (.bin .rem (tm 24) (tm 26)),od 28 (ia 1 21 27),od 29 (ld 1 28),od 30 (.bin .rem (tm 29) (ku 3)),od 31 (.bsl true 71 1 [(tm 30)]),oz 32 (.app false 71 1 (tm 20) (tm 31)) 19,om 7
 32] [kp [0,1,2,7,8] [19]])))) (.reg [om 12 8,od 13 (.bin .add (tm 12) (ki 1)),om 8 13] [kp [0,1,2,7,8] [19]]))) [kp [0,1,2,7,8] [19]]
def R9:IC:=.loop q41
abbrev q42:IC:=(.seq (.reg [od 6 (.mv kN)] [kp [0,1,2] []]) (.seq (.reg [od 7 (.mv kN)] [.nl 7 19 71 1,kp [0,1,2,7] [19]]) (.seq (.seq (.reg [od 8 (.mv (ki 0))] [kp [0,1,2,7,8] [19]]) (.block 0 R9)) (.seq (.reg [om 33 7,om
 6 33] [kp [6] [19]]) .ret))))
theorem Z4 (h:∀ K:St→Prop,K=run P Γ R9 Q→run P Γ q41 (Am K Q) s):run P Γ R9 Q s:=Ae h
def q43:List RV:=[.tmp 6]
/- (probecard/probecardlaw09.S).Of (function 79) -/
abbrev q5L:IC:=.gh (.seq (.seq (.reg [om 33 10,od 34 (fa 2 3),od 35 (ld 1 34),om 36 7,od 37 (ia 3 35 36),od 38 (fa 0 37),od 39 (ld 1 38),od 40 (le 0 39),od 41 (.mmx false [(tm 40),(ki 8)]),od 42 (.bin .shl (ki 1) (tm 41)),od 43 (.bin
 .lss (tm 33) (tm 42))] [kp [2,3,4,5,6,7,8,9,10,43] [4,5,53,61,71]]) (.cond (tm 43) .skip (.exit 2))) (.seq (.block 3 (.seq (.reg [om 46 9,od 47 (fa 0 2),od 48 (ld 1 47),om 49 6,om 50 8,od 51 (.call 141 [(tm 48),
 (tm 49),(tm 50)]),od 52 (.bsl true 55 1 [(tm 51)]),od 53 (.app false 55 1 (tm 46) (tm 52)),om 9 53] [kp [2,3,4,5,6,7,8,9,10] [4,5,53,61,71]]) (.reg [om 54 6,om 55 8,od 56 (.bin .add (tm 54) (tm 55)),om 6 56] [kp
 [2,3,4,5,6,7,8,9,10] [4,5,53,61,71]]))) (.reg [om 44 10,od 45 (.bin .add (tm 44) (ki 1)),om 10 45] [kp [2,3,4,5,6,7,8,9,10] [4,5,53,61,71]]))) [kp [2,3,4,5,6,7,8,9,10] [4,5,53,61,71]]
def Ug:IC:=.loop q5L
abbrev q5M:IC:=.gh (.seq (.seq (.reg [om 19 7,od 20 (fa 2 3),od 21 (ld 1 20),od 22 (le 0 21),od 23 (.bin .lss (tm 19) (tm 22))] [kp [2,3,4,5,6,7,23] [4,5,61,71]]) (.cond (tm 23) .skip (.exit 0))) (.seq (.block 1 (.seq (.reg [od 26
 (fa 2 3),od 27 (ld 1 26),om 28 7,od 29 (ia 3 27 28),od 30 (fa 1 29),od 31 (ld 1 30),od 32 (le 0 31),om 8 32] [kp [2,3,4,5,6,7,8] [4,5,61,71]]) (.seq (.reg [od 9 (.mv kN)] [.nl 9 53 55 1,kp [2,3,4,5,6,7,8,9]
 [4,5,53,61,71]]) (.seq (.seq (.reg [od 10 (.mv (ki 0))] [kp [2,3,4,5,6,7,8,9,10] [4,5,53,61,71]]) (.gh (.block 2 Ug) [.frz 53])) (.seq (.reg [od 57 (fa 1 5),od 58 (ld 1 57),om 59 9,od 60 (.bsl true 57
 1 [(tm 59)]),od 61 (.app false 57 1 (tm 58) (tm 60)),od 62 (fa 1 5),on (.store 1 (tm 62) (tm 61))] [kp [2,3,4,5,6,7,8] [4,5,61,71]]) (.seq (.reg [od 63 (fa 2 5),od 64 (.ldR 5 1 false (tm 63)),od 65 (fa 0 2),od 66
 (.ldT 1 false (tm 65)),om 67 6,om 68 8,od 69 (.call 141 [(tm 66),(tm 67),(tm 68)]),od 70 (.bsl true 55 1 [(tm 69)]),od 71 (.app false 55 1 (tm 64) (tm 70)),od 72 (fa 2 5),on (.stR 5 1 (tm 72) (tm 71))] [kp [2,3,4,5,6,
 7,8] [4,5,61,71]]) (.reg [om 73 6,om 74 8,od 75 (.bin .add (tm 73) (tm 74)),om 6 75] [kp [2,3,4,5,6,7] [4,5,61,71]]))))))) (.reg [om 24 7,od 25 (.bin .add (tm 24) (ki 1)),om 7 25] [kp [2,3,4,5,6,7] [4,5,61,
 71]]))) [kp [2,3,4,5,6,7] [4,5,61,71]]
def Uh:IC:=.loop q5M
abbrev q5N:IC:=(.seq (.reg [od 2 (.box true (tm 0)),od 3 (.box true (tm 1)),od 4 (.alloc false [(.slice none 0 0),(.slice none 0 0),(.slice none 0 0)])] [kp [2,3,4] [4,61,71]]) (.seq (.reg [od 5 (.alloc false [(.slice none 0 0),(.slice
 none 0 0),(.slice none 0 0)])] [.nlb 5 1 61 57 1,.nlb 5 2 71 55 1,kp [2,3,4,5] [4,5,61,71]]) (.seq (.reg [od 11 (lG 4 3),od 12 (.call 62 [(tm 11),(ku 14)]),od 13 (le 0 12),om 6 13] [kp [2,3,4,5,6] [4,5,61,71]])
 (.seq (.reg [od 14 (fa 0 2),od 15 (ld 1 14),om 16 6,od 17 (.call 141 [(tm 15),(ki 0),(tm 16)]),od 18 (fa 0 5),on (.store 1 (tm 18) (tm 17))] [kp [2,3,4,5,6] [4,5,61,71]]) (.seq (.seq (.reg [od 7 (.mv (ki 0))] [kp [2,
 3,4,5,6,7] [4,5,61,71]]) (.gh (.block 0 Uh) [.frz 61,.frz 71])) (.seq (.reg [od 76 (lG 3 5),on (.store 3 (tm 4) (tm 76))] [kp [4] [4,61,71]]) .ret))))))
theorem q0W (h:∀ K:St→Prop,K=run P Γ Ug Q→run P Γ q5L (Am K Q) s):run P Γ Ug Q s:=Ae h
theorem q0X (h:∀ K:St→Prop,K=run P Γ Uh Q→run P Γ q5M (Am K Q) s):run P Γ Uh Q s:=Ae h
def q5O:List RV:=[.cell 4 3 true]
/- (probecard/probecardlaw09.Two).Step (function 64) -/
end
end Go.Lg
namespace Go.Lg
open Go Go.Proofs
theorem q9E:Ao Tryz.prog 141 q42 34 3 q43=true:=by kernel_rfl
theorem qAi:Ao Tryz.prog 79 q5N 77 2 q5O=true:=by kernel_rfl
end Go.Lg
namespace Go.Lg
open Go Go.Proofs
variable {Γ:Tables}
def qBI (l:List Int) (at' i:Nat):Int:=if l=[] then 2 else (l.getD ((at'+i) % l.length) 0).tmod 3
def Vd (l:List Int) (at' n:Nat):List Int:=(List.range' 0 n).map (qBI l at')
theorem q7H {l:List Int} {a n:Nat}:(Vd l a n).length=n:=by simp [Vd]
theorem qJ6 {Q:AX→St→Prop} (l:Sl Int) (at' n:Nat) (hn:n≤1000000) (ha:at'≤1000000000) (R:List Int)
  (h0:Q (.exit 0) ⟨[(0,.t (tV l)),(1,.t (tI at')),(2,.t (tI n)),(7,.ls 19 0 n none),(8,.t (tI n)),(11,.t (tB false))],[(19,.sl 71 1 (Ap R))]⟩):∀ (k i:Nat) (out:List Int),k+i=n→out.length=i→out++(List.range' i k).map (qBI l.l at')=R →
  run Tryz.prog Γ R9 Q ⟨[(0,.t (tV l)),(1,.t (tI at')),(2,.t (tI n)),(7,.ls 19 0 i none),(8,.t (tI i))],[(19,.sl 71 1 (Ap out))]⟩
 | 0,i,out,h,hi,hR=>by
  refine Z4 fun K hK=>?_
  have h2:i=n:=by omega
  subst h2
  simp only [List.range'_zero,List.map_nil,List.append_nil] at hR
  subst hR
  simp
  exact h0
 | k+1,i,out,h,hi,hR=>by
  refine Z4 fun K hK=>?_
  have h2:i<n:=by omega
  rw [List.range'_succ,List.map_cons] at hR
  have vt:(Ap out).take i=Ap out:=by rw [← hi]; exact Cj
  have w1:=B5 (i:=i) (by omega)
  have wa:IntKind.i64.wrap ((at':Int)+i)=((at'+i:Nat):Int):=by rw [A4] <;> omega
  have ih:=qJ6 l at' n hn ha R h0 k (i+1) (out++[qBI l.l at' i]) (by omega) (by simp [hi]) (by rw [← hR]; simp)
  have vs:=Pz (l:=out) (v:=qBI l.l at' i)
  by_cases h1:l.l=[]
  ·have hv:qBI l.l at' i=2:=by unfold qBI; rw [if_pos h1]
   rw [hv] at ih vs
   simp [tV,h1] at ih
   simp [h2,tV,A0,h1,w1,vt,vs,hi]
   refine ⟨by omega,?_⟩
   rw [hK]
   simpa using ih
  ·have hpos:0<l.l.length:=List.length_pos_iff.2 h1
   have hlt:(at'+i) % l.l.length<l.l.length:=Nat.mod_lt _ hpos
   have hmod:((at'+i:Nat):Int).tmod (l.l.length:Int)=(((at'+i) % l.l.length:Nat):Int):=by rw [Int.natCast_emod]; exact Int.tmod_eq_emod_of_nonneg (by omega)
   have hv:qBI l.l at' i=(l.l.getD ((at'+i) % l.l.length) 0).tmod 3:=by unfold qBI; rw [if_neg h1]
   rw [hv] at ih vs
   have e1:=gE (f:=tK) 0 hlt
   have e1':=gE' (f:=tK) 0 hlt
   generalize (at'+i) % l.l.length=j at *
   generalize l.l.getD j 0=v at *
   have hne:¬ (l.l.length:Int)=0:=by omega
   have hj0:(j:Int)<l.l.length:=by omega
   simp [tV] at ih
   simp [h2,tV,A0,A6,h1,hne,wa,hmod,hlt,e1,e1',vt,vs,hi,w1,-Int.natCast_emod,-Int.natCast_add]
   refine ⟨by omega,?_⟩
   rw [hK]
   simpa using ih
theorem q44 (l:Sl Int) (at' n:Nat) (hn:n≤1000000) (ha:at'≤1000000000):A3 Tryz.prog Γ 141 [tV l,tI at',tI n] (.sl (Ap (Vd l.l at' n)) none none):=by
 refine A7 q9E rfl ?_
 have g:=fun Q h0=>qJ6 (Γ:=Γ) (Q:=Q) l at' n hn ha (Vd l.l at' n) h0 n 0 [] (by omega) rfl (by simp [Vd])
 have ht:(Ap (Vd l.l at' n)).take n=Ap (Vd l.l at' n):=List.take_of_length_le (by rw [A0,q7H]; exact Nat.le_refl _)
 generalize Vd l.l at' n=R at *
 simp [tV,Cd] at g
 simp [q42,tV]
 refine g _ ?_
 simp [q43,Ai,ht]
def Rb (v:List Int) (n:Nat):Nat→Nat→List (Sl Int)
 | 0,_=>[]
 | k+1,a=>⟨Vd v a n,none,none⟩::Rb v n k (a+n)
def ofW (v:List Int):List Mm→Nat→List (Sl (Sl Int))
 | [],_=>[]
 | m::ms,a=>⟨Rb v m.data.l.length (2 ^ m.addr.l.length) a,none,none⟩::ofW v ms (a+2 ^ m.addr.l.length*m.data.l.length+m.data.l.length)
def ofR (v:List Int):List Mm→Nat→List (Sl Int)
 | [],_=>[]
 | m::ms,a=>⟨Vd v (a+2 ^ m.addr.l.length*m.data.l.length) m.data.l.length,none,none⟩::ofR v ms (a+2 ^ m.addr.l.length*m.data.l.length+m.data.l.length)
def q4p (v:List Int) (c:B0):Hk:=⟨⟨Vd v 0 (Af c).length,none,none⟩,⟨ofW v c.mems.l (Af c).length,none,none⟩,⟨ofR v c.mems.l (Af c).length,none,none⟩⟩
def soH (d:T) (ws:List (Sl (Sl Int))) (rs:List (Sl Int)):List (Nat × B9):=[(4,.bx [Fg,Fg,Fg]),(5,.bx [.t d,.ls 61 0 ws.length none,.ls 71 0 rs.length none])]
def soT (ws:List (Sl (Sl Int))) (rs:List (Sl Int)):List (Nat × B9):=[(61,.sl 57 1 (Ac tW ws)),(71,.sl 55 1 (Ac tV rs))]
def soE (v:Sl Int) (c:B0) (a m:Nat):List (Nat × AV):=[(2,.t (.ip [tV v] 0)),(3,.t (.ip (tC c) 0)),(4,.lp 4 0 0),(5,.lp 5 0 0),(6,.t (tI a)),(7,.t (tI m))]
theorem qOI {Q:AX→St→Prop} (v:Sl Int) (c:B0) (m:Nat) (hm:m<c.mems.l.length) (n K:Nat) (hn:n≤32) (hk:(c.mems.l.getD m Mm.d).addr.l.length≤8) (hK:K=2 ^ (c.mems.l.getD m Mm.d).addr.l.length) (hcm:c.mems.l.length≤16) (d:T) (ws:List (Sl (Sl Int))) (rs:List (Sl Int)) (A:Nat) (R:List (Sl Int))
  (h0:Q (.exit 2) ⟨soE v c A m++[(8,.t (tI n)),(9,.ls 53 0 R.length none),(10,.t (tI K)),(43,.t (tB false))],soH d ws rs++(53,.sl 55 1 (Ac tV R))::soT ws rs⟩) :
  ∀ (k i a:Nat) (out:List (Sl Int)),k+i=K→out.length=i→a≤2000000+32*i→a+k*n=A→out++Rb v.l n k a=R →
  run Tryz.prog Γ Ug Q ⟨soE v c a m++[(8,.t (tI n)),(9,.ls 53 0 i none),(10,.t (tI i))],soH d ws rs++(53,.sl 55 1 (Ac tV out))::soT ws rs⟩:=by
 have e1:(Ar tMm c.mems.l)[m]?.getD []=tMm (c.mems.l.getD m Mm.d):=by simp [Ar,hm]
 have e1':∀ h,(Ar tMm c.mems.l)[m]'h=tMm (c.mems.l.getD m Mm.d):=fun h=>by simp [Ar,hm]
 generalize c.mems.l.getD m Mm.d=mm at *
 have sh:=qMP hk
 rw [← hK] at sh
 have hK256:K≤256:=by rw [hK]; exact Nat.pow_le_pow_right (by omega) hk
 have hmin:¬ (8:Int)<mm.addr.l.length:=by omega
 have hmin':¬ 8<mm.addr.l.length:=by omega
 simp only [tMm,B6] at e1 e1'
 intro k
 induction k with
 | zero =>
  intro i a out h ho hb ha hR
  refine q0W fun KK hKK=>?_
  have h2:i=K:=by omega
  subst h2
  simp only [Rb,List.append_nil] at hR
  subst hR
  have ha':a=A:=by omega
  subst ha'
  simp [soE,soH,soT,Fg,tC,A5,A8,Ad,B6,ho] at h0
  simp [soE,soH,soT,Fg,tC,A5,A8,Ad,B6,Qi,Aa,A0,hm,e1,e1',hmin,hmin',sh]
  simpa using h0
 | succ k ih =>
  intro i a out h ho hb ha hR
  refine q0W fun KK hKK=>?_
  have h2:i<K:=by omega
  simp only [Rb] at hR
  have ht:=q44 (Γ:=Γ) v a n (by omega) (by omega)
  have ih:=ih (i+1) (a+n) (out++[⟨Vd v.l a n,none,none⟩]) (by omega) (by simp [ho]) (by omega) (by rw [← ha,Nat.succ_mul]; omega) (by rw [← hR]; simp)
  have vs:Ac tV out++[[T.sl (Ap (Vd v.l a n)) none none]]=Ac tV (out++[⟨Vd v.l a n,none,none⟩]):=Be (f:=tV) (x:=⟨Vd v.l a n,none,none⟩)
  have vt:(Ac tV out).take i=Ac tV out:=by rw [← ho]; exact Ag
  have w1:=B5 (i:=i) (by omega)
  have wa:IntKind.i64.wrap ((a:Int)+n)=(a:Int)+n:=by rw [A4] <;> omega
  generalize Vd v.l a n=row at *
  simp only [tV] at ht
  simp [soE,soH,soT,Fg,tC,A5,A8,Ad,B6,tV] at ih
  simp [soE,soH,soT,Fg,tC,A5,A8,Ad,B6,Qi,Aa,A0,hm,e1,e1',hmin,hmin',sh,h2,tV]
  refine A1 ht rfl ?_
  simp [vt,vs,ho,A0,A6,w1,wa]
  refine ⟨by omega,?_⟩
  rw [hKK]
  simpa using ih
theorem q8D {v:List Int} {n:Nat}:∀ {k a:Nat},(Rb v n k a).length=k
 | 0,_=>rfl
 | k+1,a=>by simp [Rb,q8D]
theorem qLF {Q:AX→St→Prop} (v:Sl Int) (c:B0) (hcm:c.mems.l.length≤16) (hm:∀ m ∈ c.mems.l,m.addr.l.length≤8∧m.data.l.length≤32) (d:T) (RW:List (Sl (Sl Int))) (RR:List (Sl Int))
  (h0:∀ A:Nat,Q (.exit 0) ⟨soE v c A c.mems.l.length++[(23,.t (tB false))],soH d RW RR++soT RW RR⟩) :
  ∀ (k i a:Nat) (ws:List (Sl (Sl Int))) (rs:List (Sl Int)),k+i=c.mems.l.length→ws.length=i→rs.length=i→a≤1000000+10000*i→ws++ofW v.l (c.mems.l.drop i) a=RW→rs++ofR v.l (c.mems.l.drop i) a=RR →
  run Tryz.prog Γ Uh Q ⟨soE v c a i,soH d ws rs++soT ws rs⟩
 | 0,i,a,ws,rs,h,hw,hr,ha,hW,hR=>by
  refine q0X fun K hK=>?_
  have h2:i=c.mems.l.length:=by omega
  subst h2
  rw [List.drop_length] at hW hR
  simp only [ofW,ofR,List.append_nil] at hW hR
  subst hW
  subst hR
  have:=h0 a
  simp [soE,soH,soT,Fg,tC,A5,A8,Ad,B6] at this
  simp [soE,soH,soT,Fg,tC,A5,A8,Ad,B6,Aa]
  simpa using this
 | k+1,i,a,ws,rs,h,hw,hr,ha,hW,hR=>by
  refine q0X fun K hK=>?_
  have h2:i<c.mems.l.length:=by omega
  rw [List.drop_eq_getElem_cons h2] at hW hR
  simp only [ofW,ofR] at hW hR
  have e1:(Ar tMm c.mems.l)[i]?.getD []=tMm c.mems.l[i]:=by simp [Ar,h2]
  have e1':∀ h,(Ar tMm c.mems.l)[i]'h=tMm c.mems.l[i]:=fun h=>by simp [Ar]
  obtain ⟨ma,md⟩:=hm _ (List.getElem_mem h2)
  have hge:c.mems.l.getD i Mm.d=c.mems.l[i]:=by simp [List.getD_eq_getElem?_getD,h2]
  have g:=fun Q n hn h1 h2' A R hA hR h0=>qOI (Γ:=Γ) (Q:=Q) v c i h2 n (2 ^ (c.mems.l.getD i Mm.d).addr.l.length) hn h1 rfl hcm d ws rs A R h0 (2 ^ (c.mems.l.getD i Mm.d).addr.l.length) 0 a [] (by omega) rfl h2' hA hR
  rw [hge] at g
  generalize c.mems.l[i]=m at *
  have hK256:2 ^ m.addr.l.length≤256:=Nat.pow_le_pow_right (by omega) ma
  have hKn:2 ^ m.addr.l.length*m.data.l.length≤256*32:=Nat.mul_le_mul hK256 md
  have g:=fun Q h0=>g Q m.data.l.length md ma (by omega) (a+2 ^ m.addr.l.length*m.data.l.length) (Rb v.l m.data.l.length (2 ^ m.addr.l.length) a) rfl (by simp) h0
  have hrl:(Rb v.l m.data.l.length (2 ^ m.addr.l.length) a).length=2 ^ m.addr.l.length:=q8D
  generalize 2 ^ m.addr.l.length*m.data.l.length=KN at *
  generalize 2 ^ m.addr.l.length=K0 at *
  have ht:=q44 (Γ:=Γ) v (a+KN) m.data.l.length (by omega) (by omega)
  have ih:=qLF v c hcm hm d RW RR h0 k (i+1) (a+KN+m.data.l.length) (ws++[⟨Rb v.l m.data.l.length K0 a,none,none⟩]) (rs++[⟨Vd v.l (a+KN) m.data.l.length,none,none⟩]) (by omega) (by simp [hw]) (by simp [hr]) (by omega) (by rw [← hW]; simp) (by rw [← hR]; simp)
  have vsw:Ac tW ws++[[T.sl (Ac tV (Rb v.l m.data.l.length K0 a)) none none]]=Ac tW (ws++[⟨Rb v.l m.data.l.length K0 a,none,none⟩]):=Be (f:=tW) (x:=⟨Rb v.l m.data.l.length K0 a,none,none⟩)
  have vsr:Ac tV rs++[[T.sl (Ap (Vd v.l (a+KN) m.data.l.length)) none none]]=Ac tV (rs++[⟨Vd v.l (a+KN) m.data.l.length,none,none⟩]):=Be (f:=tV) (x:=⟨Vd v.l (a+KN) m.data.l.length,none,none⟩)
  have vt:(Ac tV (Rb v.l m.data.l.length K0 a)).take (Rb v.l m.data.l.length K0 a).length=Ac tV (Rb v.l m.data.l.length K0 a):=Ag
  have vtw:(Ac tW ws).take i=Ac tW ws:=by rw [← hw]; exact Ag
  have vtr:(Ac tV rs).take i=Ac tV rs:=by rw [← hr]; exact Ag
  generalize Rb v.l m.data.l.length K0 a=rows at *
  generalize Vd v.l (a+KN) m.data.l.length=rd at *
  have w1:=B5 (i:=i) (by omega)
  have wa:IntKind.i64.wrap ((a:Int)+KN+m.data.l.length)=(a:Int)+KN+m.data.l.length:=by rw [A4] <;> omega
  have hw1:∀ t:T,Cm 1 [[t]]:=fun t e he=>by simp at he; subst he; rfl
  simp only [tMm,B6] at e1 e1'
  simp only [tV] at ht
  simp [soE,soH,soT,Fg,tC,A5,A8,Ad,B6,tV,Cd,hw,hr] at g ih
  simp [soE,soH,soT,Fg,tC,A5,A8,Ad,B6,Qi,Aa,A0,h2,e1,e1',tV,hw,hr]
  refine g _ ?_
  simp [St.freeze,B9.closed,Bl,frz1,frz0,Du,del,Ai,vt,vtw,vsw,hw1,A6,A0,hw]
  refine ⟨by omega,?_⟩
  refine A1 ht rfl ?_
  simp [vtr,vsr,hw1,A6,A0,hr,wa,w1]
  refine ⟨by omega,?_⟩
  rw [hK]
  simpa using ih
theorem qHU (v:Sl Int) (c:B0) (hc:COk c) (hn:c.nodes.l.length≤1000000) (hcm:c.mems.l.length≤16) (hm:∀ m ∈ c.mems.l,m.addr.l.length≤8∧m.data.l.length≤32):Ab Tryz.prog Γ 79 [.agg [tV v],.agg (tC c)] (.agg (B7 (q4p v.l c))):=by
 refine Aq qAi rfl ?_
 have e1:=qFP (Γ:=Γ) c hc 14 hn
 have hsl:=Di c
 have e2:=q44 (Γ:=Γ) v 0 (Af c).length (by omega) (by omega)
 have g:=fun Q d h0=>qLF (Γ:=Γ) (Q:=Q) v c hcm hm d (ofW v.l c.mems.l (Af c).length) (ofR v.l c.mems.l (Af c).length) h0 c.mems.l.length 0 (Af c).length [] [] (by omega) rfl rfl (by omega) rfl rfl
 have hst:Ky [14] c.nodes.l 0=Af c:=rfl
 rw [hst] at e1
 have tw:(Ac tW (ofW v.l c.mems.l (Af c).length)).take (ofW v.l c.mems.l (Af c).length).length=Ac tW (ofW v.l c.mems.l (Af c).length):=Ag
 have tr:(Ac tV (ofR v.l c.mems.l (Af c).length)).take (ofR v.l c.mems.l (Af c).length).length=Ac tV (ofR v.l c.mems.l (Af c).length):=Ag
 unfold q4p
 generalize ofW v.l c.mems.l (Af c).length=W at *
 generalize ofR v.l c.mems.l (Af c).length=R at *
 generalize Vd v.l 0 (Af c).length=D at *
 simp [soE,soH,soT,Fg,tC,A5,A8,Ad,B6,tV,Cd] at e1 e2 g
 simp [q5N,tC,A5,A8,Ad,B6,tV]
 refine A9 e1 rfl ?_
 simp [A0]
 refine A1 e2 rfl ?_
 simp
 refine g _ _ fun A=>?_
 simp [St.freeze,B9.closed,Bl,frz1,frz0,Du,del,Ai,tw,tr,q5O,B7,tV,tW,Ig]
end Go.Lg
namespace Go.Lg
open Go Go.Proofs
def V3 (v:Int):Prop:=0≤v∧v≤2
theorem V3.four {v:Int} (h:V3 v):V4 v:=by unfold V3 V4 at *; omega
theorem qJ7 {l:List Int} (h:∀ v ∈ l,V3 v) (i:Nat):V3 (l.getD i 0):=by
 by_cases hi:i<l.length
 ·rw [Bv hi]; exact h _ (List.getElem_mem hi)
 ·rw [List.getD_eq_getElem?_getD,List.getElem?_eq_none (by omega)]; exact ⟨by simp,by simp⟩
theorem qMQ {l:List Int} (hl:∀ v ∈ l,0≤v) (a i:Nat):V3 (qBI l a i):=by
 unfold qBI
 split
 ·exact ⟨by omega,by omega⟩
 ·rename_i h
  have hpos:0<l.length:=List.length_pos_iff.2 h
  have h0:0≤l.getD ((a+i) % l.length) 0:=by
   rw [Bv (Nat.mod_lt _ hpos)]; exact hl _ (List.getElem_mem _)
  generalize l.getD ((a+i) % l.length) 0=u at *
  rw [Int.tmod_eq_emod_of_nonneg h0]
  have:=Int.emod_nonneg u (show (3:Int) ≠ 0 by omega)
  have:=Int.emod_lt_of_pos u (show (0:Int)<3 by omega)
  exact ⟨by omega,by omega⟩
theorem qFW {l:List Int} (hl:∀ v ∈ l,0≤v) {a n:Nat}:∀ v ∈ Vd l a n,V3 v:=by
 intro v hv
 obtain ⟨i,_,rfl⟩:=List.mem_map.1 hv
 exact qMQ hl a i
theorem q4Y {v:List Int} {n:Nat} {r:Sl Int}:∀ {k a:Nat},r ∈ Rb v n k a→∃ a',r=⟨Vd v a' n,none,none⟩
 | 0,_,h=>by cases h
 | k+1,a,h=>by
  rcases List.mem_cons.1 h with rfl | h
  ·exact ⟨a,rfl⟩
  ·exact q4Y h
theorem q9U {v:List Int}:∀ {ms:List Mm} {a:Nat},(ofW v ms a).length=ms.length
 | [],_=>rfl
 | m::ms,a=>by simp [ofW,q9U]
theorem q9V {v:List Int}:∀ {ms:List Mm} {a:Nat},(ofR v ms a).length=ms.length
 | [],_=>rfl
 | m::ms,a=>by simp [ofR,q9V]
theorem q7I {v:List Int}:∀ {ms:List Mm} {a i:Nat},i<ms.length→∃ a',(ofW v ms a).getD i Sl.zz=⟨Rb v (ms.getD i Mm.d).data.l.length (2 ^ (ms.getD i Mm.d).addr.l.length) a',none,none⟩
 | m::ms,a,0,_=>⟨a,rfl⟩
 | m::ms,a,i+1,h=>q7I (ms:=ms) (by simpa using h)
theorem q9W {v:List Int}:∀ {ms:List Mm} {a i:Nat},i<ms.length→∃ a',(ofR v ms a).getD i Sl.z=⟨Vd v a' (ms.getD i Mm.d).data.l.length,none,none⟩
 | m::ms,a,0,_=>⟨a+2 ^ m.addr.l.length*m.data.l.length,rfl⟩
 | m::ms,a,i+1,h=>q9W (ms:=ms) (by simpa using h)
theorem Z5 {α:Type} {l:List α} {x:α} (d:α) (h:x ∈ l):∃ i,i<l.length∧l.getD i d=x:=by
 obtain ⟨i,hi,rfl⟩:=List.getElem_of_mem h
 exact ⟨i,hi,by simp [List.getD_eq_getElem?_getD,hi]⟩
theorem qKR {v:List Int} (hv:∀ x ∈ v,0≤x) (c:B0):Ei c (q4p v c):=by
 refine ⟨q7H,q9U,q9V,fun i hi=>?_,fun i hi w hw=>?_,fun i hi=>?_,qFW hv,fun w hw r hr=>?_,fun r hr=>?_⟩
 ·obtain ⟨a,e⟩:=q7I (v:=v) (a:=(Af c).length) hi
  show ((ofW v c.mems.l _).getD i Sl.zz).l.length=_
  rw [e]; exact q8D
 ·obtain ⟨a,e⟩:=q7I (v:=v) (a:=(Af c).length) hi
  have hw:w ∈ ((ofW v c.mems.l (Af c).length).getD i Sl.zz).l:=hw
  rw [e] at hw
  obtain ⟨a',rfl⟩:=q4Y hw
  exact q7H
 ·obtain ⟨a,e⟩:=q9W (v:=v) (a:=(Af c).length) hi
  show ((ofR v c.mems.l _).getD i Sl.z).l.length=_
  rw [e]; exact q7H
 ·obtain ⟨i,hi,rfl⟩:=Z5 Sl.zz hw
  have hi':i<c.mems.l.length:=by have:(q4p v c).words.l.length=c.mems.l.length:=q9U; omega
  obtain ⟨a,e⟩:=q7I (v:=v) (a:=(Af c).length) hi'
  have hr:r ∈ ((ofW v c.mems.l (Af c).length).getD i Sl.zz).l:=hr
  rw [e] at hr
  obtain ⟨a',rfl⟩:=q4Y hr
  exact qFW hv
 ·obtain ⟨i,hi,rfl⟩:=Z5 Sl.z hr
  have hi':i<c.mems.l.length:=by have:(q4p v c).read.l.length=c.mems.l.length:=q9V; omega
  obtain ⟨a,e⟩:=q9W (v:=v) (a:=(Af c).length) hi'
  have e:(q4p v c).read.l.getD i Sl.z=⟨Vd v a (c.mems.l.getD i Mm.d).data.l.length,none,none⟩:=e
  rw [e]
  exact qFW hv
theorem qCk {w:List Int} (h:∀ v ∈ w,V3 v) (b:Nat):V3 (q0s w b):=by
 unfold q0s
 split
 ·have:=qJ7 h b
  unfold E8 V3 at *
  split <;> omega
 ·exact ⟨by omega,by omega⟩
theorem qGP {w:List Int} (h:∀ v ∈ w,V4 v) (b:Nat):V3 (q0s w b):=by
 unfold q0s
 split
 ·have:=Tn h b
  unfold E8 V3 V4 at *
  split <;> omega
 ·exact ⟨by omega,by omega⟩
theorem qGQ {a b:Int} (ha:V3 a) (hb:V3 b):V3 (q5G a b):=by
 unfold q5G
 split
 ·exact ha
 ·exact ⟨by omega,by omega⟩
theorem qC6 {w:List Int} {f:Bool}:∀ {k b:Nat} {o:List Int},(Wv w f k b o).length=o.length
 | 0,_,_=>rfl
 | k+1,b,o=>by simp only [Wv]; rw [qC6,List.length_set]
theorem qGR {w:List Int} (hw:∀ v ∈ w,V3 v) {f:Bool}:∀ {k b:Nat} {o:List Int},(∀ v ∈ o,V3 v)→∀ v ∈ Wv w f k b o,V3 v
 | 0,_,_,h=>h
 | k+1,b,o,h=>by
  simp only [Wv]
  refine qGR hw fun v hv=>?_
  rcases List.mem_or_eq_of_mem_set hv with hv | rfl
  ·exact h v hv
  ·split
   ·exact qCk hw b
   ·exact qGQ (qJ7 h b) (qCk hw b)
theorem qCl {addr:List Int}:∀ {ws:List (List Int)} {i:Nat} {s:List Int × Bool},(∀ w ∈ ws,∀ v ∈ w,V3 v)→(∀ v ∈ s.1,V3 v)→(q3v addr i ws s).1.length=s.1.length∧∀ v ∈ (q3v addr i ws s).1,V3 v
 | [],_,_,_,h=>⟨rfl,h⟩
 | w::ws,i,s,hw,h=>by
  simp only [q3v]
  have hw':∀ x ∈ ws,∀ v ∈ x,V3 v:=fun x hx=>hw x (List.mem_cons_of_mem _ hx)
  by_cases hm:Qv i addr=true
  ·rw [if_pos hm]
   have:=qCl (addr:=addr) (i:=i+1) (s:=(Wv w s.2 s.1.length 0 s.1,false)) hw' (qGR (hw w List.mem_cons_self) h)
   exact ⟨this.1.trans qC6,this.2⟩
  ·rw [if_neg hm]
   exact qCl (addr:=addr) (i:=i+1) hw' h
theorem qE9 {words:List (List Int)} {addr:List Int} (hw:∀ w ∈ words,∀ v ∈ w,V3 v):(Z1 words addr).length=(words.headD []).length∧∀ v ∈ Z1 words addr,V3 v:=by
 cases words with
 | nil=>exact ⟨rfl,fun v h=>by cases h⟩
 | cons w ws =>
  have:=qCl (addr:=addr) (i:=0) (s:=(List.replicate w.length 2,true)) hw (fun v hv=>by rw [List.eq_of_mem_replicate hv]; exact ⟨by omega,by omega⟩)
  exact ⟨this.1.trans (by simp),this.2⟩
theorem q6F {addr data:List Int} {en:Int} {r:List Int}:∀ {ws:List (List Int)} {i:Nat},r ∈ Ez addr data en i ws→∃ i' w,w ∈ ws∧r=U2 i' addr data en w w.length 0
 | [],_,h=>by cases h
 | w::ws,i,h=>by
  rcases List.mem_cons.1 h with rfl | h
  ·exact ⟨i,w,List.mem_cons_self,rfl⟩
  ·obtain ⟨i',w',h1,h2⟩:=q6F h
   exact ⟨i',w',List.mem_cons_of_mem _ h1,h2⟩
theorem qJ8 {addr data w:List Int} {en:Int} {i:Nat} (hw:∀ v ∈ w,V3 v) (hd:∀ v ∈ data,V4 v):∀ v ∈ U2 i addr data en w w.length 0,V3 v:=by
 intro v hv
 obtain ⟨j,hj,rfl⟩:=Z5 0 hv
 rw [q2G] at hj
 rw [q6A hj]
 unfold q3w
 split
 ·exact qCk hw _
 split
 ·exact qGP hd _
 ·exact qGQ (qCk hw _) (qGP hd _)
theorem q8E {nets:List Int} {ms:List Mm} {ws:List (Sl (Sl Int))} (h:ws.length=ms.length):(Il nets ms ws).length=ms.length:=by unfold Il; rw [List.length_zipWith,h,Nat.min_self]
theorem q8F {nets:List Int} {ms:List Mm} {ws:List (Sl (Sl Int))} (h:ws.length=ms.length):(Kt nets ms ws).length=ms.length:=by unfold Kt; rw [List.length_zipWith,h,Nat.min_self]
theorem q2J {α:Type} {l:List α} {i:Nat} {d:α} (h:i<l.length):l.getD i d=l[i]:=by simp [List.getD_eq_getElem?_getD,h]
theorem q8G {nets:List Int} {ms:List Mm} {ws:List (Sl (Sl Int))} (h:ws.length=ms.length) {i:Nat} (hi:i<ms.length) :
  (Il nets ms ws).getD i Sl.zz=P3 (Ez (Bi nets (ms.getD i Mm.d).addr.l) (Bi nets (ms.getD i Mm.d).data.l) (nets.getD (ms.getD i Mm.d).write.toNat 0) 0 ((ws.getD i Sl.zz).l.map (·.l))):=by
 have h1:i<ws.length:=by omega
 have h2:i<(Il nets ms ws).length:=by rw [q8E h]; exact hi
 rw [q2J h2,q2J hi,q2J h1]
 simp only [Il,List.getElem_zipWith]
theorem qC7 {nets:List Int} {ms:List Mm} {ws:List (Sl (Sl Int))} (h:ws.length=ms.length) {i:Nat} (hi:i<ms.length) :
  (Kt nets ms ws).getD i Sl.z=⟨Z1 ((ws.getD i Sl.zz).l.map (·.l)) (Bi nets (ms.getD i Mm.d).addr.l),none,none⟩:=by
 have h1:i<ws.length:=by omega
 have h2:i<(Kt nets ms ws).length:=by rw [q8F h]; exact hi
 rw [q2J h2,q2J hi,q2J h1]
 simp only [Kt,List.getElem_zipWith]
theorem qJ9 {nets l:List Int} (h:∀ v ∈ nets,V4 v):∀ v ∈ Bi nets l,V4 v:=by
 intro v hv
 obtain ⟨q,_,rfl⟩:=List.mem_map.1 hv
 exact Tn h _
theorem qJA {c:B0} {nets:List Int} (h:∀ v ∈ nets,V4 v):∀ v ∈ Df c nets,V3 v:=by
 intro v hv
 obtain ⟨n,_,rfl⟩:=List.mem_map.1 hv
 unfold q2W Tv
 split
 ·split
  ·exact ⟨by unfold E8; omega,by unfold E8; omega⟩
  ·have:=Tn h ((I5 c n.toNat).getD 0 0).toNat
   generalize nets.getD ((I5 c n.toNat).getD 0 0).toNat 0=u at *
   unfold V4 at this
   unfold V3 E8 Dw
   constructor <;> (split <;> split <;> omega)
 ·exact ⟨by omega,by omega⟩
theorem q7J {c:B0} (h:MOk c) {s:Hk} (H:Ei c s) {nets:List Int} (hv:∀ v ∈ nets,V4 v):Ei c (Lo c s nets):=by
 have hwm:∀ i,i<c.mems.l.length→∀ r ∈ ((s.words.l.getD i Sl.zz).l.map (·.l)),∀ v ∈ r,V3 v:=fun i hi r hr v hvv=>by
  obtain ⟨x,hx,rfl⟩:=List.mem_map.1 hr
  exact H.vw _ (U3 (by rw [H.w]; exact hi)) x hx v hvv
 have hsw:=H.w
 refine ⟨by simp [Lo,Df],q8E hsw,q8F hsw,fun i hi=>?_,fun i hi w hw=>?_,fun i hi=>?_,qJA hv,fun w hw r hr=>?_,fun r hr=>?_⟩
 ·show ((Il nets c.mems.l s.words.l).getD i Sl.zz).l.length=_
  rw [q8G hsw hi]
  simp only [P3,List.length_map,q6C]
  exact H.wl i hi
 ·have hw:w ∈ ((Il nets c.mems.l s.words.l).getD i Sl.zz).l:=hw
  rw [q8G hsw hi] at hw
  simp only [P3] at hw
  obtain ⟨r,hr,rfl⟩:=List.mem_map.1 hw
  obtain ⟨i',w',hw',rfl⟩:=q6F hr
  obtain ⟨x,hx,rfl⟩:=List.mem_map.1 hw'
  show (U2 _ _ _ _ _ _ _).length=_
  rw [q2G]
  exact H.wr i hi x hx
 ·show ((Kt nets c.mems.l s.words.l).getD i Sl.z).l.length=_
  rw [qC7 hsw hi]
  simp only
  rw [(qE9 (hwm i hi)).1]
  have hlen:=H.wl i hi
  have hwr:=H.wr i hi
  cases hW:(s.words.l.getD i Sl.zz).l with
  | nil =>
   rw [hW] at hlen
   have:=Nat.pow_pos (n:=(c.mems.l.getD i Mm.d).addr.l.length) (show 0<2 by omega)
   simp only [List.length_nil] at hlen
   omega
  | cons x xs =>
   rw [hW] at hwr
   exact hwr x List.mem_cons_self
 ·obtain ⟨i,hi,rfl⟩:=Z5 Sl.zz hw
  have hi':i<c.mems.l.length:=by have:(Lo c s nets).words.l.length=c.mems.l.length:=q8E hsw; omega
  have hr:r ∈ ((Il nets c.mems.l s.words.l).getD i Sl.zz).l:=hr
  rw [q8G hsw hi'] at hr
  simp only [P3] at hr
  obtain ⟨q,hq,rfl⟩:=List.mem_map.1 hr
  obtain ⟨i',w',hw',rfl⟩:=q6F hq
  exact qJ8 (hwm i hi' w' hw') (qJ9 hv)
 ·obtain ⟨i,hi,rfl⟩:=Z5 Sl.z hr
  have hi':i<c.mems.l.length:=by have:(Lo c s nets).read.l.length=c.mems.l.length:=q8F hsw; omega
  have e:(Lo c s nets).read.l.getD i Sl.z=_:=qC7 hsw hi'
  rw [e]
  exact (qE9 (hwm i hi')).2
theorem qJB {c:B0}:∀ {o nets:List Int},(∀ v ∈ nets,V4 v)→∀ v ∈ q95 c o nets,V4 v
 | [],nets,h=>h
 | n::o,nets,h=>qJB (o:=o) (nets:=Uz c nets n) (qGH h)
theorem qGS {c:B0} {s:Hk} (H:Ei c s) {inn:List Int} (hv:∀ v ∈ inn,V4 v):∀ v ∈ Wu c inn s.dff.l s.rd,V4 v:=by
 refine q9T (fun v hvm=>?_) (q9T (fun v h=>(show V3 v from H.vd v h).four) (q9T hv fun v hv=>by rw [(List.mem_replicate.1 hv).2]; simp [V4]))
 obtain ⟨n,_,rfl⟩:=List.mem_map.1 hvm
 by_cases hm:(nd c n).mem.toNat<s.rd.length
 ·refine Tn (fun v hv=>?_) _
  have hmem:=U3 (d:=([]:List Int)) hm
  obtain ⟨r,hr,e⟩:=List.mem_map.1 hmem
  rw [← e] at hv
  exact (show V3 v from H.vr r hr v hv).four
 ·have e:s.rd.getD (nd c n).mem.toNat []=[]:=by rw [List.getD_eq_getElem?_getD,List.getElem?_eq_none (by omega)]; rfl
  rw [e]
  exact ⟨by simp,by simp⟩
theorem q7K {c:B0} {s:Hk} (H:Ei c s) {inn:List Int} (hv:∀ v ∈ inn,V4 v):∀ v ∈ Bn c s inn,V4 v:=qJB (qGS H hv)
theorem qJC {c:B0} (h:Eh c=0):∀ x ∈ mems c,0≤(nd c x).mem∧(nd c x).mem<c.mems.l.length∧0≤(nd c x).bit∧(nd c x).bit<(c.mems.l.getD (nd c x).mem.toNat Mm.d).data.l.length:=by
 intro x hx
 obtain ⟨h0,h1,h2⟩:=Np x hx
 have hi:x.toNat<c.nodes.l.length:=by omega
 have hne:=(Ih (Po h).1).2.2.1 _ (qIi h0 h1)
 have hk:(nd c x).k=15:=by
  have:=q6r [15] c.nodes.l 0 x hx
  simpa [nd] using this.2.2
 unfold Dq at hne
 rw [if_neg (by omega)] at hne
 split at hne
 ·cases hne
 split at hne
 ·cases hne
 split at hne
 ·cases hne
 split at hne
 ·cases hne
 rename_i hb
 simp [q1D,hk] at hb
 exact hb
theorem qJD {Γ:Tables} (hΓ:GOk Γ) {c:B0} (h:MOk c) (hn:c.nodes.l.length≤19) {s:Hk} (H:Ei c s) (inn:Sl Int) (hi:inn.l.length=(Bg c).length) (hv:∀ v ∈ inn.l,V4 v) :
  Ab Tryz.prog Γ 25 [.agg (tC c),.agg (B7 s),tV inn] (.tup [.agg (B7 (Lo c s (Bn c s inn.l))),.agg [tVs (q1O c (Bn c s inn.l)),tVs (Df c (Bn c s inn.l))],.sl (Ap (Bn c s inn.l)) (some c.nodes.l.length) none,tI 0]) :=
 qFU hΓ c h hn s H inn hi hv (qJC h.lev) (q7K H hv) (qGS H hv)
end Go.Lg
namespace Go.Lg
open Go Go.Proofs
variable {Γ:Tables}
theorem qGT (a b:List UInt8):ByteArray.mk a.toArray++ByteArray.mk b.toArray=ByteArray.mk (a++b).toArray:=by
 apply ByteArray.ext
 simp [ByteArray.data_append]
theorem qLG {α:Type} {l:List α} (h:l.length=1):∃ a,l=[a]:=by
 match l,h with
 | [a],_=>exact ⟨a,rfl⟩
theorem qGU {α:Type} {l:List α} (h:l.length=2):∃ a b,l=[a,b]:=by
 match l,h with
 | [a,b],_=>exact ⟨a,b,rfl⟩
theorem st2 {c:B0} {s:Hk} (H:Ei c s) {m:Mm} (hm:c.mems.l=[m]) (ha:m.addr.l.length=1) (hd:m.data.l.length=2) :
  ∃ W r0 r1 a b cc d rd e f,s.words.l=[W]∧W.l=[r0,r1]∧r0.l=[a,b]∧r1.l=[cc,d]∧s.read.l=[rd]∧rd.l=[e,f]∧V3 a∧V3 b∧V3 cc∧V3 d∧V3 e∧V3 f:=by
 have hl:c.mems.l.length=1:=by rw [hm]; rfl
 obtain ⟨W,hW⟩:=qLG (H.w.trans hl)
 obtain ⟨rd,hr⟩:=qLG (H.r.trans hl)
 have wl:=H.wl 0 (by omega)
 have wr:=H.wr 0 (by omega)
 have rl:=H.rl 0 (by omega)
 have em:c.mems.l.getD 0 Mm.d=m:=by rw [hm]; rfl
 have eW:s.words.l.getD 0 Sl.zz=W:=by rw [hW]; rfl
 have er:s.read.l.getD 0 Sl.z=rd:=by rw [hr]; rfl
 rw [eW,em,ha] at wl
 rw [eW,em,hd] at wr
 rw [er,em,hd] at rl
 obtain ⟨r0,r1,hW2⟩:=qGU (show W.l.length=2 from wl)
 obtain ⟨e,f,hrd⟩:=qGU rl
 obtain ⟨a,b,h0⟩:=qGU (wr r0 (by rw [hW2]; simp))
 obtain ⟨cc,d,h1⟩:=qGU (wr r1 (by rw [hW2]; simp))
 have v0:=H.vw W (by rw [hW]; simp) r0 (by rw [hW2]; simp)
 have v1:=H.vw W (by rw [hW]; simp) r1 (by rw [hW2]; simp)
 have v2:=H.vr rd (by rw [hr]; simp)
 exact ⟨W,r0,r1,a,b,cc,d,rd,e,f,hW,hW2,h0,h1,hr,hrd,v0 a (by rw [h0]; simp),v0 b (by rw [h0]; simp),v1 cc (by rw [h1]; simp),v1 d (by rw [h1]; simp),v2 e (by rw [hrd]; simp),v2 f (by rw [hrd]; simp)⟩
structure M2 (c:B0):Prop where
 m:c.mems.l=[]∨∃ m p p1 p2,c.mems.l=[m]∧m.addr.l=[p]∧m.data.l=[p1,p2]
 k:∀ i,i<c.nodes.l.length→0≤Az c i∧Az c i≤15
 n1:1≤c.nodes.l.length
 n2:c.nodes.l.length≤16
theorem qLH {x:CD} (hx:q80 x):M2 (ofC x):=by
 have hl:=q5y hx
 have h5:=q5z hx
 have hN:(ofC x).nodes.l=Hf x:=rfl
 have hv:=qBz hx
 refine ⟨?_,fun i hi=>?_,by rw [hN]; omega,by rw [hN]; omega⟩
 ·by_cases hm:x.mem=true
  ·exact .inr ⟨⟨⟨[x.p0.tmod (C6 x).length],some 1,some false⟩,⟨[x.p1.tmod (C6 x).length,x.p2.tmod (C6 x).length],some 2,some false⟩,x.p3.tmod (C6 x).length⟩,_,_,_,by simp [ofC,qB6,hm],rfl,rfl⟩
  ·left
   simp [ofC,qB6,hm]
 ·have hs:=(Po hv).1
  have hn:=(Ih hs).2.2.1 _ (List.getElem_mem hi)
  have hk:Az (ofC x) i=(ofC x).nodes.l[i].k:=by simp [Az,hi]
  have hkk:=(qIT hx).kind _ (List.getElem_mem hi)
  have hle:¬ 15<(ofC x).nodes.l[i].k:=fun h=>by
   unfold Dq at hn
   rw [if_pos h] at hn; cases hn
  rw [hk]
  omega
theorem qMR {x:CD} (hx:q80 x):MOk (ofC x):=⟨qIT hx,qBz hx,by have:=(qLH hx).n2; omega⟩
end Go.Lg
namespace Go.Lg
open Go Go.Proofs Go.Proofs.YtnhgdofpomioeaaGreatDoor
theorem qGV:Tryz.prog.cellsOf 51=1:=by kernel_rfl
theorem qP8:Rd Tryz.prog 51 fun ts=>∃ s:Sl Int,ts=[tV s]∧∀ b ∈ s.l,Byt b:=by
 refine (q17 (l:=[(1,fun ts=>∃ s:Sl Int,ts=[tV s]∧∀ b ∈ s.l,Byt b)]) Tryz.underlying51 qGV
  (.cons rfl q9Q qCf (.nil _))).mono fun ts h=>?_
 obtain ⟨_,_,rfl,⟨a,rfl,ha⟩,rfl⟩:=h
 exact ⟨a,rfl,ha⟩
end Go.Lg
namespace Go.Proofs.YtnhgdofpomioeaaGreatDoor
open Go Go.Lg Go.ChangeShapes Go.WideShapes Go.ChangeAt Go.RowKit
end Go.Proofs.YtnhgdofpomioeaaGreatDoor
namespace Go.Lg
open Go Go.Proofs
variable {Γ:Tables}
def Kx (n:Nat):Sl Int:=⟨List.replicate n 2,none,none⟩
def q1V (m:Mm):Sl (Sl Int):=⟨List.replicate (2 ^ m.addr.l.length) (Kx m.data.l.length),none,none⟩
def E3 (c:B0):Hk:=⟨Kx (Af c).length,⟨c.mems.l.map q1V,some c.mems.l.length,none⟩,⟨c.mems.l.map fun m=>Kx m.data.l.length,some c.mems.l.length,none⟩⟩
def blH (m:Mm) (d:T) (nw nr:Nat):List (Nat × B9):=[(2,.bx [Fg,Fg,Fg]),(3,.bx [.t d,.ls 46 0 nw none,.ls 55 0 nr none]),(5,.bx ((tMm m).map .t))]
def blT (ws:List (Sl (Sl Int))) (rs:List (Sl Int)):List (Nat × B9):=[(46,.sl 57 1 (Ac tW ws)),(55,.sl 55 1 (Ac tV rs))]
theorem qOJ {Q:AX→St→Prop} (m:Mm) (K:Nat) (hK:K≤1000000) (hd:m.data.l.length≤60000) (tm:T) (len j:Int) (d:T) (ws:List (Sl (Sl Int))) (rs:List (Sl Int)) (R:List (List T)) (hR:R=Ac tV (List.replicate K (Kx m.data.l.length)))
  (h0:Q (.exit 2) ⟨[(2,.lp 2 0 0),(3,.lp 3 0 0),(5,.lp 5 0 0),(6,.ls 28 0 K none),(18,.t tm),(19,.t (tI len)),(20,.t (tI j)),(30,.t (tI K)),(31,.t (tI K)),(32,.t (tB false))],blH m d ws.length rs.length++(28,.sl 55 1 R)::blT ws rs⟩) :
  ∀ (k i:Nat),k+i=K →
  run Tryz.prog Γ K8 Q ⟨[(2,.lp 2 0 0),(3,.lp 3 0 0),(5,.lp 5 0 0),(6,.ls 28 0 K none),(18,.t tm),(19,.t (tI len)),(20,.t (tI j)),(30,.t (tI K)),(31,.t (tI i))],blH m d ws.length rs.length++(28,.sl 55 1 (R.take i++List.replicate (K - i) [T.sl [] (some 0) (some true)]))::blT ws rs⟩:=by
 have hRl:R.length=K:=by rw [hR,A0]; simp
 intro k
 induction k with
 | zero =>
  intro i h
  refine S8 fun KK hKK=>?_
  have h2:i=K:=by omega
  subst h2
  rw [← hRl,List.take_length,hRl,Nat.sub_self,List.replicate_zero,List.append_nil]
  simp [blH,blT,Fg] at h0
  simp [blH,blT,Fg]
  simpa using h0
 | succ k ih =>
  intro i h
  refine S8 fun KK hKK=>?_
  have h2:i<K:=by omega
  have h2R:i<R.length:=by omega
  have ih:=ih (i+1) (by omega)
  have hu:=q2F (Γ:=Γ) m.data.l.length hd
  have hRi:R[i]=[T.sl (Ap (List.replicate m.data.l.length 2)) none none]:=by
   have:R[i]? = some [T.sl (Ap (List.replicate m.data.l.length 2)) none none]:=by
    rw [hR]
    simp [Ac,List.getElem?_replicate,h2,tV,Kx]
   rw [List.getElem?_eq_getElem h2R] at this
   exact Option.some.inj this
  have hset:(R.take i++List.replicate (K - i) [T.sl [] (some 0) (some true)]).set i [T.sl (Ap (List.replicate m.data.l.length 2)) none none]=R.take (i+1)++List.replicate (K - (i+1)) [T.sl [] (some 0) (some true)]:=by
   have ht:(R.take i).length=i:=by rw [List.length_take]; omega
   rw [List.set_append_right _ _ (by omega),ht,Nat.sub_self,show K - i=(K - (i+1))+1 by omega,List.replicate_succ,List.set_cons_zero,List.take_add_one,List.getElem?_eq_getElem h2R,hRi]
   simp
  have hel:(R.take i++List.replicate (K - i) [T.sl [] (some 0) (some true)]).length=K:=by simp; omega
  generalize R.take i++List.replicate (K - i) [T.sl [] (some 0) (some true)]=E at *
  generalize R.take (i+1)++List.replicate (K - (i+1)) [T.sl [] (some 0) (some true)]=E' at *
  have w1:=B5 (i:=i) (by omega)
  simp [blH,blT,Fg,tMm,B6] at ih
  simp [blH,blT,Fg,tMm,B6,h2,A0]
  refine A9 hu rfl ?_
  simp [h2,hel,hset,w1]
  rw [hKK]
  simpa using ih
theorem qLI {Q:AX→St→Prop} (c:B0) (hcm:c.mems.l.length≤16) (hm:∀ m ∈ c.mems.l,m.addr.l.length≤8∧m.data.l.length≤32) (d:T) (RW:List (Sl (Sl Int))) (RR:List (Sl Int))
  (h0:Q (.exit 0) ⟨[(2,.lp 2 0 0),(3,.lp 3 0 0),(18,.t (Ad c.mems)),(19,.t (tI c.mems.l.length)),(20,.t (tI c.mems.l.length)),(21,.t (tB false))],[(2,.bx [Fg,Fg,Fg]),(3,.bx [.t d,.ls 46 0 RW.length none,.ls 55 0 RR.length none])]++blT RW RR⟩) :
  ∀ (k i:Nat) (ws:List (Sl (Sl Int))) (rs:List (Sl Int)),k+i=c.mems.l.length→ws.length=i→rs.length=i→ws++(c.mems.l.drop i).map q1V=RW→rs++(c.mems.l.drop i).map (fun m=>Kx m.data.l.length)=RR →
  run Tryz.prog Γ K9 Q ⟨[(2,.lp 2 0 0),(3,.lp 3 0 0),(18,.t (Ad c.mems)),(19,.t (tI c.mems.l.length)),(20,.t (tI i))],[(2,.bx [Fg,Fg,Fg]),(3,.bx [.t d,.ls 46 0 i none,.ls 55 0 i none])]++blT ws rs⟩
 | 0,i,ws,rs,h,hw,hr,hW,hR=>by
  refine S9 fun K hK=>?_
  have h2:i=c.mems.l.length:=by omega
  subst h2
  rw [List.drop_length] at hW hR
  simp only [List.map_nil,List.append_nil] at hW hR
  subst hW
  subst hR
  simp [blT,Fg,Ad,hw,hr] at h0
  simp [blT,Fg,Ad]
  simpa using h0
 | k+1,i,ws,rs,h,hw,hr,hW,hR=>by
  refine S9 fun K hK=>?_
  have h2:i<c.mems.l.length:=by omega
  rw [List.drop_eq_getElem_cons h2,List.map_cons] at hW hR
  have e1:(Ar tMm c.mems.l)[i]?.getD []=tMm c.mems.l[i]:=by simp [Ar,h2]
  have e1':∀ h,(Ar tMm c.mems.l)[i]'h=tMm c.mems.l[i]:=fun h=>by simp [Ar]
  obtain ⟨ma,md⟩:=hm _ (List.getElem_mem h2)
  generalize c.mems.l[i]=m at *
  have hK256:2 ^ m.addr.l.length≤256:=Nat.pow_le_pow_right (by omega) ma
  have sh:=qMP ma
  have g:=fun Q h0=>qOJ (Γ:=Γ) (Q:=Q) m (2 ^ m.addr.l.length) (by omega) (by omega) (Ad c.mems) c.mems.l.length i d ws rs (Ac tV (List.replicate (2 ^ m.addr.l.length) (Kx m.data.l.length))) rfl h0 (2 ^ m.addr.l.length) 0 (by omega)
  rw [List.take_zero,Nat.sub_zero,List.nil_append] at g
  have hu:=q2F (Γ:=Γ) m.data.l.length (by omega)
  have hul:(List.replicate (2 ^ m.addr.l.length) (Kx m.data.l.length)).length=2 ^ m.addr.l.length:=by simp
  have vt:(Ac tV (List.replicate (2 ^ m.addr.l.length) (Kx m.data.l.length))).take (2 ^ m.addr.l.length)=Ac tV (List.replicate (2 ^ m.addr.l.length) (Kx m.data.l.length)):=List.take_of_length_le (by rw [A0,hul]; exact Nat.le_refl _)
  have ih:=qLI c hcm hm d RW RR h0 k (i+1) (ws++[q1V m]) (rs++[Kx m.data.l.length]) (by omega) (by simp [hw]) (by simp [hr]) (by rw [← hW]; simp) (by rw [← hR]; simp)
  have vsw:Ac tW ws++[[T.sl (Ac tV (List.replicate (2 ^ m.addr.l.length) (Kx m.data.l.length))) none none]]=Ac tW (ws++[q1V m]):=Be (f:=tW) (x:=q1V m)
  have vsr:Ac tV rs++[[T.sl (Ap (List.replicate m.data.l.length 2)) none none]]=Ac tV (rs++[Kx m.data.l.length]):=Be (f:=tV) (x:=Kx m.data.l.length)
  have vtw:(Ac tW ws).take i=Ac tW ws:=by rw [← hw]; exact Ag
  have vtr:(Ac tV rs).take i=Ac tV rs:=by rw [← hr]; exact Ag
  generalize Ac tV (List.replicate (2 ^ m.addr.l.length) (Kx m.data.l.length))=rows at *
  generalize Ap (List.replicate m.data.l.length 2)=rd at *
  generalize q1V m=uw at *
  generalize Kx m.data.l.length=us at *
  have hnat:((2 ^ m.addr.l.length:Nat):Int).toNat=2 ^ m.addr.l.length:=Int.toNat_natCast _
  generalize 2 ^ m.addr.l.length=KK at *
  have w1:=B5 (i:=i) (by omega)
  have hw1:∀ t:T,Cm 1 [[t]]:=fun t e he=>by simp at he; subst he; rfl
  simp only [tMm,B6] at e1 e1'
  simp [blH,blT,Fg,tMm,B6,Ad,hw,hr] at g ih
  simp [blT,Fg,Ad,Qi,Aa,A0,h2,e1,e1',sh]
  refine ⟨by omega,?_⟩
  refine g _ ?_
  simp [St.freeze,B9.closed,Bl,frz1,frz0,Du,del,Ai,vt,vtw,vsw,hw1,A6,A0,hw]
  refine ⟨by omega,?_⟩
  refine A9 hu rfl ?_
  simp [vtr,vsr,hw1,A6,A0,hr,w1]
  refine ⟨by omega,?_⟩
  rw [hK]
  simpa using ih
theorem q8v (hΓ:GOk Γ) (c:B0) (h:MOk c) (hs:(Af c).length≤60000):Ab Tryz.prog Γ 29 [.agg (tC c)] (.agg (B7 (E3 c))):=by
 refine Aq q68 rfl ?_
 have e1:=q5v hΓ c h.ok
 rw [h.lev] at e1
 have e2:=Et (Γ:=Γ) c h.ok
 have e3:=q2F (Γ:=Γ) (Af c).length hs
 have hcm:=h.cm
 have g:=fun Q d h0=>qLI (Γ:=Γ) (Q:=Q) c h.cm (fun m hm=>⟨(h.mf m hm).1.2,(h.mf m hm).2.1.2⟩) d (c.mems.l.map q1V) (c.mems.l.map fun m=>Kx m.data.l.length) h0 c.mems.l.length 0 [] [] (by omega) rfl rfl rfl rfl
 have lW:(c.mems.l.map q1V).length=c.mems.l.length:=by simp
 have lR:(c.mems.l.map fun m=>Kx m.data.l.length).length=c.mems.l.length:=by simp
 have tw:(Ac tW (c.mems.l.map q1V)).take c.mems.l.length=Ac tW (c.mems.l.map q1V):=by rw [← lW]; exact Ag
 have tr:(Ac tV (c.mems.l.map fun m=>Kx m.data.l.length)).take c.mems.l.length=Ac tV (c.mems.l.map fun m=>Kx m.data.l.length):=by rw [← lR]; exact Ag
 have c2:=qGO (Γ:=Γ) (Ac tV (c.mems.l.map fun m=>Kx m.data.l.length)) none none A6
 have c3:=qIz (Γ:=Γ) (Ac tW (c.mems.l.map q1V)) none none A6
 rw [A0,lR] at c2
 rw [A0,lW] at c3
 unfold E3
 generalize (c.mems.l.map q1V)=W at *
 generalize (c.mems.l.map fun m=>Kx m.data.l.length)=R at *
 simp [tC,A5,A8,Ad,B6] at e1 e2
 simp [blT,Fg,Ad,Cd,lW,lR] at g
 simp [q0N,tC,A5,A8,Ad,B6]
 refine A1 e1 rfl ?_
 simp
 refine A9 e2 rfl ?_
 simp [A0]
 refine A9 e3 rfl ?_
 simp [Aa]
 refine g _ _ ?_
 simp [St.freeze,B9.closed,Bl,frz1,frz0,Du,del,Ai,tw,tr]
 refine A9 c3 rfl ?_
 simp
 refine A9 c2 rfl ?_
 simp [q0O,Ai,Ah,B7,tV,tW,Ig,Kx]
theorem qJE {α:Type} {l:List α} {i:Nat} {d:α} (h:i<l.length):l.getD i d ∈ l:=by
 rw [q2J h]; exact List.getElem_mem h
theorem q3z.blw {a b:List Int} (h:q3z Og a b):Yl a b:=⟨h.1,fun i=>by
 by_cases hi:i<a.length
 ·exact h.2 i hi
 ·rw [List.getD_eq_getElem?_getD,List.getD_eq_getElem?_getD,List.getElem?_eq_none (by omega),List.getElem?_eq_none (by have:=h.1; omega)]
  exact .refl _⟩
theorem Yl.rel {a b:List Int} (h:Yl a b):q3z Og a b:=⟨h.1,fun i _=>h.2 i⟩
theorem qKS {α:Type} {n j:Nat} {x d:α} (h:j<n):(List.replicate n x).getD j d=x:=by rw [List.getD_eq_getElem?_getD,List.getElem?_replicate,if_pos h]; rfl
theorem qKT {n i:Nat}:(Kx n).l.getD i 0=if i<n then 2 else 0:=by
 unfold Kx
 rw [List.getD_eq_getElem?_getD,List.getElem?_replicate]
 split <;> rfl
theorem qCm {n:Nat} {l:List Int} (h:l.length=n):q3z Og (Kx n).l l:=by
 refine ⟨by simp [Kx,h],fun i hi=>?_⟩
 rw [qKT,if_pos (by simpa [Kx] using hi)]
 exact .inr rfl
theorem qEA {c:B0} {s:Hk} (H:Ei c s):q40 Og (E3 c) s:=by
 have gm:∀ i,i<c.mems.l.length→(E3 c).words.l.getD i Sl.zz=q1V (c.mems.l.getD i Mm.d):=fun i hi=>by
  show (c.mems.l.map q1V).getD i Sl.zz=_
  simp [List.getD_eq_getElem?_getD,hi]
 have gr:∀ i,i<c.mems.l.length→(E3 c).read.l.getD i Sl.z=Kx (c.mems.l.getD i Mm.d).data.l.length:=fun i hi=>by
  show (c.mems.l.map fun m=>Kx m.data.l.length).getD i Sl.z=_
  simp [List.getD_eq_getElem?_getD,hi]
 have lw:(E3 c).words.l.length=c.mems.l.length:=by simp [E3]
 have lr:(E3 c).read.l.length=c.mems.l.length:=by simp [E3]
 refine ⟨qCm H.d,by rw [lr,H.r],fun i hi=>?_,by rw [lw,H.w],fun i hi=>?_⟩
 ·rw [lr] at hi
  rw [gr i hi]
  exact qCm (H.rl i hi)
 ·rw [lw] at hi
  rw [gm i hi]
  refine ⟨by rw [H.wl i hi]; simp [q1V],fun j hj=>?_⟩
  have hj':j<2 ^ (c.mems.l.getD i Mm.d).addr.l.length:=by simpa [q1V] using hj
  have e:(q1V (c.mems.l.getD i Mm.d)).l.getD j Sl.z=Kx (c.mems.l.getD i Mm.d).data.l.length:=qKS hj'
  rw [e]
  exact qCm (H.wr i hi _ (qJE (by rw [H.wl i hi]; exact hj')))
theorem qLJ (s:Hk) (m:Nat):s.rd.getD m []=(s.read.l.getD m Sl.z).l:=by
 unfold Hk.rd
 rw [List.getD_eq_getElem?_getD,List.getD_eq_getElem?_getD,List.getElem?_map]
 cases s.read.l[m]? <;> rfl
theorem qMS {s u:Hk} (R:q40 Og s u) (m j:Nat):Og ((s.rd.getD m []).getD j 0) ((u.rd.getD m []).getD j 0):=by
 rw [qLJ,qLJ]
 by_cases hm:m<s.read.l.length
 ·exact (R.r m hm).blw.2 j
 ·have e:∀ l:List (Sl Int),l.length≤m→l.getD m Sl.z=Sl.z:=fun l h=>by rw [List.getD_eq_getElem?_getD,List.getElem?_eq_none h]; rfl
  rw [e _ (by omega),e _ (by rw [← R.rl]; omega)]
  exact .refl _
theorem qFX {c:B0} (h:MOk c) {s u:Hk} (H:Ei c s) (K:Ei c u) (R:q40 Og s u) {p m:List Int} (hp:p.length=(Bg c).length) (hm:m.length=(Bg c).length) (h1:∀ j,Og (p.getD j 0) (m.getD j 0)):Yl (Bn c s p) (Bn c u m) :=
 qFH h.lev hp H.d hm K.d h1 (R.d.blw.2) (qMS R)
theorem qMT {a b a' b':Int} (h1:Og a a') (h2:Og b b'):q3z Og [a,b] [a',b']:=⟨rfl,fun i hi=>by
 rcases i with _ | _ | i
 ·exact h1
 ·exact h2
 ·simp at hi; omega⟩
theorem qFY {c:B0} (h:MOk c) (M:M2 c) {s u:Hk} (H:Ei c s) (K:Ei c u) (R:q40 Og s u) {N O:List Int} (hN:∀ v ∈ N,V4 v) (hO:∀ v ∈ O,V4 v) (B:Yl N O):q40 Og (Lo c s N) (Lo c u O):=by
 have hd:q3z Og (Df c N) (Df c O):=(Yl.map (l:=Af c) (f:=q2W c N) (g:=q2W c O) fun n _=>qFG B n).rel
 rcases M.m with hm | ⟨m,p,p1,p2,hm,ha,hdd⟩
 ·have e1:∀ (t:Hk) (x:List Int),(Lo c t x).words.l=[]:=fun t x=>by show Il x c.mems.l t.words.l=[]; rw [hm]; rfl
  have e2:∀ (t:Hk) (x:List Int),(Lo c t x).read.l=[]:=fun t x=>by show Kt x c.mems.l t.words.l=[]; rw [hm]; rfl
  exact ⟨hd,by rw [e2,e2],fun i hi=>by rw [e2] at hi; simp at hi,by rw [e1,e1],fun i hi=>by rw [e1] at hi; simp at hi⟩
 ·obtain ⟨W,r0,r1,a,b,cc,d,rd,e,f,hW,hW2,hr0,hr1,hr,hrd,va,vb,vc,vd,ve,vf⟩:=st2 H hm (by rw [ha]; rfl) (by rw [hdd]; rfl)
  obtain ⟨W',r0',r1',a',b',cc',d',rd',e',f',hW',hW2',hr0',hr1',hr',hrd',va',vb',vc',vd',ve',vf'⟩:=st2 K hm (by rw [ha]; rfl) (by rw [hdd]; rfl)
  have rw0:=(R.w 0 (by rw [hW]; simp)).2
  rw [hW,hW'] at rw0
  simp only [List.getD_cons_zero] at rw0
  have x0:=rw0 0 (by rw [hW2]; simp)
  have x1:=rw0 1 (by rw [hW2]; simp)
  rw [hW2,hW2'] at x0 x1
  simp only [List.getD_cons_zero,List.getD_cons_succ] at x0 x1
  rw [hr0,hr0'] at x0
  rw [hr1,hr1'] at x1
  have ba:=G9 (x0.2 0 (by simp))
  have bb:=G9 (x0.2 1 (by simp))
  have bc:=G9 (x1.2 0 (by simp))
  have bd:=G9 (x1.2 1 (by simp))
  simp only [List.getD_cons_zero,List.getD_cons_succ] at ba bb bc bd
  have hWm:W.l.map (·.l)=[[a,b],[cc,d]]:=by rw [hW2]; simp [hr0,hr1]
  have hWm':W'.l.map (·.l)=[[a',b'],[cc',d']]:=by rw [hW2']; simp [hr0',hr1']
  have hav:∀ x,Bi x m.addr.l=[x.getD p.toNat 0]:=fun x=>by rw [ha]; rfl
  have hdv:∀ x,Bi x m.data.l=[x.getD p1.toNat 0,x.getD p2.toNat 0]:=fun x=>by rw [hdd]; rfl
  have hv:Og (N.getD p.toNat 0) (O.getD p.toNat 0):=B.2 _
  have hx:=G9 (B.2 p1.toNat)
  have hy:=G9 (B.2 p2.toNat)
  have hen:Og (N.getD m.write.toNat 0) (O.getD m.write.toNat 0):=B.2 _
  have n1:(Lo c s N).read.l=[⟨Z1 [[a,b],[cc,d]] [N.getD p.toNat 0],none,none⟩]:=by show Kt N c.mems.l s.words.l=_; rw [hm,hW]; simp only [Kt,List.zipWith_cons_cons,List.zipWith_nil_left,hWm,hav]
  have n1':(Lo c u O).read.l=[⟨Z1 [[a',b'],[cc',d']] [O.getD p.toNat 0],none,none⟩]:=by show Kt O c.mems.l u.words.l=_; rw [hm,hW']; simp only [Kt,List.zipWith_cons_cons,List.zipWith_nil_left,hWm',hav]
  have n2:(Lo c s N).words.l=[P3 (Ez [N.getD p.toNat 0] [N.getD p1.toNat 0,N.getD p2.toNat 0] (N.getD m.write.toNat 0) 0 [[a,b],[cc,d]])]:=by show Il N c.mems.l s.words.l=_; rw [hm,hW]; simp only [Il,List.zipWith_cons_cons,List.zipWith_nil_left,hWm,hav,hdv]
  have n2':(Lo c u O).words.l=[P3 (Ez [O.getD p.toNat 0] [O.getD p1.toNat 0,O.getD p2.toNat 0] (O.getD m.write.toNat 0) 0 [[a',b'],[cc',d']])]:=by show Il O c.mems.l u.words.l=_; rw [hm,hW']; simp only [Il,List.zipWith_cons_cons,List.zipWith_nil_left,hWm',hav,hdv]
  rw [qL3 (Tn hN _).1] at n1
  rw [qL3 (Tn hO _).1] at n1'
  rw [qIn (Tn hN _).1] at n2
  rw [qIn (Tn hO _).1] at n2'
  refine ⟨hd,by rw [n1,n1']; rfl,fun i hi=>?_,by rw [n2,n2']; rfl,fun i hi=>?_⟩
  ·rw [n1] at hi
   have:i=0:=by simpa using hi
   subst this
   rw [n1,n1']
   exact qMT (qAc hv ba bc) (qAc hv bb bd)
  ·rw [n2] at hi
   have:i=0:=by simpa using hi
   subst this
   rw [n2,n2']
   refine ⟨rfl,fun j hj=>?_⟩
   rcases j with _ | _ | j
   ·exact qMT (q4W (.inl rfl) hv hen ba hx) (q4W (.inl rfl) hv hen bb hy)
   ·exact qMT (q4W (.inr rfl) hv hen bc hx) (q4W (.inr rfl) hv hen bd hy)
   ·simp [P3] at hj; omega
end Go.Lg
namespace Go.Lg
open Go Go.Proofs
def seqS (c:B0):Hk→List (List Int)→Hk
 | s,[]=>s
 | s,i::is=>seqS c (Lo c s (Bn c s i)) is
def seqR (c:B0):Hk→List (List Int)→List (List Int × List Int)
 | _,[]=>[]
 | s,i::is=>(q1O c (Bn c s i),Df c (Bn c s i))::seqR c (Lo c s (Bn c s i)) is
theorem qEB {c:B0}:∀ {is:List (List Int)} {s:Hk},(seqR c s is).length=is.length
 | [],_=>rfl
 | _::is,s=>by simp [seqR,qEB (is:=is)]
structure Z6 (a b:Hk):Prop where
 d:a.dff.l=b.dff.l
 w:a.ws=b.ws
 r:a.rd=b.rd
theorem Z6.refl (a:Hk):Z6 a a:=⟨rfl,rfl,rfl⟩
theorem Z6.symm {a b:Hk} (h:Z6 a b):Z6 b a:=⟨h.d.symm,h.w.symm,h.r.symm⟩
theorem Z6.trans {a b d:Hk} (h:Z6 a b) (g:Z6 b d):Z6 a d:=⟨h.d.trans g.d,h.w.trans g.w,h.r.trans g.r⟩
theorem qAj {nets:List Int}:∀ {ms:List Mm} {ws:List (Sl (Sl Int))},Kt nets ms ws=List.zipWith (fun m w=>⟨Z1 w (Bi nets m.addr.l),none,none⟩) ms (ws.map fun w=>w.l.map (·.l))
 | [],_=>rfl
 | _::_,[]=>rfl
 | m::ms,w::ws=>by
  have:=qAj (nets:=nets) (ms:=ms) (ws:=ws)
  unfold Kt at this ⊢
  simp only [List.zipWith_cons_cons,List.map_cons,this]
theorem qAk {nets:List Int}:∀ {ms:List Mm} {ws:List (Sl (Sl Int))},Il nets ms ws=List.zipWith (fun m w=>P3 (Ez (Bi nets m.addr.l) (Bi nets m.data.l) (nets.getD m.write.toNat 0) 0 w)) ms (ws.map fun w=>w.l.map (·.l))
 | [],_=>rfl
 | _::_,[]=>rfl
 | m::ms,w::ws=>by
  have:=qAk (nets:=nets) (ms:=ms) (ws:=ws)
  unfold Il at this ⊢
  simp only [List.zipWith_cons_cons,List.map_cons,this]
theorem Z6.nets {c:B0} {a b:Hk} (h:Z6 a b) (i:List Int):Bn c a i=Bn c b i:=by unfold Bn; rw [h.d,h.r]
theorem Z6.next {c:B0} {a b:Hk} (h:Z6 a b) (N:List Int):Lo c a N=Lo c b N:=by
 unfold Lo
 rw [qAj,qAj,qAk,qAk]
 have hw:=h.w
 unfold Hk.ws at hw
 rw [hw]
theorem Z6.seqR {c:B0} {a b:Hk} (h:Z6 a b):∀ {is:List (List Int)},seqR c a is=seqR c b is
 | []=>rfl
 | i::is=>by simp only [Lg.seqR]; rw [h.nets i,h.next]
theorem Z6.seqS {c:B0} {a b:Hk} (h:Z6 a b):∀ {is:List (List Int)},Z6 (seqS c a is) (seqS c b is)
 | []=>h
 | i::is=>by simp only [Lg.seqS]; rw [h.nets i,h.next]; exact .refl _
theorem q6G {a b:List (Sl Int)} (h:a.map (·.l)=b.map (·.l)) (i:Nat):(a.getD i Sl.z).l=(b.getD i Sl.z).l:=by
 have:=congrArg (fun x=>x.getD i []) h
 simp only [List.getD_eq_getElem?_getD,List.getElem?_map] at this ⊢
 cases ha:a[i]? <;> cases hb:b[i]? <;> simp [ha,hb] at this ⊢ <;> first | exact this | (simp [Sl.z,this])
theorem Xt {α β:Type} {f:α→β} {a b:List α} (h:a.map f=b.map f):a.length=b.length:=by
 have:=congrArg List.length h
 simpa using this
theorem q6H {a b:List (Sl (Sl Int))} (h:(a.map fun w=>w.l.map (·.l))=b.map fun w=>w.l.map (·.l)) (i:Nat):(a.getD i Sl.zz).l.map (·.l)=(b.getD i Sl.zz).l.map (·.l):=by
 have:=congrArg (fun x=>x.getD i []) h
 simp only [List.getD_eq_getElem?_getD,List.getElem?_map] at this ⊢
 cases ha:a[i]? <;> cases hb:b[i]? <;> simp [ha,hb] at this ⊢ <;> first | exact this | (simp [Sl.zz,this])
theorem qJF {a b:List Int} (h:a=b):q3z (·=·) a b:=by subst h; exact ⟨rfl,fun _ _=>rfl⟩
theorem Z6.rel {a b:Hk} (h:Z6 a b):q40 (·=·) a b:=by
 have hw:=h.w
 have hr:=h.r
 unfold Hk.ws at hw
 unfold Hk.rd at hr
 refine ⟨qJF h.d,Xt hr,fun i _=>qJF (q6G hr i),Xt hw,fun i _=>?_⟩
 have:=q6H hw i
 exact ⟨Xt this,fun j _=>qJF (q6G this j)⟩
theorem q8H {a b:List (Sl Int)} (h:a.map (·.l)=b.map (·.l)) {r:Sl Int} (hr:r ∈ a):∃ q ∈ b,q.l=r.l:=by
 have:r.l ∈ b.map (·.l):=by rw [← h]; exact List.mem_map.2 ⟨r,hr,rfl⟩
 obtain ⟨q,hq,e⟩:=List.mem_map.1 this
 exact ⟨q,hq,e⟩
theorem Z6.ok {c:B0} {a b:Hk} (h:Z6 a b) (H:Ei c b):Ei c a:=by
 have hw:=h.w
 have hr:=h.r
 unfold Hk.ws at hw
 unfold Hk.rd at hr
 refine ⟨by rw [h.d,H.d],(Xt hw).trans H.w,(Xt hr).trans H.r,fun i hi=>(Xt (q6H hw i)).trans (H.wl i hi),fun i hi w hw'=>?_,fun i hi=>by rw [q6G hr i]; exact H.rl i hi,by rw [h.d]; exact H.vd,fun w hw' r hr'=>?_,fun r hr'=>?_⟩
 ·obtain ⟨q,hq,e⟩:=q8H (q6H hw i) hw'
  rw [← e]; exact H.wr i hi q hq
 ·have:w.l.map (·.l) ∈ b.words.l.map fun w=>w.l.map (·.l):=by rw [← hw]; exact List.mem_map.2 ⟨w,hw',rfl⟩
  obtain ⟨W,hW,e⟩:=List.mem_map.1 this
  obtain ⟨q,hq,e2⟩:=q8H e.symm hr'
  rw [← e2]; exact H.vw W hW q hq
 ·obtain ⟨q,hq,e⟩:=q8H hr hr'
  rw [← e]; exact H.vr q hq
def qJG (c:B0) (is:List (List Int)):Prop:=∀ i ∈ is,i.length=(Bg c).length∧∀ v ∈ i,V4 v
theorem q9X {c:B0} (h:MOk c):∀ {is:List (List Int)} {s:Hk},Ei c s→qJG c is→Ei c (seqS c s is)
 | [],_,H,_=>H
 | i::is,s,H,hi=>by
  simp only [seqS]
  exact q9X h (q7J h H (q7K H (hi i List.mem_cons_self).2)) fun x hx=>hi x (List.mem_cons_of_mem _ hx)
theorem qC8 {c:B0} (h:MOk c) (M:M2 c):∀ {is:List (List Int)} {s u:Hk},Ei c s→Ei c u→q40 Og s u→qJG c is→q40 Og (seqS c s is) (seqS c u is)
 | [],_,_,_,_,R,_=>R
 | i::is,s,u,H,K,R,hi=>by
  simp only [seqS]
  have h1:=hi i List.mem_cons_self
  have a1:=q7K H h1.2
  have a2:=q7K K h1.2
  exact qC8 h M (q7J h H a1) (q7J h K a2) (qFY h M H K R a1 a2 (qFX h H K R h1.1 h1.1 fun _=>.refl _)) fun x hx=>hi x (List.mem_cons_of_mem _ hx)
end Go.Lg
namespace Go.Lg
open Go
section
variable {P:Program} {Γ:Tables} {Q:AX→St→Prop} {s:St}
/- probecard/cycles.Run (function 24) -/
abbrev q5P:IC:=.gh (.seq (.reg [od 29 (.bin .lss (tm 28) (tm 27))] [kp [2,3,4,7,26,27,28,29] [7]]) (.seq (.cond (tm 29) .skip (.exit 0)) (.seq (.block 1 (.seq (.reg [od 30 (ia 1 26 28),od 31 (ld 1 30),om 10 31] [kp [2,3,4,7,10,26,
 27,28] [7]]) (.seq (.reg [od 32 (lG 4 3),od 33 (lG 3 4),om 34 10,od 35 (.call 82 [(tm 32),(tm 33),(tm 34)]),om 11 35] [kp [2,3,4,7,11,26,27,28] [7]]) (.seq (.reg [om 36 11,od 37 (.bin .neq (tm 36) (ki 0))] [kp [2,3,
 4,7,11,26,27,28,37] [7]]) (.cond (tm 37) (.seq (.reg [od 38 (.build [(1,kN),(1,kN),(1,kN)]),om 39 11,od 6 (.mv kN),on (.store 3 (tm 7) (tm 38)),om 8 39] [kp [6,7,8] [7,43]]) .ret) .skip))))) (.reg [od 40 (.bin
 .add (tm 28) (ki 1)),om 28 40] [kp [2,3,4,7,26,27,28] [7]])))) [kp [2,3,4,7,26,27,28] [7]]
def Ui:IC:=.loop q5P
abbrev q5Q:IC:=.gh (.seq (.reg [od 49 (.bin .lss (tm 48) (tm 47))] [kp [3,7,12,13,46,47,48,49] [7,13,43]]) (.seq (.cond (tm 49) .skip (.exit 2)) (.seq (.block 3 (.seq (.reg [om 50 48,od 51 (ia 1 46 48),od 52 (ld 1 51),om 14 50,om 15
 52] [kp [3,7,12,13,14,15,46,47,48] [7,13,43]]) (.reg [om 54 12,om 55 14,od 56 (lG 4 3),od 57 (lG 3 13),om 58 15,od 59 (.call 25 [(tm 56),(tm 57),(tm 58)]),om 53 59,od 60 (ex 53 0),od 61 (ex 53 1),od 62 (ex 53
 2),od 63 (ex 53 3),on (.store 3 (tm 13) (tm 60)),od 64 (ia 2 54 55),on (.store 2 (tm 64) (tm 61))] [kp [3,7,12,13,46,47,48] [7,13,43]]))) (.reg [od 65 (.bin .add (tm 48) (ki 1)),om 48 65] [kp [3,7,12,13,46,47,48]
 [7,13,43]])))) [kp [3,7,12,13,46,47,48] [7,13,43]]
def Uj:IC:=.loop q5Q
abbrev q5R:IC:=(.seq (.reg [od 3 (.box true (tm 0)),od 4 (.box true (tm 1)),od 6 (.mv kN),od 7 (.alloc false [(.slice none 0 0),(.slice none 0 0),(.slice none 0 0)]),od 8 (.mv (ki 0))] [kp [2,3,4,7] [7]]) (.seq (.seq (.reg [om 16 2,od
 17 (le 0 16),od 18 (.bin .gtr (tm 17) (ki 1024))] [kp [2,3,4,7,18] [7]]) (.cond (tm 18) (.seq (.reg [od 19 (.build [(1,kN),(1,kN),(1,kN)]),od 6 (.mv kN),on (.store 3 (tm 7) (tm 19)),od 8 (.mv (ki 3))] [kp [6,7,8] [7,
 43]]) .ret) .skip)) (.seq (.seq (.reg [od 20 (lG 4 3),od 21 (.call 81 [(tm 20)]),od 22 (.fld 0 1 false (tm 21)),od 23 (.bsl true 55 1 [(tm 22)]),om 24 2,od 25 (.bsl true 57 1 [(tm 23),(tm 24)]),od 26 (.call 80 [(tm 25)]),od
 27 (le 0 26),od 28 (.mv (ki 0))] [kp [2,3,4,7,26,27,28] [7]]) (.block 0 Ui)) (.seq (.reg [om 41 2,od 42 (le 0 41),od 43 (.mkE 66 2 [(.slice none 0 0),(.slice none 0 0)] (tm 42) (tm 42)),om 12 43] [kp [2,3,4,
 7,12] [7,43]]) (.seq (.reg [od 44 (lG 3 4),od 45 (.call 83 [(tm 44)]),od 13 (.alloc false [(.slice none 0 0),(.slice none 0 0),(.slice none 0 0)]),on (.store 3 (tm 13) (tm 45))] [kp [2,3,7,12,13] [7,13,43]]) (.seq
 (.seq (.reg [om 46 2,od 47 (le 0 46),od 48 (.mv (ki 0))] [kp [3,7,12,13,46,47,48] [7,13,43]]) (.block 2 Uj)) (.seq (.reg [om 66 12,od 67 (.ldR 13 3 true (tm 13)),om 6 66,on (.stR 7 3 (tm 7) (tm 67)),od 8
 (.mv (ki 0))] [kp [6,7,8] [7,43]]) .ret)))))))
theorem q0Y (h:∀ K:St→Prop,K=run P Γ Ui Q→run P Γ q5P (Am K Q) s):run P Γ Ui Q s:=Ae h
theorem q0Z (h:∀ K:St→Prop,K=run P Γ Uj Q→run P Γ q5Q (Am K Q) s):run P Γ Uj Q s:=Ae h
def q5S:List RV:=[.tmp 6,.cell 7 3 true,.tmp 8]
/- probecard/cycles.copied (function 83) -/
abbrev q1W:IC:=.gh (.seq (.reg [od 25 (.bin .lss (tm 24) (tm 23))] [kp [1,2,3,6,16,17,18,22,23,24,25] [2,3,32,39,54]]) (.seq (.cond (tm 25) .skip (.exit 2)) (.seq (.block 3 (.seq (.reg [od 26 (ia 1 22 24),od 27 (ld 1 26),om 8 27]
 [kp [1,2,3,6,8,16,17,18,22,23,24] [2,3,32,39,54]]) (.reg [om 28 6,om 29 8,od 30 (.call 108 [(tm 29)]),od 31 (.bsl true 55 1 [(tm 30)]),od 32 (.app false 55 1 (tm 28) (tm 31)),om 6 32] [kp [1,2,3,6,16,17,18,
 22,23,24] [2,3,32,39,54]]))) (.reg [od 33 (.bin .add (tm 24) (ki 1)),om 24 33] [kp [1,2,3,6,16,17,18,22,23,24] [2,3,32,39,54]])))) [kp [1,2,3,6,16,17,18,22,23,24] [2,3,32,39,54]]
def M4:IC:=.loop q1W
abbrev q1X:IC:=.gh (.seq (.reg [od 19 (.bin .lss (tm 18) (tm 17))] [kp [1,2,3,16,17,18,19] [2,3,39,54]]) (.seq (.cond (tm 19) .skip (.exit 0)) (.seq (.block 1 (.seq (.reg [od 20 (ia 1 16 18),od 21 (ld 1 20),om 5 21] [kp [1,2,3,5,
 16,17,18] [2,3,39,54]]) (.seq (.reg [od 6 (.mv kN)] [.nl 6 32 55 1,kp [1,2,3,5,6,16,17,18] [2,3,32,39,54]]) (.seq (.seq (.reg [om 22 5,od 23 (le 0 22),od 24 (.mv (ki 0))] [kp [1,2,3,6,16,17,18,22,23,24]
 [2,3,32,39,54]]) (.gh (.block 2 M4) [.frz 32])) (.reg [od 34 (fa 1 3),od 35 (.ldR 3 1 false (tm 34)),om 36 6,od 37 (.callT 94 [(tm 36)]),od 38 (.bsl true 57 1 [(tm 37)]),od 39 (.app false 57 1 (tm 35) (tm
 38)),od 40 (fa 1 3),on (.stR 3 1 (tm 40) (tm 39))] [kp [1,2,3,16,17,18] [2,3,39,54]]))))) (.reg [od 41 (.bin .add (tm 18) (ki 1)),om 18 41] [kp [1,2,3,16,17,18] [2,3,39,54]])))) [kp [1,2,3,16,17,18] [2,3,
 39,54]]
def M5:IC:=.loop q1X
abbrev q1Y:IC:=.gh (.seq (.reg [od 46 (.bin .lss (tm 45) (tm 44))] [kp [2,3,43,44,45,46] [2,3,39,54]]) (.seq (.cond (tm 46) .skip (.exit 4)) (.seq (.block 5 (.seq (.reg [od 47 (ia 1 43 45),od 48 (ld 1 47),om 10 48] [kp [2,3,10,43,
 44,45] [2,3,39,54]]) (.reg [od 49 (fa 2 3),od 50 (.ldR 3 1 false (tm 49)),om 51 10,od 52 (.callT 108 [(tm 51)]),od 53 (.bsl true 55 1 [(tm 52)]),od 54 (.app false 55 1 (tm 50) (tm 53)),od 55 (fa 2 3),on (.stR 3 1 (tm 55)
 (tm 54))] [kp [2,3,43,44,45] [2,3,39,54]]))) (.reg [od 56 (.bin .add (tm 45) (ki 1)),om 45 56] [kp [2,3,43,44,45] [2,3,39,54]])))) [kp [2,3,43,44,45] [2,3,39,54]]
def M6:IC:=.loop q1Y
abbrev q1Z:IC:=(.seq (.reg [od 1 (.box true (tm 0)),od 2 (.alloc false [(.slice none 0 0),(.slice none 0 0),(.slice none 0 0)])] [kp [1,2] [2,39,54]]) (.seq (.reg [od 11 (fa 0 1),od 12 (ld 1 11),od 13 (.call 108 [(tm 12)]),od 14 (.build
 [(1,(tm 13)),(1,kN),(1,kN)]),od 3 (.alloc false [(.slice none 0 0),(.slice none 0 0),(.slice none 0 0)]),on (.store 3 (tm 3) (tm 14))] [.nlb 3 1 39 57 1,.nlb 3 2 54 55 1,kp [1,2,3] [2,3,39,54]]) (.seq (.seq (.reg
 [od 15 (fa 1 1),od 16 (ld 1 15),od 17 (le 0 16),od 18 (.mv (ki 0))] [kp [1,2,3,16,17,18] [2,3,39,54]]) (.gh (.block 0 M5) [.frz 39])) (.seq (.seq (.reg [od 42 (fa 2 1),od 43 (ld 1 42),od 44 (le 0 43),od
 45 (.mv (ki 0))] [kp [2,3,43,44,45] [2,3,39,54]]) (.gh (.block 4 M6) [.frz 54])) (.seq (.reg [od 57 (fa 1 3),od 58 (.ldR 3 1 false (tm 57)),od 59 (.callT 93 [(tm 58)]),od 60 (fa 2 3),od 61 (.ldR 3 1 false
 (tm 60)),od 62 (.callT 94 [(tm 61)]),od 63 (fa 1 3),on (.stR 3 1 (tm 63) (tm 59)),od 64 (fa 2 3),on (.stR 3 1 (tm 64) (tm 62))] [kp [2,3] [2,3,39,54]]) (.seq (.reg [od 65 (lG 3 3),on (.store 3 (tm 2) (tm 65))] [kp [2] [2,
 39,54]]) .ret))))))
theorem Ve (h:∀ K:St→Prop,K=run P Γ M4 Q→run P Γ q1W (Am K Q) s):run P Γ M4 Q s:=Ae h
theorem Vf (h:∀ K:St→Prop,K=run P Γ M5 Q→run P Γ q1X (Am K Q) s):run P Γ M5 Q s:=Ae h
theorem Vg (h:∀ K:St→Prop,K=run P Γ M6 Q→run P Γ q1Y (Am K Q) s):run P Γ M6 Q s:=Ae h
def q1a:List RV:=[.cell 2 3 true]
/- probecard/cycles.list (function 108) -/
abbrev q45:IC:=(.seq (.reg [od 2 (.mv kN)] [kp [0] []]) (.seq (.reg [om 3 0,od 4 (.call 90 [(tm 3)]),od 5 (.call 89 [(tm 4)]),om 2 5] [kp [2] []]) .ret))
def q46:List RV:=[.tmp 2]
/- probecard/cycles.check (function 67) -/
abbrev q2d:IC:=(.seq (.reg [od 2 (.box true (tm 0)),od 4 (.mv (ki 0))] [kp [1,2] []]) (.seq (.reg [od 7 (lG 4 2),od 8 (lG 4 2),od 9 (.call 81 [(tm 8)]),od 10 (.call 135 [(tm 7),(tm 9)]),om 5 10] [kp [1,2,5] []]) (.seq (.reg [od 11 (lG 4
 2),od 12 (.call 18 [(tm 11)]),od 13 (le 0 12),om 6 13] [kp [1,2,5,6] []]) (.seq (.block 0 (.seq (.reg [om 15 5,od 16 (.bin .neq (tm 15) (ki 0)),om 14 16] [kp [1,2,5,6,14] []]) (.cond (tm 14) (.seq (.reg [om 17 5,om 4
 17] [kp [4] []]) .ret) (.seq (.reg [om 19 1,od 20 (.bin .lss (tm 19) (ki 1)),om 18 20] [kp [1,2,6,18] []]) (.cond (tm 18) (.seq (.reg [od 4 (.mv (ki 1))] [kp [4] []]) .ret) (.seq (.reg [om 22 1,od 23 (.bin .gtr (tm 22) (ki
 1024)),om 24 23,oF 25 (.mv (tm 1)) 24,oF 26 (fa 0 2) 24,oF 27 (ld 1 26) 24,oF 28 (le 0 27) 24,oF 29 (.bin .mul (tm 25) (tm 28)) 24,oF 30 (.mv (tm 6)) 24,oF 31 (.bin .add (tm 29) (tm 30)) 24,oF 32 (.bin .gtr (tm 31) (ki
 16384)) 24,od 33 (.pick (tm 24) kT (tm 32)),om 34 33,oF 35 (.mv (tm 1)) 34,oF 36 (fa 3 2) 34,oF 37 (ld 1 36) 34,oF 38 (le 0 37) 34,oF 39 (.mv (tm 6)) 34,oF 40 (.bin .add (tm 38) (tm 39)) 34,oF 41 (.bin .mul (tm 35) (tm
 40)) 34,oF 42 (.bin .gtr (tm 41) (ki 16384)) 34,od 43 (.pick (tm 34) kT (tm 42)),om 21 43] [kp [21] []]) (.cond (tm 21) (.seq (.reg [od 4 (.mv (ki 3))] [kp [4] []]) .ret) .skip))))))) (.seq (.reg [od 4 (.mv (ki 0))] [kp [4] []])
 .ret)))))
def q2e:List RV:=[.tmp 4]
/- probecard/cycles.name (function 71) -/
abbrev q47:IC:=(.seq (.reg [od 4 (.mv (.const (sV [])))] [kp [0,1] []]) (.seq (.reg [om 5 0,od 6 (.call 21 [(tm 5)]),od 7 (.bin .add (tm 6) (.const (sV [46]))),om 8 1,od 9 (.call 21 [(tm 8)]),od 10 (.bin .add (tm 7) (tm 9)),om 4 10] [kp
 [4] []]) .ret))
def q48:List RV:=[.tmp 4]
/- probecard/cycles.Unroll (function 17) -/
abbrev q1b:IC:=.gh (.seq (.reg [od 47 (.bin .lss (tm 46) (tm 45))] [kp [1,2,4,7,8,9,10,11,12,13,39,40,44,45,46,47] [4,9,38,89,141,96009,96014]]) (.seq (.cond (tm 47) .skip (.exit 2)) (.seq (.block 3 (.seq (.reg [om 48 46,od
 49 (ia 4 44 46),od 50 (lG 4 49),od 15 (.alloc false [(.int .u8 0),(.slice none 0 0),(.int .i64 0),(.int .i64 0)]),om 14 48,on (.store 4 (tm 15) (tm 50))] [kp [1,2,4,7,8,9,10,11,12,13,14,15,39,40,44,45,46] [4,
 9,15,38,89,141,96009,96014]]) (.seq (.reg [od 51 (fa 0 15),od 52 (.ldR 15 1 false (tm 51)),om 53 11,om 54 13,od 55 (fa 1 15),od 56 (.ldR 15 1 false (tm 55)),od 57 (.callv (tm 53) [(tm 54),(tm 56)]),od 58 (.build [(1,
 (tm 52)),(1,(tm 57)),(1,(ki 0)),(1,(ki 0))]),od 16 (.alloc false [(.int .u8 0),(.slice none 0 0),(.int .i64 0),(.int .i64 0)]),on (.stR 16 4 (tm 16) (tm 58))] [kp [1,2,4,7,8,9,10,11,12,13,14,15,16,39,40,
 44,45,46] [4,9,15,16,38,89,141,96009,96014]]) (.seq (.seq (.reg [od 59 (fa 0 15),od 60 (ld 1 59),od 61 (.bin .eql (tm 60) (ku 14)),om 62 61,oT 63 (.mv (tm 13)) 62,oT 64 (.bin .eql (tm 63) (ki 0)) 62,od 65 (.pick (tm
 62) (tm 64) kF)] [kp [1,2,4,7,8,9,10,11,12,13,14,15,16,39,40,44,45,46,65] [4,9,15,16,38,89,141,96009,96014]]) (.cond (tm 65) (.reg [od 66 (.build [(1,(ku 0)),(1,kN),(1,(ki 0)),(1,(ki 0))]),on
 (.store 4 (tm 16) (tm 66))] [kp [1,2,4,7,8,9,10,11,12,13,14,16,39,40,44,45,46] [4,9,16,38,89,141,96009,96014]]) (.seq (.reg [od 67 (fa 0 15),od 68 (ld 1 67),od 69 (.bin .eql (tm 68) (ku 14))] [kp [1,2,4,
 7,8,9,10,11,12,13,14,15,16,39,40,44,45,46,69] [4,9,15,16,38,89,141,96009,96014]]) (.cond (tm 69) (.reg [om 70 11,om 71 13,od 72 (.bin .sub (tm 71) (ki 1)),od 73 (fa 1 15),od 74 (ld 1 73),od 75 (.callv
 (tm 70) [(tm 72),(tm 74)]),od 76 (.build [(1,(ku 3)),(1,(tm 75)),(1,(ki 0)),(1,(ki 0))]),on (.store 4 (tm 16) (tm 76))] [kp [1,2,4,7,8,9,10,11,12,13,14,16,39,40,44,45,46] [4,9,16,38,89,141,96009,
 96014]]) .skip)))) (.seq (.reg [om 77 12,om 78 13,om 79 12,om 80 13,od 81 (ia 1 79 80),od 82 (.ldR 38 1 false (tm 81)),om 83 13,od 84 (.ldT 1 false (tm 7)),od 85 (.bin .mul (tm 83) (tm 84)),om 86 14,od 87 (.bin .add (tm
 85) (tm 86)),od 88 (.bsl true 3 1 [(tm 87)]),od 89 (.app false 3 1 (tm 82) (tm 88)),od 90 (ia 1 77 78),on (.stR 38 1 (tm 90) (tm 89))] [kp [1,2,4,7,8,9,10,11,12,13,14,16,39,40,44,45,46] [4,9,16,38,89,141,
 96009,96014]]) (.reg [om 91 10,od 92 (lG 4 16),om 93 13,om 94 14,od 95 (.callT 71 [(tm 93),(tm 94)]),od 96 (.hcallv (tm 91) [(tm 92),(tm 95)] [9,141,96009,96014] 196000)] [.ren 196009 96009,.ren 196014 96014,kp [1,2,
 4,7,8,9,10,11,12,13,39,40,44,45,46] [4,9,38,89,141,96009,96014]])))))) (.reg [od 97 (.bin .add (tm 46) (ki 1)),om 46 97] [kp [1,2,4,7,8,9,10,11,12,13,39,40,44,45,46] [4,9,38,89,141,96009,
 96014]])))) [kp [1,2,4,7,8,9,10,11,12,13,39,40,44,45,46] [4,9,38,89,141,96009,96014]]
def M7:IC:=.loop q1b
abbrev q1c:IC:=.gh (.seq (.reg [od 41 (.bin .lss (tm 40) (tm 39))] [kp [1,2,4,7,8,9,10,11,12,39,40,41] [4,9,38,89,141,96009,96014]]) (.seq (.cond (tm 41) .skip (.exit 0)) (.seq (.block 1 (.seq (.reg [om 42 40,om 13 42] [.nlbS 38
 13 89 3 1,kp [1,2,4,7,8,9,10,11,12,13,39,40] [4,9,38,89,141,96009,96014]]) (.seq (.seq (.reg [od 43 (fa 0 2),od 44 (ld 1 43),od 45 (le 0 44),od 46 (.mv (ki 0))] [kp [1,2,4,7,8,9,10,11,12,13,39,40,
 44,45,46] [4,9,38,89,141,96009,96014]]) (.gh (.block 2 M7) [.frz 89])) (.reg [om 98 12,om 99 13,om 100 12,om 101 13,od 102 (ia 1 100 101),od 103 (ld 1 102),od 104 (.call 70 [(tm 103)]),od 105 (ia 1 98
 99),on (.store 1 (tm 105) (tm 104))] [kp [1,2,4,7,8,9,10,11,12,39,40] [4,9,38,89,141,96009,96014]])))) (.reg [od 106 (.bin .add (tm 40) (ki 1)),om 40 106] [kp [1,2,4,7,8,9,10,11,12,39,40] [4,9,38,89,
 141,96009,96014]])))) [kp [1,2,4,7,8,9,10,11,12,39,40] [4,9,38,89,141,96009,96014]]
def M8:IC:=.loop q1c
abbrev q1d:IC:=.gh (.seq (.reg [od 110 (.bin .lss (tm 109) (tm 108))] [kp [1,2,4,7,8,9,10,11,12,107,108,109,110] [4,9,38,89,141,96009,96014]]) (.seq (.cond (tm 110) .skip (.exit 4)) (.seq (.block 5 (.seq (.reg [od 111 (ia 1 107
 109),od 112 (ld 1 111),om 18 112] [kp [1,2,4,7,8,9,10,11,12,18,107,108,109] [4,9,38,89,141,96009,96014]]) (.reg [om 113 10,om 114 11,om 115 1,od 116 (.bin .sub (tm 115) (ki 1)),od 117 (fa 0 2),od 118 (ld 1
 117),om 119 18,od 120 (ia 4 118 119),od 121 (fa 1 120),od 122 (ld 1 121),od 123 (.callv (tm 114) [(tm 116),(tm 122)]),od 124 (.build [(1,(ku 3)),(1,(tm 123)),(1,(ki 0)),(1,(ki 0))]),om 125 1,om 126 18,od 127 (.call
 71 [(tm 125),(tm 126)]),od 128 (.hcallv (tm 113) [(tm 124),(tm 127)] [9,141,96009,96014] 228000)] [.ren 228009 96009,.ren 228014 96014,kp [1,2,4,7,8,9,10,11,12,107,108,109] [4,9,38,89,141,96009,96014]])))
 (.reg [od 129 (.bin .add (tm 109) (ki 1)),om 109 129] [kp [1,2,4,7,8,9,10,11,12,107,108,109] [4,9,38,89,141,96009,96014]])))) [kp [1,2,4,7,8,9,10,11,12,107,108,109] [4,9,38,89,141,96009,96014]]
def M9:IC:=.loop q1d
abbrev q1e:IC:=.gh (.seq (.reg [od 146 (.bin .lss (tm 145) (tm 144))] [kp [1,2,4,7,8,9,11,12,19,130,131,143,144,145,146] [4,9,38,89,141,96009,96014]]) (.seq (.cond (tm 146) .skip (.exit 8)) (.seq (.block 9 (.seq (.reg [om 147
 145,od 148 (ia 1 143 145),od 149 (.ldT 1 false (tm 148)),om 20 147,om 21 149] [kp [1,2,4,7,8,9,11,12,19,20,21,130,131,143,144,145] [4,9,38,89,141,96009,96014]]) (.seq (.reg [om 150 19,od 151 (.bin .add (tm
 150) (ki 1)),od 152 (ld 1 7),od 153 (.bin .mul (tm 151) (tm 152)),om 154 21,od 155 (.bin .add (tm 153) (tm 154)),om 22 155] [kp [1,2,4,7,8,9,11,12,19,20,22,130,131,143,144,145] [4,9,38,89,141,96009,
 96014]]) (.seq (.seq (.reg [om 156 19,om 157 1,od 158 (.bin .sub (tm 157) (ki 1)),od 159 (.bin .eql (tm 156) (tm 158))] [kp [1,2,4,7,8,9,11,12,19,20,22,130,131,143,144,145,159] [4,9,38,89,141,96009,96014]])
 (.cond (tm 159) (.reg [om 160 1,od 161 (.ldT 1 false (tm 7)),od 162 (.bin .mul (tm 160) (tm 161)),om 163 20,od 164 (.bin .add (tm 162) (tm 163)),om 22 164] [kp [1,2,4,7,8,9,11,12,19,22,130,131,143,144,145] [4,9,
 38,89,141,96009,96014]]) .skip)) (.reg [od 165 (fa 3 9),od 166 (ld 1 165),om 167 22,od 168 (.bsl true 3 1 [(tm 167)]),oz 169 (.app false 3 1 (tm 166) (tm 168)) 141,od 170 (fa 3 9),on (.store 1 (tm 170) (tm 169))] [kp [1,
 2,4,7,8,9,11,12,19,130,131,143,144,145] [4,9,38,89,141,96009,96014]]))))) (.reg [od 171 (.bin .add (tm 145) (ki 1)),om 145 171] [kp [1,2,4,7,8,9,11,12,19,130,131,143,144,145] [4,9,38,89,141,
 96009,96014]])))) [kp [1,2,4,7,8,9,11,12,19,130,131,143,144,145] [4,9,38,89,141,96009,96014]]
def Mc:IC:=.loop q1e
abbrev q1f:IC:=.gh (.seq (.reg [od 132 (.bin .lss (tm 131) (tm 130))] [kp [1,2,4,7,8,9,11,12,130,131,132] [4,9,38,89,141,96009,96014]]) (.seq (.cond (tm 132) .skip (.exit 6)) (.seq (.block 7 (.seq (.reg [om 133 131,om 19 133] [kp
 [1,2,4,7,8,9,11,12,19,130,131] [4,9,38,89,141,96009,96014]]) (.seq (.reg [od 134 (fa 3 9),od 135 (.ldR 9 1 false (tm 134)),om 136 11,om 137 19,od 138 (fa 3 2),od 139 (.ldT 1 false (tm 138)),od 140 (.callv (tm
 136) [(tm 137),(tm 139)]),od 141 (.app false 3 1 (tm 135) (tm 140)),od 142 (fa 3 9),on (.stR 9 1 (tm 142) (tm 141))] [kp [1,2,4,7,8,9,11,12,19,130,131] [4,9,38,89,141,96009,96014]]) (.seq (.reg [om 143 8,od 144
 (le 0 143),od 145 (.mv (ki 0))] [kp [1,2,4,7,8,9,11,12,19,130,131,143,144,145] [4,9,38,89,141,96009,96014]]) (.block 8 Mc))))) (.reg [od 172 (.bin .add (tm 131) (ki 1)),om 131 172] [kp [1,2,4,
 7,8,9,11,12,130,131] [4,9,38,89,141,96009,96014]])))) [kp [1,2,4,7,8,9,11,12,130,131] [4,9,38,89,141,96009,96014]]
def Md:IC:=.loop q1f
abbrev q1g:IC:=(.seq (.reg [od 2 (.box true (tm 0)),od 4 (.alloc false [(.slice none 0 0),(.slice none 0 0),(.slice none 0 0),(.slice none 0 0),(.slice none 0 0)]),od 5 (.mv (ki 0))] [kp [1,2,4] [4,38,89,141,96009,96014]]) (.seq
 (.seq (.reg [od 23 (lG 4 2),om 24 1,od 25 (.call 67 [(tm 23),(tm 24)]),om 6 25] [kp [1,2,4,6] [4,38,89,141,96009,96014]]) (.seq (.reg [om 26 6,od 27 (.bin .neq (tm 26) (ki 0))] [kp [1,2,4,6,27] [4,38,89,141,
 96009,96014]]) (.cond (tm 27) (.seq (.reg [od 28 (.build [(4,(.const (.agg #[(.slice none 0 0),(.slice none 0 0),(.slice none 0 0),(.slice none 0 0)]))),(1,kN)]),om 29 6,on (.store 5 (tm 4) (tm 28)),om 5 29] [kp [4,5]
 [4,38,89,141,96009,96014]]) .ret) .skip))) (.seq (.reg [od 30 (fa 0 2),od 31 (.ldT 1 false (tm 30)),od 32 (le 0 31),od 33 (.ldT 4 true (tm 2)),od 34 (.callT 18 [(tm 33)]),od 7 (.alloc false [(.int .i64 0)]),on (.stR 7 1
 (tm 7) (tm 32)),om 8 34] [.frz 7,kp [1,2,4,7,8] [4,38,89,141,96009,96014]]) (.seq (.reg [od 9 (.alloc false [(.slice none 0 0),(.slice none 0 0),(.slice none 0 0),(.slice none 0 0)])] [.nlb 9 0 96009 45 4,.nlb 9 1
 96014 9 1,kp [1,2,4,7,8,9] [4,9,38,89,141,96009,96014]]) (.seq (.reg [od 35 (.mkf 68 [(tm 9)]),om 10 35] [kp [1,2,4,7,8,9,10] [4,9,38,89,141,96009,96014]]) (.seq (.reg [od 36 (.mkf 69 [(tm 7)]),om 11 36]
 [kp [1,2,4,7,8,9,10,11] [4,9,38,89,141,96009,96014]]) (.seq (.reg [om 37 1,od 38 (.mkB 31 [(.slice none 0 0)] (tm 37) (tm 37)),om 12 38] [kp [1,2,4,7,8,9,10,11,12] [4,9,38,89,141,96009,96014]]) (.seq
 (.seq (.reg [om 39 1,od 40 (.mv (ki 0))] [kp [1,2,4,7,8,9,10,11,12,39,40] [4,9,38,89,141,96009,96014]]) (.block 0 M8)) (.seq (.seq (.reg [om 107 8,od 108 (le 0 107),od 109 (.mv (ki 0))] [kp [1,2,
 4,7,8,9,10,11,12,107,108,109] [4,9,38,89,141,96009,96014]]) (.block 4 M9)) (.seq (.seq (.reg [om 130 1,od 131 (.mv (ki 0))] [.nlb 9 3 141 3 1,kp [1,2,4,7,8,9,11,12,130,131] [4,9,38,89,
 141,96009,96014]]) (.gh (.block 6 Md) [.frz 96009,.frz 96014,.frz 141])) (.seq (.reg [od 173 (fa 0 9),od 174 (.ldR 9 1 false (tm 173)),od 175 (.callT 72 [(tm 174)]),od 176 (fa 1 9),od 177 (.ldR 9 1 false (tm
 176)),od 178 (.callT 73 [(tm 177)]),od 179 (fa 3 9),od 180 (.ldR 9 1 false (tm 179)),od 181 (.callT 70 [(tm 180)]),od 182 (fa 0 9),on (.stR 9 1 (tm 182) (tm 175)),od 183 (fa 1 9),on (.stR 9 1 (tm 183) (tm 178)),od 184 (fa
 3 9),on (.stR 9 1 (tm 184) (tm 181))] [kp [4,9,12] [4,9,38,89,141,96009,96014]]) (.seq (.reg [od 185 (lG 4 9),om 186 12,od 187 (.build [(4,(tm 185)),(1,(tm 186))]),on (.store 5 (tm 4) (tm 187)),od 5 (.mv (ki 0))]
 [kp [4,5] [4,38,89,141,96009,96014]]) .ret))))))))))))
theorem Vh (h:∀ K:St→Prop,K=run P Γ M7 Q→run P Γ q1b (Am K Q) s):run P Γ M7 Q s:=Ae h
theorem Vi (h:∀ K:St→Prop,K=run P Γ M8 Q→run P Γ q1c (Am K Q) s):run P Γ M8 Q s:=Ae h
theorem Vj (h:∀ K:St→Prop,K=run P Γ M9 Q→run P Γ q1d (Am K Q) s):run P Γ M9 Q s:=Ae h
theorem Vk (h:∀ K:St→Prop,K=run P Γ Mc Q→run P Γ q1e (Am K Q) s):run P Γ Mc Q s:=Ae h
theorem Vl (h:∀ K:St→Prop,K=run P Γ Md Q→run P Γ q1f (Am K Q) s):run P Γ Md Q s:=Ae h
def q1h:List RV:=[.cell 4 5 true,.tmp 5]
/- probecard/cycles.Unroll$1 (function 68) -/
abbrev Z7:IC:=(.seq (.reg [od 3 (.box true (tm 0))] [kp [1,2,3] [9,14,1000000,1000001,1000002,1000003]]) (.reg [od 5 (fa 0 2),od 6 (.ldR 1000000 1 false (tm 5)),od 7 (.ldT 4 true (tm 3)),od 8 (.bsl true 45 4 [(tm 7)]),od 9 (.app false
 45 4 (tm 6) (tm 8)),od 10 (fa 1 2),od 11 (.ldR 1000000 1 false (tm 10)),om 12 1,od 13 (.bsl true 9 1 [(tm 12)]),od 14 (.app false 9 1 (tm 11) (tm 13)),od 15 (fa 0 2),on (.stR 1000000 1 (tm 15) (tm 9)),od 16 (fa 1 2),on
 (.stR 1000000 1 (tm 16) (tm 14))] [kp [] [9,14,1000000,1000001,1000002,1000003]]))
def Z8:List RV:=[]
/- probecard/cycles.Unroll$2 (function 69) -/
abbrev Z9:IC:=.gh (.seq (.reg [od 12 (.bin .lss (tm 11) (tm 10))] [kp [0,2,6,9,10,11,12] [22]]) (.seq (.cond (tm 12) .skip (.exit 0)) (.seq (.block 1 (.seq (.reg [od 13 (ia 1 9 11),od 14 (ld 1 13),om 8 14] [kp [0,2,6,8,9,10,11]
 [22]]) (.reg [om 15 6,om 16 0,od 17 (ld 1 2),od 18 (.bin .mul (tm 16) (tm 17)),om 19 8,od 20 (.bin .add (tm 18) (tm 19)),od 21 (.bsl true 3 1 [(tm 20)]),od 22 (.app false 3 1 (tm 15) (tm 21)),om 6 22] [kp [0,2,6,9,10,
 11] [22]]))) (.reg [od 23 (.bin .add (tm 11) (ki 1)),om 11 23] [kp [0,2,6,9,10,11] [22]])))) [kp [0,2,6,9,10,11] [22]]
def J6:IC:=.loop Z9
abbrev Za:IC:=(.seq (.reg [od 5 (.mv kN)] [kp [0,1,2] []]) (.seq (.reg [od 6 (.mv kN)] [.nl 6 22 3 1,kp [0,1,2,6] [22]]) (.seq (.seq (.reg [om 9 1,od 10 (le 0 9),od 11 (.mv (ki 0))] [kp [0,2,6,9,10,11] [22]]) (.gh (.block 0
 J6) [.frz 22])) (.seq (.reg [om 24 6,od 25 (.call 70 [(tm 24)]),om 5 25] [kp [5] []]) .ret))))
theorem Re (h:∀ K:St→Prop,K=run P Γ J6 Q→run P Γ Z9 (Am K Q) s):run P Γ J6 Q s:=Ae h
def Zb:List RV:=[.tmp 5]
/- probecard/cycles.Pattern (function 32) -/
abbrev q0a:IC:=.gh (.seq (.reg [od 57 (.bin .lss (tm 56) (tm 55))] [kp [1,2,6,12,13,14,54,55,56,57] [6,72]]) (.seq (.cond (tm 57) .skip (.exit 1)) (.seq (.block 2 (.seq (.reg [od 58 (ia 4 54 56),od 59 (lG 4 58),od 16 (.alloc false
 [(.int .u8 0),(.slice none 0 0),(.int .i64 0),(.int .i64 0)]),on (.store 4 (tm 16) (tm 59))] [kp [1,2,6,12,13,14,16,54,55,56] [6,16,72]]) (.seq (.reg [od 60 (fa 0 16),od 61 (ld 1 60)] [kp [1,2,6,12,13,14,54,
 55,56,61] [6,72]]) (.block 3 (.seq (.reg [od 63 (.bin .eql (tm 61) (ku 0)),om 62 63] [kp [1,2,6,12,13,14,54,55,56,61,62] [6,72]]) (.cond (tm 62) (.seq (.reg [om 64 12,om 65 2,od 66 (.iadr 1 (tm 65) (ki 0)),od 67
 (ld 1 66),om 68 13,od 69 (ia 1 67 68),od 70 (ld 1 69),od 71 (.bsl true 71 1 [(tm 70)]),od 72 (.app false 71 1 (tm 64) (tm 71)),om 12 72] [kp [1,2,6,12,13,14,54,55,56] [6,72]]) (.reg [om 73 13,od 74 (.bin .add (tm
 73) (ki 1)),om 13 74] [kp [1,2,6,12,13,14,54,55,56] [6,72]])) (.seq (.reg [od 76 (.bin .eql (tm 61) (ku 14)),om 75 76] [kp [1,2,6,12,13,14,54,55,56,75] [6,72]]) (.cond (tm 75) (.seq (.reg [om 77 12,om 78 1,om
 79 14,od 80 (ia 1 78 79),od 81 (ld 1 80),od 82 (.bsl true 71 1 [(tm 81)]),oz 83 (.app false 71 1 (tm 77) (tm 82)) 72,om 12 83] [kp [1,2,6,12,13,14,54,55,56] [6,72]]) (.reg [om 84 14,od 85 (.bin .add (tm 84) (ki 1)),
 om 14 85] [kp [1,2,6,12,13,14,54,55,56] [6,72]])) .skip)))))))) (.reg [od 86 (.bin .add (tm 56) (ki 1)),om 56 86] [kp [1,2,6,12,13,14,54,55,56] [6,72]])))) [kp [1,2,6,12,13,14,54,55,56] [6,72]]
def Ku:IC:=.loop q0a
abbrev q0b:IC:=.gh (.seq (.reg [od 91 (.bin .lss (tm 90) (tm 89))] [kp [6,12,88,89,90,91] [6,72]]) (.seq (.cond (tm 91) .skip (.exit 4)) (.seq (.block 5 (.seq (.reg [od 92 (ia 1 88 90),od 93 (ld 1 92),om 18 93] [kp [6,12,18,88,89,90]
 [6,72]]) (.reg [om 94 12,om 95 18,oz 96 (.app false 71 1 (tm 94) (tm 95)) 72,om 12 96] [kp [6,12,88,89,90] [6,72]]))) (.reg [od 97 (.bin .add (tm 90) (ki 1)),om 90 97] [kp [6,12,88,89,90] [6,72]])))) [kp [6,12,88,
 89,90] [6,72]]
def Kv:IC:=.loop q0b
abbrev q0c:IC:=(.seq (.reg [od 3 (.box true (tm 0)),od 6 (.alloc false [(.slice none 0 0),(.slice none 0 0)]),od 7 (.mv (ki 0))] [kp [1,2,3,6] [6]]) (.seq (.seq (.reg [od 19 (lG 4 3),om 20 2,od 21 (le 0 20),od 22 (.call 67 [(tm 19),(tm
 21)]),om 8 22] [kp [1,2,3,6,8] [6]]) (.seq (.reg [om 23 8,od 24 (.bin .neq (tm 23) (ki 0))] [kp [1,2,3,6,8,24] [6]]) (.cond (tm 24) (.seq (.reg [od 25 (.build [(1,kN),(1,kN)]),om 26 8,on (.store 2 (tm 6) (tm 25)),
 om 7 26] [kp [6,7] [6]]) .ret) .skip))) (.seq (.reg [od 27 (lG 4 3),od 28 (.call 56 [(tm 27)]),od 29 (le 0 28),od 9 (.alloc false [(.int .i64 0)]),on (.store 1 (tm 9) (tm 29))] [.frz 9,kp [1,2,3,6,9] [6]]) (.seq (.reg [od
 30 (.mkf 99 [(tm 9)]),om 10 30] [kp [1,2,3,6,10] [6]]) (.seq (.reg [od 11 (.mv (.func 100))] [kp [1,2,3,6,10,11] [6]]) (.seq (.block 0 (.seq (.reg [om 32 1,od 33 (le 0 32),od 34 (lG 4 3),od 35 (.call 18 [(tm 34)]),od
 36 (le 0 35),od 37 (.bin .neq (tm 33) (tm 36)),om 38 37,oF 39 (.mv (tm 2)) 38,oF 40 (.mv (tm 10)) 38,oF 41 (.call 103 [(tm 39),(tm 40)]) 38,od 42 (.pick (tm 38) kT (tm 41)),om 31 42] [kp [1,2,3,6,11,31] [6]]) (.cond
 (tm 31) (.seq (.reg [od 43 (.build [(1,kN),(1,kN)]),on (.store 2 (tm 6) (tm 43)),od 7 (.mv (ki 8))] [kp [6,7] [6]]) .ret) (.seq (.reg [om 45 2,om 46 11,od 47 (.call 103 [(tm 45),(tm 46)]),om 48 47,oF 49 (.mv (tm 1)) 48,
 oF 50 (.call 101 [(tm 49),(.func 104)]) 48,od 51 (.pick (tm 48) kT (tm 50)),om 44 51] [kp [1,2,3,6,44] [6]]) (.cond (tm 44) (.seq (.reg [od 52 (.build [(1,kN),(1,kN)]),on (.store 2 (tm 6) (tm 52)),od 7 (.mv (ki 1))] [kp
 [6,7] [6]]) .ret) .skip))))) (.seq (.reg [od 12 (.mv kN)] [.nl 12 72 71 1,kp [1,2,3,6,12] [6,72]]) (.seq (.reg [od 13 (.mv (ki 0)),od 14 (.mv (ki 0))] [kp [1,2,3,6,12,13,14] [6,72]]) (.seq (.seq (.reg [od 53 (fa 0
 3),od 54 (ld 1 53),od 55 (le 0 54),od 56 (.mv (ki 0))] [kp [1,2,6,12,13,14,54,55,56] [6,72]]) (.block 1 Ku)) (.seq (.seq (.reg [om 87 2,od 88 (.slice 1 (tm 87) (some (ki 1)) none none),od 89 (le 0 88),
 od 90 (.mv (ki 0))] [kp [6,12,88,89,90] [6,72]]) (.gh (.block 4 Kv) [.frz 72])) (.seq (.reg [om 98 12,od 99 (.call 89 [(tm 98)]),od 100 (.build [(1,(tm 99)),(1,kN)]),on (.store 2 (tm 6) (tm 100)),od 7
 (.mv (ki 0))] [kp [6,7] [6]]) .ret)))))))))))
theorem Sr (h:∀ K:St→Prop,K=run P Γ Ku Q→run P Γ q0a (Am K Q) s):run P Γ Ku Q s:=Ae h
theorem Ss (h:∀ K:St→Prop,K=run P Γ Kv Q→run P Γ q0b (Am K Q) s):run P Γ Kv Q s:=Ae h
def q0d:List RV:=[.cell 6 2 true,.tmp 7]
/- probecard/cycles.Pattern$1 (function 99) -/
abbrev X3:IC:=(.seq (.reg [od 3 (.mv kF)] [kp [0,1] []]) (.seq (.reg [om 4 0,od 5 (le 0 4),od 6 (ld 1 1),od 7 (.bin .neq (tm 5) (tm 6)),om 3 7] [kp [3] []]) .ret))
def X5:List RV:=[.tmp 3]
/- probecard/cycles.Pattern$2 (function 100) -/
abbrev X6:IC:=(.seq (.reg [od 2 (.mv kF)] [kp [0] []]) (.seq (.reg [om 3 0,od 4 (.call 101 [(tm 3),(.func 102)]),om 2 4] [kp [2] []]) .ret))
def X7:List RV:=[.tmp 2]
/- probecard/cycles.Pattern$2$1 (function 102) -/
abbrev Su:IC:=(.seq (.reg [od 2 (.mv kF)] [kp [0] []]) (.seq (.reg [om 3 0,od 4 (.bin .gtr (tm 3) (ku 3)),om 2 4] [kp [2] []]) .ret))
def Sv:List RV:=[.tmp 2]
/- probecard/cycles.Pattern$3 (function 104) -/
abbrev X8:IC:=(.seq (.reg [od 2 (.mv kF)] [kp [0] []]) (.seq (.reg [om 3 0,od 4 (.bin .gtr (tm 3) (ku 2)),om 2 4] [kp [2] []]) .ret))
def X9:List RV:=[.tmp 2]
/- probecard/cycles.Split (function 34) -/
abbrev q0e:IC:=.gh (.seq (.reg [od 28 (.bin .lss (tm 27) (tm 26))] [kp [7,9,25,26,27,28] [7,41]]) (.seq (.cond (tm 28) .skip (.exit 0)) (.seq (.block 1 (.seq (.reg [om 29 27,od 30 (ia 1 25 27),od 31 (ld 1 30),om 10 29,om 11 31] [kp [7,
 9,10,11,25,26,27] [7,41]]) (.seq (.reg [od 32 (fa 0 7),od 33 (ld 1 32),om 34 10,od 35 (ia 1 33 34),od 36 (ld 1 35),od 37 (.call 31 [(tm 36)])] [kp [7,9,11,25,26,27,37] [7,41]]) (.cond (tm 37) (.reg [om 38 9,om 39
 11,od 40 (.bsl true 3 1 [(tm 39)]),od 41 (.app false 3 1 (tm 38) (tm 40)),om 9 41] [kp [7,9,25,26,27] [7,41]]) .skip)))) (.reg [od 42 (.bin .add (tm 27) (ki 1)),om 27 42] [kp [7,9,25,26,27] [7,41]])))) [kp [7,9,25,
 26,27] [7,41]]
def Kw:IC:=.loop q0e
abbrev q0f:IC:=(.seq (.reg [od 2 (.box true (tm 0)),od 4 (.mv kN),od 5 (.mv (ki 0))] [kp [1,2] []]) (.seq (.reg [od 13 (.ldT 4 true (tm 2)),od 14 (.ldT 4 true (tm 2)),od 15 (.callT 29 [(tm 14)]),om 16 1,od 17 (.callT 24 [(tm 13),(tm 15),
 (tm 16)]),om 12 17,od 18 (ex 12 0),od 19 (ex 12 1),od 20 (ex 12 2),od 7 (.alloc false [(.slice none 0 0),(.slice none 0 0),(.slice none 0 0)]),om 6 18,on (.stR 7 3 (tm 7) (tm 19)),om 8 20] [kp [2,7,8] [7]]) (.seq (.seq
 (.reg [om 21 8,od 22 (.bin .neq (tm 21) (ki 0))] [kp [2,7,8,22] [7]]) (.cond (tm 22) (.seq (.reg [om 23 8,od 4 (.mv kN),om 5 23] [kp [4,5] []]) .ret) .skip)) (.seq (.reg [od 9 (.mv kN)] [.nl 9 41 3 1,kp [2,7,9] [7,41]])
 (.seq (.seq (.reg [od 24 (lG 4 2),od 25 (.call 18 [(tm 24)]),od 26 (le 0 25),od 27 (.mv (ki 0))] [kp [7,9,25,26,27] [7,41]]) (.gh (.block 0 Kw) [.frz 41])) (.seq (.reg [om 43 9,od 44 (.call 70 [(tm 43)]),om
 4 44,od 5 (.mv (ki 0))] [kp [4,5] []]) .ret))))))
theorem Sz (h:∀ K:St→Prop,K=run P Γ Kw Q→run P Γ q0e (Am K Q) s):run P Γ Kw Q s:=Ae h
def q0g:List RV:=[.tmp 4,.tmp 5]
/- probecard/probecardlaw10.example (function 77) -/
abbrev q1i:IC:=(.seq (.reg [od 0 (.alloc false [(.slice none 0 0),(.slice none 0 0),(.slice none 0 0),(.slice none 0 0)])] [kp [0] [0,6]]) (.seq (.reg [od 1 (.build [(1,(ku 0)),(1,kN),(1,(ki 0)),(1,(ki 0))]),od 2 (.bsl true 3 1 [(ki
 2)]),od 3 (.build [(1,(ku 14)),(1,(tm 2)),(1,(ki 0)),(1,(ki 0))]),od 4 (.bsl true 3 1 [(ki 0),(ki 1)]),od 5 (.build [(1,(ku 9)),(1,(tm 4)),(1,(ki 0)),(1,(ki 0))]),od 6 (.bsl false 45 4 [(tm 1),(tm 3),(tm 5)]),
 od 7 (.bsl true 9 1 [(.const (sV [97])),(.const (sV [113])),(.const (sV [120]))]),od 8 (.bsl true 3 1 [(ki 2)]),od 9 (.build [(1,(tm 6)),(1,(tm 7)),(1,kN),(1,(tm 8))]),on (.store 4 (tm 0) (tm 9))] [kp [0] [0,6]])
 .ret))
def q1j:List RV:=[.cell 0 4 true]
/- probecard/probecardlaw10.lives (function 22) -/
abbrev Zc:IC:=(.reg [od 0 (.mv kF)] [kp [] []])
abbrev Zd:IC:=(.reg [od 21 (.ncall 77 [] 21000),od 1 (.alloc false [(.slice none 0 0),(.slice none 0 0),(.slice none 0 0),(.slice none 0 0)]),on (.store 4 (tm 1) (tm 21))] [kp [1] [1,21006]])
abbrev Ze:IC:=(.reg [od 22 (.bsl true 71 1 [(ku 1)]),od 23 (.bsl true 71 1 [(ku 0)]),om 2 22,om 3 23] [kp [1,2,3] [1,21006]])
abbrev q2f:IC:=(.reg [od 161 (lG 4 1),om 162 3,od 163 (.bsl true 55 1 [(tm 162)]),od 164 (.call 28 [(tm 161),(tm 163)]),om 160 164,od 165 (ex 160 0),od 166 (ex 160 1),om 19 165,om 20 166] [kp [7,11,12,17,18,19,20] [7]])
abbrev q2g:IC:=(.reg [om 167 11,od 168 (.bin .eql (tm 167) (.const (sV [49,48,48]))),om 169 168,oT 170 (.mv (tm 12)) 169,oT 171 (.bin .eql (tm 170) (.const (sV [49,48,48]))) 169,od 172 (.pick (tm 169) (tm 171) kF),om 173 172,oT 174 (fa
 0 7) 173,oT 175 (fa 3 174) 173,oT 176 (ld 1 175) 173,oT 177 (.bsl true 3 1 [(ki 2),(ki 4),(ki 5),(ki 6)]) 173,oT 178 (.call 20 [(tm 176),(tm 177)]) 173,oT 179 (.bin .eql (tm 178) (ki 0)) 173,od 180 (.pick (tm 173) (tm
 179) kF),om 181 180,oT 182 (.mv (tm 18)) 181,oT 183 (.bin .eql (tm 182) (ki 0)) 181,od 184 (.pick (tm 181) (tm 183) kF),om 185 184,oT 186 (.mv (tm 20)) 185,oT 187 (.bin .eql (tm 186) (ki 0)) 185,od 188 (.pick (tm 185) (tm
 187) kF),om 189 188,oT 190 (.mv (tm 17)) 189,oT 191 (le 0 190) 189,oT 192 (.bin .eql (tm 191) (ki 0)) 189,od 193 (.pick (tm 189) (tm 192) kF),om 194 193,oT 195 (.mv (tm 19)) 194,oT 196 (.bsl true 3 1 [(ki 1)]) 194,oT 197
 (.call 20 [(tm 195),(tm 196)]) 194,oT 198 (.bin .eql (tm 197) (ki 0)) 194,od 199 (.pick (tm 194) (tm 198) kF),om 0 199] [kp [0] []])
def Zf:List RV:=[.tmp 0]
/- probecard/probecardlaw10.lives (function 22) -/
abbrev q2h:IC:=.gh (.seq (.seq (.reg [om 97 13,od 98 (.bin .lss (tm 97) (ki 3))] [kp [1,2,3,4,7,11,12,13,98] [1,7,21006,1000000]]) (.cond (tm 98) .skip (.exit 0))) (.seq (.block 1 (.seq (.reg [om 101 11,om 102 4,om 103 13,od 104
 (ia 2 102 103),od 105 (fa 0 104),od 106 (ld 1 105),od 107 (.call 78 [(tm 106)]),od 108 (.bin .add (tm 101) (tm 107)),om 11 108] [kp [1,2,3,4,7,11,12,13] [1,7,21006,1000000]]) (.reg [om 109 12,om 110 4,om 111 13,od
 112 (ia 2 110 111),od 113 (fa 1 112),od 114 (ld 1 113),od 115 (.call 78 [(tm 114)]),od 116 (.bin .add (tm 109) (tm 115)),om 12 116] [kp [1,2,3,4,7,11,12,13] [1,7,21006,1000000]]))) (.reg [om 99 13,od 100 (.bin .add
 (tm 99) (ki 1)),om 13 100] [kp [1,2,3,4,7,11,12,13] [1,7,21006,1000000]]))) [kp [1,2,3,4,7,11,12,13] [1,7,21006,1000000]]
def W1:IC:=.loop q2h
abbrev q2i:IC:=.gh (.seq (.seq (.reg [om 119 16,od 120 (.bin .lss (tm 119) (ki 7))] [kp [1,2,3,7,11,12,14,15,16,120] [1,7,21006,1000000]]) (.cond (tm 120) .skip (.exit 2))) (.seq (.block 3 (.seq (.reg [od 123 (fa 0 7),od 124 (fa 0
 123),od 125 (ld 1 124),om 126 16,od 127 (ia 4 125 126),od 128 (fa 0 127),od 129 (ld 1 128),om 130 14,om 131 16,od 132 (ia 1 130 131),od 133 (ld 1 132),od 134 (.bin .neq (tm 129) (tm 133)),om 135 134,oF 136 (fa 0 7) 135,
 oF 137 (fa 1 136) 135,oF 138 (ld 1 137) 135,oF 139 (.mv (tm 16)) 135,oF 140 (ia 1 138 139) 135,oF 141 (ld 1 140) 135,oF 142 (.mv (tm 15)) 135,oF 143 (.mv (tm 16)) 135,oF 144 (ia 1 142 143) 135,oF 145 (ld 1 144) 135,oF 146
 (.bin .neq (tm 141) (tm 145)) 135,od 147 (.pick (tm 135) kT (tm 146))] [kp [1,2,3,7,11,12,14,15,16,147] [1,7,21006,1000000]]) (.cond (tm 147) (.seq (.reg [od 0 (.mv kF)] [kp [0] [21006,1000000]]) .ret) .skip))) (.reg
 [om 121 16,od 122 (.bin .add (tm 121) (ki 1)),om 16 122] [kp [1,2,3,7,11,12,14,15,16] [1,7,21006,1000000]]))) [kp [1,2,3,7,11,12,14,15,16] [1,7,21006,1000000]]
def W2:IC:=.loop q2i
abbrev q2j:IC:=(.reg [od 25 (lG 4 1),om 26 3,od 27 (.build [(1,(tm 26)),(1,kN),(1,kN)]),om 28 2,om 29 2,om 30 3,od 31 (.bsl true 55 1 [(tm 28),(tm 29),(tm 30)]),od 32 (.call 24 [(tm 25),(tm 27),(tm 31)]),om 24 32,od 33 (ex 24
 0),od 34 (ex 24 1),od 35 (ex 24 2),od 5 (.alloc false [(.slice none 0 0),(.slice none 0 0),(.slice none 0 0)]),om 4 33,on (.store 3 (tm 5) (tm 34)),om 6 35] [kp [1,2,3,4,5,6] [1,5,21006,1000000]])
abbrev q2k:IC:=(.reg [od 37 (lG 4 1),od 38 (.call 17 [(tm 37),(ki 2)]),om 36 38,od 39 (ex 36 0),od 40 (ex 36 1),od 7 (.alloc false [(.slice none 0 0),(.slice none 0 0),(.slice none 0 0),(.slice none 0 0),(.slice none 0 0)]),on (.store
 5 (tm 7) (tm 39)),om 8 40] [kp [1,2,3,4,5,6,7,8] [1,5,7,21006,1000000]])
abbrev q2l:IC:=(.reg [od 42 (lG 4 1),om 43 3,om 44 2,om 45 2,od 46 (.bsl true 55 1 [(tm 44),(tm 45)]),od 47 (.call 32 [(tm 42),(tm 43),(tm 46)]),om 41 47,od 48 (ex 41 0),od 49 (ex 41 1),od 9 (.alloc false [(.slice none 0 0),(.slice
 none 0 0)]),on (.store 2 (tm 9) (tm 48)),om 10 49] [kp [1,2,3,4,5,6,7,8,9,10] [1,5,7,9,21006,1000000]])
abbrev q2m:IC:=(.seq (.reg [om 50 6,od 51 (.bin .neq (tm 50) (ki 0)),om 52 51,oF 53 (.mv (tm 8)) 52,oF 54 (.bin .neq (tm 53) (ki 0)) 52,od 55 (.pick (tm 52) kT (tm 54)),om 56 55,oF 57 (.mv (tm 10)) 56,oF 58 (.bin .neq (tm 57) (ki 0)) 56,
 od 59 (.pick (tm 56) kT (tm 58)),om 60 59,oF 61 (.mv (tm 4)) 60,oF 62 (le 0 61) 60,oF 63 (.bin .neq (tm 62) (ki 3)) 60,od 64 (.pick (tm 60) kT (tm 63)),om 65 64,oF 66 (fa 0 5) 65,oF 67 (ld 1 66) 65,oF 68 (.call 78 [(tm
 67)]) 65,oF 69 (.bin .neq (tm 68) (.const (sV [48]))) 65,od 70 (.pick (tm 65) kT (tm 69)),om 71 70,oF 72 (fa 0 9) 71,oF 73 (ld 1 72) 71,oF 74 (.call 78 [(tm 73)]) 71,oF 75 (.bin .neq (tm 74) (.const (sV [49,48,49]))) 71,
 od 76 (.pick (tm 71) kT (tm 75)),om 77 76,oF 78 (fa 1 9) 77,oF 79 (ld 1 78) 77,oF 80 (le 0 79) 77,oF 81 (.bin .neq (tm 80) (ki 0)) 77,od 82 (.pick (tm 77) kT (tm 81)),om 83 82,oF 84 (fa 0 7) 83,oF 85 (fa 0 84) 83,oF 86
 (ld 1 85) 83,oF 87 (le 0 86) 83,oF 88 (.bin .neq (tm 87) (ki 7)) 83,od 89 (.pick (tm 83) kT (tm 88)),om 90 89,oF 91 (fa 0 7) 90,oF 92 (fa 1 91) 90,oF 93 (ld 1 92) 90,oF 94 (le 0 93) 90,oF 95 (.bin .neq (tm 94) (ki 7)) 90,
 od 96 (.pick (tm 90) kT (tm 95))] [kp [1,2,3,4,7,96] [1,7,21006,1000000]]) (.cond (tm 96) (.seq (.reg [od 0 (.mv kF)] [kp [0] [21006,1000000]]) .ret) .skip))
abbrev q2n:IC:=(.reg [od 11 (.mv (.const (sV []))),od 12 (.mv (.const (sV [])))] [kp [1,2,3,4,7,11,12] [1,7,21006,1000000]])
abbrev q2o:IC:=(.seq (.reg [od 13 (.mv (ki 0))] [kp [1,2,3,4,7,11,12,13] [1,7,21006,1000000]]) (.block 0 W1))
abbrev q2p:IC:=(.reg [od 117 (.bsl true 43 1 [(ku 0),(ku 0),(ku 9),(ku 0),(ku 3),(ku 9),(ku 3)]),om 14 117] [kp [1,2,3,7,11,12,14] [1,7,21006,1000000]])
abbrev q1k:IC:=(.reg [od 118 (.bsl true 9 1 [(.const (sV [48,46,48])),(.const (sV [48,46,49])),(.const (sV [48,46,50])),(.const (sV [49,46,48])),(.const (sV [49,46,49])),(.const (sV [49,46,50])),(.const (sV [50,46,49]))]),om
 15 118] [kp [1,2,3,7,11,12,14,15] [1,7,21006,1000000]])
abbrev q1l:IC:=(.seq (.reg [od 16 (.mv (ki 0))] [kp [1,2,3,7,11,12,14,15,16] [1,7,21006,1000000]]) (.block 2 W2))
abbrev q1m:IC:=(.reg [od 149 (lG 4 1),om 150 2,om 151 2,od 152 (.bsl true 55 1 [(tm 150),(tm 151)]),od 153 (.call 28 [(tm 149),(tm 152)]),om 148 153,od 154 (ex 148 0),od 155 (ex 148 1),om 17 154,om 18 155] [kp [1,3,7,11,12,17,18]
 [1,7,21006,1000000]])
theorem Hu (h:∀ K:St→Prop,K=run P Γ W1 Q→run P Γ q2h (Am K Q) s):run P Γ W1 Q s:=Ae h
theorem C9 (h:∀ K:St→Prop,K=run P Γ W2 Q→run P Γ q2i (Am K Q) s):run P Γ W2 Q s:=Ae h
abbrev q1n:IC:=.gh (.seq (.seq (.reg [om 8 7,od 9 (fa 1 2),od 10 (ld 1 9),od 11 (le 0 10),od 12 (.bin .lss (tm 8) (tm 11))] [kp [2,3,4,6,7,12] [4,25]]) (.cond (tm 12) .skip (.exit 0))) (.seq (.block 1 (.reg [om 15 6,od 16 (fa 1 2),od
 17 (ld 1 16),om 18 7,od 19 (ia 2 17 18),od 20 (lG 2 19),od 21 (lG 4 3),od 22 (.callT 35 [(tm 20),(tm 21)]),od 23 (.fld 0 1 false (tm 22)),od 24 (.bsl true 55 1 [(tm 23)]),od 25 (.app false 55 1 (tm 15) (tm 24)),om 6 25]
 [kp [2,3,4,6,7] [4,25]])) (.reg [om 13 7,od 14 (.bin .add (tm 13) (ki 1)),om 7 14] [kp [2,3,4,6,7] [4,25]]))) [kp [2,3,4,6,7] [4,25]]
def Me:IC:=.loop q1n
abbrev q1o:IC:=(.seq (.reg [od 2 (.box true (tm 0)),od 3 (.box true (tm 1)),od 4 (.alloc false [(.slice none 0 0),(.slice none 0 0),(.slice none 0 0)]),od 5 (.mv kN)] [kp [2,3,4] [4]]) (.seq (.reg [od 6 (.mv kN)] [.nl 6 25 55 1,kp [2,3,
 4,6] [4,25]]) (.seq (.seq (.reg [od 7 (.mv (ki 0))] [kp [2,3,4,6,7] [4,25]]) (.gh (.block 0 Me) [.frz 25])) (.seq (.reg [od 26 (fa 0 2),od 27 (lG 1 26),od 28 (lG 4 3),od 29 (.call 79 [(tm 27),(tm 28)]),om
 30 6,on (.store 3 (tm 4) (tm 29)),om 5 30] [kp [4,5] [4,25]]) .ret))))
theorem Vm (h:∀ K:St→Prop,K=run P Γ Me Q→run P Γ q1n (Am K Q) s):run P Γ Me Q s:=Ae h
def q1p:List RV:=[.cell 4 3 true,.tmp 5]
/- probecard/probecardlaw10.same (function 26) -/
abbrev q5T:IC:=.gh (.seq (.seq (.reg [om 18 5,om 19 0,od 20 (le 0 19),od 21 (.bin .lss (tm 18) (tm 20))] [kp [0,1,5,21] []]) (.cond (tm 21) .skip (.exit 0))) (.seq (.block 1 (.seq (.reg [om 24 0,om 25 5,od 26 (ia 1 24 25),od 27 (ld 1
 26),om 28 1,om 29 5,od 30 (ia 1 28 29),od 31 (ld 1 30),od 32 (.bin .neq (tm 27) (tm 31))] [kp [0,1,5,32] []]) (.cond (tm 32) (.seq (.reg [od 4 (.mv (ki 1))] [kp [4] []]) .ret) .skip))) (.reg [om 22 5,od 23 (.bin .add (tm
 22) (ki 1)),om 5 23] [kp [0,1,5] []]))) [kp [0,1,5] []]
def Uk:IC:=.loop q5T
abbrev q5U:IC:=(.seq (.reg [od 4 (.mv (ki 0))] [kp [0,1] []]) (.seq (.seq (.reg [om 6 0,od 7 (le 0 6),om 8 1,od 9 (le 0 8),od 10 (.bin .neq (tm 7) (tm 9)),om 11 10,oF 12 (.mv (tm 0)) 11,oF 13 (.cap (tm 12)) 11,oF 14 (.mv (tm 0)) 11,oF
 15 (le 0 14) 11,oF 16 (.bin .gtr (tm 13) (tm 15)) 11,od 17 (.pick (tm 11) kT (tm 16))] [kp [0,1,17] []]) (.cond (tm 17) (.seq (.reg [od 4 (.mv (ki 1))] [kp [4] []]) .ret) .skip)) (.seq (.seq (.reg [od 5 (.mv (ki 0))] [kp [0,1,
 5] []]) (.block 0 Uk)) (.seq (.reg [od 4 (.mv (ki 0))] [kp [4] []]) .ret))))
theorem q0h (h:∀ K:St→Prop,K=run P Γ Uk Q→run P Γ q5T (Am K Q) s):run P Γ Uk Q s:=Ae h
def q5V:List RV:=[.tmp 4]
end
end Go.Lg
namespace Go.Lg
open Go Go.Proofs
theorem qAl:Ao Tryz.prog 24 q5R 68 3 q5S=true:=by kernel_rfl
theorem q7L:Ao Tryz.prog 83 q1Z 66 1 q1a=true:=by kernel_rfl
theorem q9F:Ao Tryz.prog 108 q45 6 1 q46=true:=by kernel_rfl
theorem q8I:Ao Tryz.prog 67 q2d 44 2 q2e=true:=by kernel_rfl
theorem q9G:Ao Tryz.prog 71 q47 11 2 q48=true:=by kernel_rfl
theorem q7M:Ao Tryz.prog 17 q1g 188 2 q1h=true:=by kernel_rfl
theorem q4q:Ao Tryz.prog 68 Z7 17 3 Z8=true:=by kernel_rfl
theorem q4r:Ao Tryz.prog 69 Za 26 3 Zb=true:=by kernel_rfl
theorem q6I:Ao Tryz.prog 32 q0c 101 3 q0d=true:=by kernel_rfl
theorem q49:Ao Tryz.prog 99 X3 8 2 X5=true:=by kernel_rfl
theorem q4A:Ao Tryz.prog 100 X6 5 1 X7=true:=by kernel_rfl
theorem q2K:Ao Tryz.prog 102 Su 5 1 Sv=true:=by kernel_rfl
theorem q4B:Ao Tryz.prog 104 X8 5 1 X9=true:=by kernel_rfl
theorem q6J:Ao Tryz.prog 28 q0f 45 2 q0g=true:=by kernel_rfl
theorem q7N:Ao Tryz.prog 77 q1i 10 0 q1j=true:=by kernel_rfl
theorem q7O:Ao Tryz.prog 23 q1o 31 2 q1p=true:=by kernel_rfl
theorem qAm:Ao Tryz.prog 20 q5U 33 2 q5V=true:=by kernel_rfl
end Go.Lg
namespace Go.Lg
open Go Go.Proofs
variable {Γ:Tables}
theorem Ei.small {c:B0} {s:Hk} (h:MOk c) (H:Ei c s):qKQ s:=by
 have hsl:=Di c
 have hn:=h.n
 have hcm:=h.cm
 have hw:=H.words h
 have hr:=H.reads h
 have h1:=H.d
 have h2:=H.w
 have h3:=H.r
 exact ⟨by omega,⟨by omega,fun x hx=>by have:=hr x hx; omega⟩,⟨by omega,fun x hx=>⟨by have:=(hw x hx).1; omega,fun y hy=>by have:=(hw x hx).2.2 y hy; omega⟩⟩⟩
theorem q40.refl (s:Hk):q40 (·=·) s s:=⟨⟨rfl,fun _ _=>rfl⟩,rfl,fun _ _=>⟨rfl,fun _ _=>rfl⟩,rfl,fun _ _=>⟨rfl,fun _ _=>⟨rfl,fun _ _=>rfl⟩⟩⟩
theorem Dt {f:FuncId} {as':List AV} {ts:List T} {res:T} {K:T→Prop} (h:Ab Tryz.prog Γ f ts res) (ht:Ah (as'.map toT)=some ts) (hk:K res):qCU Tryz.prog Γ f as' K ⟨⟩:=⟨ts,res,ht,.inl h,hk⟩
theorem qKU (n:Nat) (h0:0<n) (hn:n≤1000000000):F6 Tryz.prog Γ 142 [] [.t (.sl [] (some 0) (some true)),.t (tI n)] (.ls 22 0 0 none) [(22,.sl 55 1 (List.replicate n [.sl [] (some 0) (some true)]))]:=by
 refine Gy Z0 rfl ?_
 have h1:(0:Int)<n:=by omega
 have h2:¬ (n:Int)<0:=by omega
 have h3:(n:Int)≤2147483648:=by omega
 simp (disch:=omega) [N9,Na,h1,h2,h3,h0,A4]
theorem qAn {Q:AX→St→Prop} (ss:List (Sl (Sl Int))) (cap:Option Nat) (nl:Option Bool) (hs:ss.length≤1000) (hl:∀ s ∈ ss,s.l.length≤1000000) (N:Nat)
  (h0:Q (.exit 0) ⟨[(0,.t (.sl (Ac tW ss) cap nl)),(3,.t (tI N)),(9,.t (.sl (Ac tW ss) cap nl)),(10,.t (tI ss.length)),(11,.t (tI ss.length)),(12,.t (tB false))],[]⟩) :
  ∀ (k i m:Nat),k+i=ss.length→m≤i*1000000→m+((ss.drop i).flatMap (·.l)).length=N →
  run Tryz.prog Γ E1 Q ⟨[(0,.t (.sl (Ac tW ss) cap nl)),(3,.t (tI m)),(9,.t (.sl (Ac tW ss) cap nl)),(10,.t (tI ss.length)),(11,.t (tI i))],[]⟩
 | 0,i,m,h,hm,hN=>by
  refine Hi fun K hK=>?_
  have h3:i=ss.length:=by omega
  subst h3
  rw [List.drop_of_length_le (Nat.le_refl _)] at hN
  simp at hN
  subst hN
  simp
  exact h0
 | k+1,i,m,h,hm,hN=>by
  refine Hi fun K hK=>?_
  have h2:i<ss.length:=by omega
  rw [List.drop_eq_getElem_cons h2] at hN
  have e:=By (f:=tW) ⟨[],none,none⟩ h2
  have e2:ss[i]?.getD ⟨[],none,none⟩=ss[i]:=by simp [h2]
  rw [e2] at e
  have hsl:=hl _ (List.getElem_mem h2)
  generalize ss[i]=s at *
  simp at hN
  have ih:=qAn ss cap nl hs hl N h0 k (i+1) (m+s.l.length) (by omega) (by omega) (by simp; omega)
  have e':∀ h:i<(Ac tW ss).length,(Ac tW ss)[i]=[tW s]:=fun h=>by rw [← e]; simp [h]
  have w1':IntKind.i64.wrap ((m:Int)+(s.l.length:Int))=(m:Int)+(s.l.length:Int):=by rw [A4] <;> omega
  have w2:¬ ((m:Int)+(s.l.length:Int))<0:=by omega
  simp only [tW] at e e'
  simp [h2,A0,A6,e,e',w1',w2]
  rw [A4 (by omega) (by omega),hK]
  simpa [tW] using ih
theorem qAo {Q:AX→St→Prop} (ss:List (Sl (Sl Int))) (cap:Option Nat) (nl:Option Bool) (hs:ss.length≤1000) (hl:∀ s ∈ ss,s.l.length≤1000000) (R:List (Sl Int))
  (h0:∀ E:List (List T),E.take R.length=Ac tV R→Q (.exit 2) ⟨[(6,.ls 24022 0 R.length none),(25,.t (.sl (Ac tW ss) cap nl)),(26,.t (tI ss.length)),(27,.t (tI ss.length)),(28,.t (tB false))],[(24022,.sl 55 1 E)]⟩) :
  ∀ (k i:Nat) (acc:List (Sl Int)) (E:List (List T)),k+i=ss.length→acc.length≤i*1000000→E.take acc.length=Ac tV acc→acc++(ss.drop i).flatMap (·.l)=R →
  run Tryz.prog Γ E2 Q ⟨[(6,.ls 24022 0 acc.length none),(25,.t (.sl (Ac tW ss) cap nl)),(26,.t (tI ss.length)),(27,.t (tI i))],[(24022,.sl 55 1 E)]⟩
 | 0,i,acc,E,h,hm,hE,hR=>by
  refine Hj fun K hK=>?_
  have h3:i=ss.length:=by omega
  subst h3
  rw [List.drop_of_length_le (Nat.le_refl _)] at hR
  simp at hR
  subst hR
  simp
  exact h0 E hE
 | k+1,i,acc,E,h,hm,hE,hR=>by
  refine Hj fun K hK=>?_
  have h2:i<ss.length:=by omega
  rw [List.drop_eq_getElem_cons h2] at hR
  have e:=By (f:=tW) ⟨[],none,none⟩ h2
  have e2:ss[i]?.getD ⟨[],none,none⟩=ss[i]:=by simp [h2]
  rw [e2] at e
  have hsl:=hl _ (List.getElem_mem h2)
  generalize ss[i]=s at *
  have q:Ac tV acc++Ac tV s.l=Ac tV (acc++s.l):=q6g
  have ih:=qAo ss cap nl hs hl R h0 k (i+1) (acc++s.l) (Ac tV (acc++s.l)) (by omega) (by simp; omega) Ag (by rw [← hR]; simp)
  have e':∀ h:i<(Ac tW ss).length,(Ac tW ss)[i]=[tW s]:=fun h=>by rw [← e]; simp [h]
  simp only [tW] at e e'
  have hm:min acc.length E.length=acc.length:=by have:=congrArg List.length hE; simpa [A0] using this
  simp [h2,A0,A6,e,e',hE,q,hm]
  refine ⟨by omega,?_⟩
  rw [A4 (by omega) (by omega),hK]
  simpa [tW] using ih
theorem qCn (ss:List (Sl (Sl Int))) (cap:Option Nat) (nl:Option Bool) (hs:ss.length≤1000) (hl:∀ s ∈ ss,s.l.length≤1000000) (h0:0<(ss.flatMap (·.l)).length) :
  Ab Tryz.prog Γ 80 [.sl (Ac tW ss) cap nl] (.sl (Ac tV (ss.flatMap (·.l))) none none):=by
 refine Aq Vz rfl ?_
 have hb:∀ l:List (Sl (Sl Int)),(∀ s ∈ l,s.l.length≤1000000)→(l.flatMap (·.l)).length≤l.length*1000000:=by
  intro l
  induction l with
  | nil=>intro _; simp
  | cons s l ih =>
   intro h
   have h1:=h s List.mem_cons_self
   have h2:=ih fun x hx=>h x (List.mem_cons_of_mem _ hx)
   simp at h2 ⊢
   omega
 have hb:=hb ss hl
 have g1:=fun Q h0=>qAn (Γ:=Γ) (Q:=Q) ss cap nl hs hl (ss.flatMap (·.l)).length h0 ss.length 0 0 (by omega) (by omega) (by simp)
 have g2:=qKU (Γ:=Γ) (ss.flatMap (·.l)).length h0 (by omega)
 have g3:=fun Q h0 E hE=>qAo (Γ:=Γ) (Q:=Q) ss cap nl hs hl (ss.flatMap (·.l)) h0 ss.length 0 [] E (by omega) (by simp) hE (by simp)
 generalize ss.flatMap (·.l)=R at *
 simp [Kq,A0]
 refine g1 _ ?_
 simp
 refine ⟨_,_,g2,?_⟩
 simp [A0]
 refine g3 _ (fun E hE=>?_) _ (by simp [Ac])
 simp [Kr,Ai,hE]
def NlS {α:Type} (s:Sl α):Prop:=s.nl=some true→s.l=[]
def Q6 (s:Sl Int):Sl Int:=if s.nl=some true then ⟨[],some 0,some true⟩ else ⟨s.l,some s.l.length,none⟩
theorem qFZ {s:Sl Int} (h:NlS s):(Q6 s).l=s.l:=by
 unfold Q6
 split
 ·rename_i e; exact (h e).symm
 ·rfl
theorem q4C (s:Sl Int) (h1:NlS s) (h2:s.l.length≤1000000):Ab Tryz.prog Γ 108 [tV s] (tV (Q6 s)):=by
 refine Aq q9F rfl ?_
 have e1:=qC4 (Γ:=Γ) s h1 h2
 have e2:=qAP (Γ:=Γ) (Ap (W0 s).l) (W0 s).cap (W0 s).nl A6
 rw [A0] at e2
 have e3:T.sl (Ap (W0 s).l) (some (W0 s).l.length) (W0 s).nl=tV (Q6 s):=by
  unfold W0 Q6 tV
  split <;> rfl
 rw [e3] at e2
 generalize W0 s=d at *
 generalize Q6 s=r at *
 simp [tV] at e1 e2
 simp [q45,tV]
 refine A9 e1 rfl ?_
 simp
 refine A9 e2 rfl ?_
 simp [q46]
def q9H (w:Sl (Sl Int)):Sl (Sl Int):=⟨w.l.map Q6,some w.l.length,none⟩
def Lp (s:Hk):Hk:=⟨Q6 s.dff,⟨s.words.l.map q9H,some s.words.l.length,none⟩,⟨s.read.l.map Q6,some s.read.l.length,none⟩⟩
structure qFa (s:Hk):Prop where
 d:NlS s.dff
 w:∀ w ∈ s.words.l,∀ r ∈ w.l,NlS r
 r:∀ r ∈ s.read.l,NlS r
theorem qAp {s:Hk} (h:qFa s):Z6 (Lp s) s:=by
 refine ⟨qFZ h.d,?_,?_⟩
 ·unfold Hk.ws Lp
  simp only [List.map_map]
  refine List.map_congr_left fun w hw=>?_
  simp only [Function.comp,q9H,List.map_map]
  exact List.map_congr_left fun r hr=>qFZ (h.w w hw r hr)
 ·unfold Hk.rd Lp
  simp only [List.map_map]
  exact List.map_congr_left fun r hr=>qFZ (h.r r hr)
def q7P (s2:T) (d:T) (ws:List (Sl (Sl Int))) (rs:List (Sl Int)):List (Nat × B9):=[(2,.bx [.t (.sl [] (some 0) (some true)),.t (.sl [] (some 0) (some true)),.t (.sl [] (some 0) (some true))]),(3,.bx [.t d,.ls 39 0 ws.length none,.ls 54 0 rs.length none])]
theorem qJH {Q:AX→St→Prop} (s:Hk) (i:Nat) (w:Sl (Sl Int)) (hw:w.l.length≤1000000) (hn:∀ r ∈ w.l,NlS r∧r.l.length≤1000000) (d:T) (ws:List (Sl (Sl Int))) (R:List (Sl Int))
  (h0:Q (.exit 2) ⟨[(1,.t (.ip (B7 s) 0)),(2,.lp 2 0 0),(3,.lp 3 0 0),(6,.ls 32 0 w.l.length none),(16,.t (Ig s.words)),(17,.t (tI s.words.l.length)),(18,.t (tI i)),(22,.t (tW w)),(23,.t (tI w.l.length)),(24,.t (tI w.l.length)),(25,.t (tB false))],q7P d d ws []++[(32,.sl 55 1 (Ac tV R)),(39,.sl 57 1 (Ac tW ws)),(54,.sl 55 1 [])]⟩) :
  ∀ (k j:Nat) (out:List (Sl Int)),k+j=w.l.length→out.length=j→out++(w.l.drop j).map Q6=R →
  run Tryz.prog Γ M4 Q ⟨[(1,.t (.ip (B7 s) 0)),(2,.lp 2 0 0),(3,.lp 3 0 0),(6,.ls 32 0 j none),(16,.t (Ig s.words)),(17,.t (tI s.words.l.length)),(18,.t (tI i)),(22,.t (tW w)),(23,.t (tI w.l.length)),(24,.t (tI j))],q7P d d ws []++[(32,.sl 55 1 (Ac tV out)),(39,.sl 57 1 (Ac tW ws)),(54,.sl 55 1 [])]⟩
 | 0,j,out,h,ho,hR=>by
  refine Ve fun K hK=>?_
  have h2:j=w.l.length:=by omega
  subst h2
  rw [List.drop_length] at hR
  simp only [List.map_nil,List.append_nil] at hR
  subst hR
  simp [q7P,B7,Ig,tW] at h0
  simp [q7P,B7,Ig,tW]
  simpa using h0
 | k+1,j,out,h,ho,hR=>by
  refine Ve fun K hK=>?_
  have h2:j<w.l.length:=by omega
  rw [List.drop_eq_getElem_cons h2] at hR
  simp only [List.map_cons] at hR
  have e2:=gE (f:=tV) Sl.z h2
  have e2':=gE' (f:=tV) Sl.z h2
  rw [show w.l.getD j Sl.z=w.l[j] by simp [List.getD_eq_getElem?_getD,h2]] at e2 e2'
  obtain ⟨hr1,hr2⟩:=hn _ (List.getElem_mem h2)
  generalize w.l[j]=r at *
  have hc:=q4C (Γ:=Γ) r hr1 hr2
  have ih:=qJH s i w hw hn d ws R h0 k (j+1) (out++[Q6 r]) (by omega) (by simp [ho]) (by rw [← hR]; simp)
  have vs:=Be (f:=tV) (l:=out) (x:=Q6 r)
  have vt:(Ac tV out).take j=Ac tV out:=by rw [← ho]; exact Ag
  generalize Q6 r=q at *
  have h3:(j:Int)<w.l.length:=by omega
  have w1:=B5 (i:=j) (by omega)
  have hw1:∀ t:T,Cm 1 [[t]]:=fun t e he=>by simp at he; subst he; rfl
  simp only [tV] at e2 e2' hc vs
  simp [q7P,B7,Ig,tW,tV] at ih
  simp [q7P,B7,Ig,tW,tV,A0,A6,h2,h3,e2,e2']
  refine A9 hc rfl ?_
  simp [hw1,vt,vs,ho,w1,A0]
  refine ⟨by omega,?_⟩
  rw [hK]
  simpa using ih
theorem qJI {Q:AX→St→Prop} (s:Hk) (hs:s.words.l.length≤1000000) (hw:∀ w ∈ s.words.l,w.l.length≤1000000∧∀ r ∈ w.l,NlS r∧r.l.length≤1000000) (d:T) (R:List (Sl (Sl Int)))
  (h0:Q (.exit 0) ⟨[(1,.t (.ip (B7 s) 0)),(2,.lp 2 0 0),(3,.lp 3 0 0),(16,.t (Ig s.words)),(17,.t (tI s.words.l.length)),(18,.t (tI s.words.l.length)),(19,.t (tB false))],q7P d d R []++[(39,.sl 57 1 (Ac tW R)),(54,.sl 55 1 [])]⟩) :
  ∀ (k i:Nat) (ws:List (Sl (Sl Int))),k+i=s.words.l.length→ws.length=i→ws++(s.words.l.drop i).map q9H=R →
  run Tryz.prog Γ M5 Q ⟨[(1,.t (.ip (B7 s) 0)),(2,.lp 2 0 0),(3,.lp 3 0 0),(16,.t (Ig s.words)),(17,.t (tI s.words.l.length)),(18,.t (tI i))],q7P d d ws []++[(39,.sl 57 1 (Ac tW ws)),(54,.sl 55 1 [])]⟩
 | 0,i,ws,h,ho,hR=>by
  refine Vf fun K hK=>?_
  have h2:i=s.words.l.length:=by omega
  subst h2
  rw [List.drop_length] at hR
  simp only [List.map_nil,List.append_nil] at hR
  subst hR
  simp [q7P,B7,Ig] at h0
  simp [q7P,B7,Ig]
  simpa using h0
 | k+1,i,ws,h,ho,hR=>by
  refine Vf fun K hK=>?_
  have h2:i<s.words.l.length:=by omega
  rw [List.drop_eq_getElem_cons h2] at hR
  simp only [List.map_cons] at hR
  have e2:=gE (f:=tW) Sl.zz h2
  have e2':=gE' (f:=tW) Sl.zz h2
  rw [show s.words.l.getD i Sl.zz=s.words.l[i] by simp [List.getD_eq_getElem?_getD,h2]] at e2 e2'
  obtain ⟨hw1,hw2⟩:=hw _ (List.getElem_mem h2)
  generalize s.words.l[i]=w at *
  have g:=fun Q h0=>qJH (Γ:=Γ) (Q:=Q) s i w hw1 hw2 d ws (w.l.map Q6) h0 w.l.length 0 [] (by omega) rfl (by simp)
  have ih:=qJI s hs hw d R h0 k (i+1) (ws++[q9H w]) (by omega) (by simp [ho]) (by rw [← hR]; simp)
  have ml:(w.l.map Q6).length=w.l.length:=by simp
  have vtm:(Ac tV (w.l.map Q6)).take w.l.length=Ac tV (w.l.map Q6):=by rw [← ml]; exact Ag
  have hcl:=qGO (Γ:=Γ) (Ac tV (w.l.map Q6)) none none A6
  rw [A0,ml] at hcl
  have vs:=Be (f:=tW) (l:=ws) (x:=q9H w)
  unfold q9H at ih vs
  have vt:(Ac tW ws).take i=Ac tW ws:=by rw [← ho]; exact Ag
  generalize w.l.map Q6=q at *
  have h3:(i:Int)<s.words.l.length:=by omega
  have w1:=B5 (i:=i) (by omega)
  have hwd1:∀ t:T,Cm 1 [[t]]:=fun t e he=>by simp at he; subst he; rfl
  simp only [tW] at e2 e2' vs
  simp [q7P,B7,Ig,tW,Cd] at g
  simp [q7P,B7,Ig,tW] at ih
  simp [q7P,B7,Ig,tW,A0,A6,h2,h3,e2,e2']
  refine g _ ?_
  simp [St.freeze,B9.closed,Bl,frz1,frz0,Du,del,Ai,vtm]
  refine Dt hcl rfl ?_
  simp [hwd1,vt,vs,ho,w1,A6,A0]
  refine ⟨by omega,?_⟩
  rw [hK]
  simpa [ho] using ih
theorem qJJ {Q:AX→St→Prop} (s:Hk) (hs:s.read.l.length≤1000000) (hr:∀ r ∈ s.read.l,NlS r∧r.l.length≤1000000) (d:T) (W:T) (R:List (Sl Int))
  (h0:Q (.exit 4) ⟨[(2,.lp 2 0 0),(3,.lp 3 0 0),(43,.t (tW s.read)),(44,.t (tI s.read.l.length)),(45,.t (tI s.read.l.length)),(46,.t (tB false))],[(2,.bx [.t (.sl [] (some 0) (some true)),.t (.sl [] (some 0) (some true)),.t (.sl [] (some 0) (some true))]),(3,.bx [.t d,.t W,.ls 54 0 R.length none]),(54,.sl 55 1 (Ac tV R))]⟩) :
  ∀ (k i:Nat) (rs:List (Sl Int)),k+i=s.read.l.length→rs.length=i→rs++(s.read.l.drop i).map Q6=R →
  run Tryz.prog Γ M6 Q ⟨[(2,.lp 2 0 0),(3,.lp 3 0 0),(43,.t (tW s.read)),(44,.t (tI s.read.l.length)),(45,.t (tI i))],[(2,.bx [.t (.sl [] (some 0) (some true)),.t (.sl [] (some 0) (some true)),.t (.sl [] (some 0) (some true))]),(3,.bx [.t d,.t W,.ls 54 0 i none]),(54,.sl 55 1 (Ac tV rs))]⟩
 | 0,i,rs,h,ho,hR=>by
  refine Vg fun K hK=>?_
  have h2:i=s.read.l.length:=by omega
  subst h2
  rw [List.drop_length] at hR
  simp only [List.map_nil,List.append_nil] at hR
  subst hR
  rw [ho] at h0
  simp [tW] at h0
  simp [tW]
  simpa using h0
 | k+1,i,rs,h,ho,hR=>by
  refine Vg fun K hK=>?_
  have h2:i<s.read.l.length:=by omega
  rw [List.drop_eq_getElem_cons h2] at hR
  simp only [List.map_cons] at hR
  have e2:=gE (f:=tV) Sl.z h2
  have e2':=gE' (f:=tV) Sl.z h2
  rw [show s.read.l.getD i Sl.z=s.read.l[i] by simp [List.getD_eq_getElem?_getD,h2]] at e2 e2'
  obtain ⟨hr1,hr2⟩:=hr _ (List.getElem_mem h2)
  generalize s.read.l[i]=r at *
  have hc:=q4C (Γ:=Γ) r hr1 hr2
  have ih:=qJJ s hs hr d W R h0 k (i+1) (rs++[Q6 r]) (by omega) (by simp [ho]) (by rw [← hR]; simp)
  have vs:=Be (f:=tV) (l:=rs) (x:=Q6 r)
  have vt:(Ac tV rs).take i=Ac tV rs:=by rw [← ho]; exact Ag
  generalize Q6 r=q at *
  have h3:(i:Int)<s.read.l.length:=by omega
  have w1:=B5 (i:=i) (by omega)
  have hwd1:∀ t:T,Cm 1 [[t]]:=fun t e he=>by simp at he; subst he; rfl
  simp only [tV] at e2 e2' hc vs
  simp [tW,tV] at ih
  simp [tW,tV,A0,A6,h2,h3,e2,e2']
  refine Dt hc rfl ?_
  simp [hwd1,vt,vs,ho,w1,A0]
  refine ⟨by omega,?_⟩
  rw [hK]
  simpa using ih
theorem qBJ (s:Hk) (hs:qKQ s) (hn:qFa s):Ab Tryz.prog Γ 83 [.agg (B7 s)] (.agg (B7 (Lp s))):=by
 refine Aq q7L rfl ?_
 have e1:=q4C (Γ:=Γ) s.dff hn.d hs.d
 have g3:=fun Q d h0=>qJI (Γ:=Γ) (Q:=Q) s hs.w.1 (fun w hw=>⟨(hs.w.2 w hw).1,fun r hr=>⟨hn.w w hw r hr,(hs.w.2 w hw).2 r hr⟩⟩) d (s.words.l.map q9H) h0 s.words.l.length 0 [] (by omega) rfl (by simp)
 have g5:=fun Q d W h0=>qJJ (Γ:=Γ) (Q:=Q) s hs.r.1 (fun r hr=>⟨hn.r r hr,hs.r.2 r hr⟩) d W (s.read.l.map Q6) h0 s.read.l.length 0 [] (by omega) rfl (by simp)
 have lW:(s.words.l.map q9H).length=s.words.l.length:=by simp
 have lR:(s.read.l.map Q6).length=s.read.l.length:=by simp
 have tW':(Ac tW (s.words.l.map q9H)).take s.words.l.length=Ac tW (s.words.l.map q9H):=by rw [← lW]; exact Ag
 have tR':(Ac tV (s.read.l.map Q6)).take s.read.l.length=Ac tV (s.read.l.map Q6):=by rw [← lR]; exact Ag
 have c2:=qGO (Γ:=Γ) (Ac tV (s.read.l.map Q6)) none none A6
 have c3:=qIz (Γ:=Γ) (Ac tW (s.words.l.map q9H)) none none A6
 rw [A0,lR] at c2
 rw [A0,lW] at c3
 unfold Lp
 generalize Q6 s.dff=D at *
 generalize s.words.l.map q9H=W at *
 generalize s.read.l.map Q6=R at *
 simp [B7,tV,tW,Ig] at e1
 simp [q7P,B7,tV,tW,Ig,Cd,lW] at g3
 simp [B7,tV,tW,Ig,Cd,lR] at g5
 simp [q1Z,B7,tV,tW,Ig]
 refine A9 e1 rfl ?_
 simp [A0]
 refine g3 _ _ ?_
 simp [St.freeze,B9.closed,Bl,frz1,frz0,Du,del,Ai,tW',A0]
 refine g5 _ _ _ ?_
 simp [St.freeze,B9.closed,Bl,frz1,frz0,Du,del,Ai,tR',A0]
 refine Dt c3 rfl ?_
 simp
 refine Dt c2 rfl ?_
 simp [q1a,Ai,Ah]
def Q3 (r:List Int × List Int):List T:=[tVs r.1,tVs r.2]
def qBK (c:B0) (l:List (Sl Int)):Prop:=∀ x ∈ l,x.l.length=(Bg c).length∧∀ v ∈ x.l,V4 v
theorem qBK.seq {c:B0} {l:List (Sl Int)} (h:qBK c l):qJG c (l.map (·.l)):=fun i hi=>by
 obtain ⟨x,hx,rfl⟩:=List.mem_map.1 hi
 exact h x hx
theorem qEC {Q:AX→St→Prop} (hΓ:GOk Γ) (c:B0) (h:MOk c) (s:Hk) (H:Ei c s) (ins L:Sl (Sl Int)) (hL:L.l.length≤2000) (hv:qBK c L.l)
  (h0:Q (.exit 0) ⟨[(2,.t (tW ins)),(3,.t (.ip (tC c) 0)),(4,.t (.ip (B7 s) 0)),(7,.lp 7 0 0),(26,.t (tW L)),(27,.t (tI L.l.length)),(28,.t (tI L.l.length)),(29,.t (tB false))],[(7,.bx [.t Ax,.t Ax,.t Ax])]⟩) :
  ∀ (k i:Nat),k+i=L.l.length→run Tryz.prog Γ Ui Q ⟨[(2,.t (tW ins)),(3,.t (.ip (tC c) 0)),(4,.t (.ip (B7 s) 0)),(7,.lp 7 0 0),(26,.t (tW L)),(27,.t (tI L.l.length)),(28,.t (tI i))],[(7,.bx [.t Ax,.t Ax,.t Ax])]⟩
 | 0,i,hk=>by
  refine q0Y fun K hK=>?_
  have h2:i=L.l.length:=by omega
  subst h2
  simp [Ax,B7,tV,tW,Ig,tC,A5,A8,Ad,B6] at h0
  simp [Ax,B7,tV,tW,Ig,tC,A5,A8,Ad,B6]
  simpa using h0
 | k+1,i,hk=>by
  refine q0Y fun K hK=>?_
  have h2:i<L.l.length:=by omega
  have e2:=gE (f:=tV) Sl.z h2
  have e2':=gE' (f:=tV) Sl.z h2
  rw [show L.l.getD i Sl.z=L.l[i] by simp [List.getD_eq_getElem?_getD,h2]] at e2 e2'
  obtain ⟨hl,hv4⟩:=hv _ (List.getElem_mem h2)
  generalize L.l[i]=x at *
  have hc:=q8s hΓ c h s H x hl (fun v hv=>(hv4 v hv).2)
  have ih:=qEC hΓ c h s H ins L hL hv h0 k (i+1) (by omega)
  have h3:(i:Int)<L.l.length:=by omega
  have w1:=B5 (i:=i) (by omega)
  simp only [tV] at e2 e2'
  simp [B7,tV,tW,Ig,tC,A5,A8,Ad,B6] at hc
  simp [Ax,B7,tV,tW,Ig,tC,A5,A8,Ad,B6] at ih
  simp [Ax,B7,tV,tW,Ig,tC,A5,A8,Ad,B6,A0,A6,h2,h3,e2,e2']
  refine A9 hc rfl ?_
  simp [w1]
  rw [hK]
  simpa using ih
theorem Gz {α:Type} {f:α→T} {x:α} {l:List α}:Ac f (x::l)=[f x]::Ac f l:=rfl
theorem qC9 {α:Type} {f:α→List T}:Ar f []=[]:=rfl
theorem qKV {α:Type} {l:List α} {n:Nat} (h:l.length=n) {x y:α} {m:List α}:(l++x::m).set n y=l++y::m:=by
 subst h
 rw [List.set_append_right (h:=Nat.le_refl _)]
 simp
theorem qHV {l:List (List Int × List Int)} {k:Nat}:Cm 2 (Ar Q3 l++List.replicate k [Ax,Ax]):=by
 intro e he
 rcases List.mem_append.1 he with he | he
 ·obtain ⟨x,_,rfl⟩:=List.mem_map.1 he; rfl
 ·rw [List.eq_of_mem_replicate he]; rfl
set_option maxHeartbeats 2000000 in
theorem qED {Q:AX→St→Prop} (hΓ:GOk Γ) (c:B0) (h:MOk c) (hn:c.nodes.l.length≤19) (ins:Sl (Sl Int)) (hL:ins.l.length≤2000) (hv:qBK c ins.l) (RR:List (List Int × List Int)) (SS:Hk)
  (h0:Q (.exit 2) ⟨[(3,.t (.ip (tC c) 0)),(7,.lp 7 0 0),(12,.ls 43 0 ins.l.length (some ins.l.length)),(13,.lp 13 0 0),(46,.t (tW ins)),(47,.t (tI ins.l.length)),(48,.t (tI ins.l.length)),(49,.t (tB false))],[(7,.bx [.t Ax,.t Ax,.t Ax]),(13,.bx ((B7 SS).map .t)),(43,.sl 66 2 (Ar Q3 RR))]⟩) :
  ∀ (k i:Nat) (st:Hk) (done:List (List Int × List Int)),k+i=ins.l.length→done.length=i→Ei c st→done++seqR c st ((ins.l.drop i).map (·.l))=RR→seqS c st ((ins.l.drop i).map (·.l))=SS →
  run Tryz.prog Γ Uj Q ⟨[(3,.t (.ip (tC c) 0)),(7,.lp 7 0 0),(12,.ls 43 0 ins.l.length (some ins.l.length)),(13,.lp 13 0 0),(46,.t (tW ins)),(47,.t (tI ins.l.length)),(48,.t (tI i))],[(7,.bx [.t Ax,.t Ax,.t Ax]),(13,.bx ((B7 st).map .t)),(43,.sl 66 2 (Ar Q3 done++List.replicate k [Ax,Ax]))]⟩
 | 0,i,st,done,hk,hd,H,hR,hS=>by
  refine q0Z fun K hK=>?_
  have h2:i=ins.l.length:=by omega
  subst h2
  rw [List.drop_length] at hR hS
  simp only [List.map_nil,seqR,seqS,List.append_nil] at hR hS
  subst hR
  subst hS
  simp [Ax,B7,tV,tW,Ig,tC,A5,A8,Ad,B6] at h0
  simp [Ax,B7,tV,tW,Ig,tC,A5,A8,Ad,B6]
  simpa using h0
 | k+1,i,st,done,hk,hd,H,hR,hS=>by
  refine q0Z fun K hK=>?_
  have h2:i<ins.l.length:=by omega
  rw [List.drop_eq_getElem_cons h2] at hR hS
  simp only [List.map_cons,seqR,seqS] at hR hS
  have e2:=gE (f:=tV) Sl.z h2
  have e2':=gE' (f:=tV) Sl.z h2
  rw [show ins.l.getD i Sl.z=ins.l[i] by simp [List.getD_eq_getElem?_getD,h2]] at e2 e2'
  obtain ⟨hl,hv4⟩:=hv _ (List.getElem_mem h2)
  generalize ins.l[i]=x at *
  have hc:=qJD hΓ h hn H x hl hv4
  have ih:=qED hΓ c h hn ins hL hv RR SS h0 k (i+1) (Lo c st (Bn c st x.l)) (done++[(q1O c (Bn c st x.l),Df c (Bn c st x.l))]) (by omega) (by simp [hd]) (q7J h H (q7K H hv4)) (by rw [← hR]; simp) hS
  have el:(Ar Q3 done).length=i:=by rw [Aa,hd]
  have hset:=qKV (l:=Ar Q3 done) (n:=i) el (x:=[Ax,Ax]) (y:=Q3 (q1O c (Bn c st x.l),Df c (Bn c st x.l))) (m:=List.replicate k [Ax,Ax])
  have hsn:Ar Q3 done++Q3 (q1O c (Bn c st x.l),Df c (Bn c st x.l))::List.replicate k [Ax,Ax]=Ar Q3 (done++[(q1O c (Bn c st x.l),Df c (Bn c st x.l))])++List.replicate k [Ax,Ax]:=by simp [Ar]
  rw [hsn] at hset
  have hlen:(Ar Q3 done++List.replicate (k+1) [Ax,Ax]).length=ins.l.length:=by simp [el]; omega
  rw [← List.replicate_succ] at hset
  have hwid:=qHV (l:=done) (k:=k+1)
  generalize Ar Q3 done++List.replicate (k+1) [Ax,Ax]=E at *
  generalize Ar Q3 (done++[(q1O c (Bn c st x.l),Df c (Bn c st x.l))])++List.replicate k [Ax,Ax]=E' at *
  generalize Lo c st (Bn c st x.l)=st' at *
  simp only [Q3] at hset
  generalize q1O c (Bn c st x.l)=O at *
  generalize Df c (Bn c st x.l)=X at *
  generalize Bn c st x.l=N at *
  have h3:(i:Int)<ins.l.length:=by omega
  have w1:=B5 (i:=i) (by omega)
  simp only [tV] at e2 e2'
  simp only [tVs] at hset
  simp [B7,tV,tVs,tW,Ig,tC,A5,A8,Ad,B6] at hc
  simp [Ax,B7,tV,tW,Ig,tC,A5,A8,Ad,B6] at ih
  simp [Ax,B7,tV,tW,Ig,tC,A5,A8,Ad,B6,A0,A6,h2,h3,e2,e2']
  refine A9 hc rfl ?_
  simp [h2,h3,hlen,hset,w1]
  rw [hK]
  simpa using ih
set_option maxHeartbeats 2000000 in
theorem q2L (hΓ:GOk Γ) (c:B0) (h:MOk c) (hn:c.nodes.l.length≤19) (s:Hk) (H:Ei c s) (hN:qFa s) (ins:Sl (Sl Int)) (hL:ins.l.length≤1000) (hv:qBK c ins.l) :
  Ab Tryz.prog Γ 24 [.agg (tC c),.agg (B7 s),tW ins] (.tup [.sl (Ar Q3 (seqR c (Lp s) (ins.l.map (·.l)))) (some ins.l.length) none,.agg (B7 (seqS c (Lp s) (ins.l.map (·.l)))),tI 0]):=by
 refine Aq qAl rfl ?_
 have hil:=Ov c
 have hsl:=Di c
 have e1:=qAg (Γ:=Γ) c h.ok (by omega) (by omega)
 have e2:=qCn (Γ:=Γ) [⟨[⟨List.replicate (Bg c).length 2,none,none⟩],some 1,some false⟩,ins] (some 2) (some false) (by simp) (by simp; omega) (by simp)
 have e3:=qBJ (Γ:=Γ) s (H.small h) hN
 have hE:=(qAp hN).ok H
 have hvL:qBK c (⟨List.replicate (Bg c).length 2,none,none⟩::ins.l):=fun x hx=>by
  rcases List.mem_cons.1 hx with rfl | hx
  ·exact ⟨by simp,fun v hv=>by rw [List.eq_of_mem_replicate hv]; unfold V4; omega⟩
  ·exact hv x hx
 have g1:=fun Q h0=>qEC (Γ:=Γ) (Q:=Q) hΓ c h s H ins ⟨⟨List.replicate (Bg c).length 2,none,none⟩::ins.l,none,none⟩ (by simp; omega) hvL h0 (ins.l.length+1) 0 (by simp)
 have g3:=fun Q h0=>qED (Γ:=Γ) (Q:=Q) hΓ c h hn ins (by omega) hv (seqR c (Lp s) (ins.l.map (·.l))) (seqS c (Lp s) (ins.l.map (·.l))) h0 ins.l.length 0 (Lp s) [] (by omega) rfl hE (by simp) (by simp)
 simp only [List.flatMap_cons,List.flatMap_nil,List.append_nil,List.singleton_append] at e2
 have hfl:(Ar Q3 (seqR c (Lp s) (ins.l.map (·.l)))).length=ins.l.length:=by rw [Aa,qEB,List.length_map]
 have htk:(Ar Q3 (seqR c (Lp s) (ins.l.map (·.l)))).take ins.l.length=Ar Q3 (seqR c (Lp s) (ins.l.map (·.l))):=List.take_of_length_le (by omega)
 generalize seqR c (Lp s) (ins.l.map (·.l))=RR at *
 generalize seqS c (Lp s) (ins.l.map (·.l))=SS at *
 generalize Lp s=s' at *
 generalize List.replicate (Bg c).length (2:Int)=bl at *
 have h9:¬ 1024<(ins.l.length:Int):=by omega
 have h9':ins.l.length≤1024:=by omega
 have h9'':¬ 1024<ins.l.length:=by omega
 simp [tW,tV,Gz,Cd] at e2
 simp [B7,tV,tW,Ig,tC,A5,A8,Ad,B6] at e1 e3
 simp [Ax,B7,tV,tW,Ig,tC,A5,A8,Ad,B6,Gz,Cd] at g1
 simp [Ax,B7,tV,tW,Ig,tC,A5,A8,Ad,B6,qC9] at g3
 simp [q5R,B7,tV,tW,Ig,tC,A5,A8,Ad,B6,A0,h9,h9']
 refine A9 e1 rfl ?_
 simp
 refine A9 e2 rfl ?_
 simp [A0]
 refine g1 _ ?_
 simp [Aa,A0]
 refine ⟨by omega,?_⟩
 refine A9 e3 rfl ?_
 simp [A0]
 refine g3 _ ?_
 simp [q5S,Ai,Ah,htk]
 done
def V2 (v:Int):Prop:=0≤v∧v≤1
theorem V2.four {v:Int} (h:V2 v):V4 v:=by unfold V2 V4 at *; omega
def Xa (v:Sl Int) (ps:Sl PD):List T:=[tV v,.sl (Ar tPD ps.l) ps.cap ps.nl]
theorem qKW {l:List PD}:Cm 2 (Ar tPD l):=q3F fun _=>rfl
def Zg (c:B0) (ps:List PD):List (Sl Int):=ps.map fun q=>(qAa q c).inn
theorem qJK {c:B0} {ps:List PD} (h:∀ q ∈ ps,q9C q):qBK c (Zg c ps):=fun x hx=>by
 obtain ⟨q,hq,rfl⟩:=List.mem_map.1 hx
 have hP:=qIk (h q hq) c
 exact ⟨hP.i,hP.vi⟩
theorem qGW {Q:AX→St→Prop} (v:Sl Int) (ps:Sl PD) (hl:ps.l.length≤1000000) (hp:∀ q ∈ ps.l,q9C q) (c:B0) (hc:COk c) (R:List (Sl Int))
  (h0:Q (.exit 0) ⟨[(2,.t (.ip (Xa v ps) 0)),(3,.t (.ip (tC c) 0)),(4,.lp 4 0 0),(6,.ls 25 0 ps.l.length none),(7,.t (tI ps.l.length)),(12,.t (tB false))],[(4,.bx [.t Ax,.t Ax,.t Ax]),(25,.sl 55 1 (Ac tV R))]⟩) :
  ∀ (k i:Nat) (out:List (Sl Int)),k+i=ps.l.length→out.length=i→out++Zg c (ps.l.drop i)=R →
  run Tryz.prog Γ Me Q ⟨[(2,.t (.ip (Xa v ps) 0)),(3,.t (.ip (tC c) 0)),(4,.lp 4 0 0),(6,.ls 25 0 i none),(7,.t (tI i))],[(4,.bx [.t Ax,.t Ax,.t Ax]),(25,.sl 55 1 (Ac tV out))]⟩
 | 0,i,out,h,ho,hR=>by
  refine Vm fun K hK=>?_
  have h2:i=ps.l.length:=by omega
  subst h2
  rw [List.drop_length] at hR
  simp only [Zg,List.map_nil,List.append_nil] at hR
  subst hR
  simp [Xa,Ax,tV,tC,A5,A8,Ad,B6] at h0
  simp [Xa,Ax,tV,tC,A5,A8,Ad,B6,Aa]
  simpa using h0
 | k+1,i,out,h,ho,hR=>by
  refine Vm fun K hK=>?_
  have h2:i<ps.l.length:=by omega
  rw [List.drop_eq_getElem_cons h2] at hR
  simp only [Zg,List.map_cons] at hR
  have e1:(Ar tPD ps.l)[i]?.getD []=tPD ps.l[i]:=by simp [Ar,h2]
  have e1':∀ h,(Ar tPD ps.l)[i]'h=tPD ps.l[i]:=fun h=>by simp [Ar]
  have hq:=hp _ (List.getElem_mem h2)
  generalize ps.l[i]=q at *
  have ep:=qHN (Γ:=Γ) q hq c hc
  have ih:=qGW v ps hl hp c hc R h0 k (i+1) (out++[(qAa q c).inn]) (by omega) (by simp [ho]) (by rw [← hR]; simp [Zg])
  have vs:=Be (f:=tV) (l:=out) (x:=(qAa q c).inn)
  have vt:(Ac tV out).take i=Ac tV out:=by rw [← ho]; exact Ag
  generalize qAa q c=p at *
  have h3:(i:Int)<ps.l.length:=by omega
  have w1:=B5 (i:=i) (by omega)
  have hw1:∀ t:T,Cm 1 [[t]]:=fun t e he=>by simp at he; subst he; rfl
  simp only [tPD] at e1 e1' ep
  simp only [tP,tV] at ep vs
  simp only [tV] at e1 e1'
  simp [tC,A5,A8,Ad,B6] at ep
  simp [Xa,Ax,tV,tC,A5,A8,Ad,B6] at ih
  simp [Xa,Ax,tV,tC,A5,A8,Ad,B6,Aa,qKW,h2,h3,e1,e1']
  refine M3 ep rfl ?_
  simp [hw1,vt,vs,ho,w1,A0]
  refine ⟨by omega,?_⟩
  rw [hK]
  simpa using ih
theorem qHW (v:Sl Int) (ps:Sl PD) (hl:ps.l.length≤1000000) (hp:∀ q ∈ ps.l,q9C q) (c:B0) (h:MOk c) :
  Ab Tryz.prog Γ 23 [.agg (Xa v ps),.agg (tC c)] (.tup [.agg (B7 (q4p v.l c)),.sl (Ac tV (Zg c ps.l)) none none]):=by
 refine Aq q7O rfl ?_
 have e1:=qHU (Γ:=Γ) v c h.ok h.n h.cm (fun m hm=>⟨(h.mf m hm).1.2,(h.mf m hm).2.1.2⟩)
 have g:=fun Q h0=>qGW (Γ:=Γ) (Q:=Q) v ps hl hp c h.ok (Zg c ps.l) h0 ps.l.length 0 [] (by omega) rfl (by simp)
 have ml:(Zg c ps.l).length=ps.l.length:=by simp [Zg]
 have ht:(Ac tV (Zg c ps.l)).take ps.l.length=Ac tV (Zg c ps.l):=by rw [← ml]; exact Ag
 generalize q4p v.l c=s at *
 generalize Zg c ps.l=R at *
 simp [tC,A5,A8,Ad,B6,tV,B7,tW,Ig] at e1
 simp [Xa,Ax,tV,tC,A5,A8,Ad,B6,Cd] at g
 simp [q1o,Xa,tV,tC,A5,A8,Ad,B6]
 refine g _ ?_
 simp [St.freeze,B9.closed,Bl,frz1,frz0,Du,del,Ai,ht]
 refine A9 e1 rfl ?_
 simp [q1p,Ai,Ah,B7,tV,tW,Ig]
theorem qGX {Q:AX→St→Prop} (l:List Int) (hl:l.length≤1000000) (c1 c2:Option Nat) (n1 n2:Option Bool)
  (h0:Q (.exit 0) ⟨[(0,.t (.sl (Av l) c1 n1)),(1,.t (.sl (Av l) c2 n2)),(5,.t (tI l.length)),(21,.t (tB false))],[]⟩) :
  ∀ (k i:Nat),k+i=l.length→run Tryz.prog Γ Uk Q ⟨[(0,.t (.sl (Av l) c1 n1)),(1,.t (.sl (Av l) c2 n2)),(5,.t (tI i))],[]⟩
 | 0,i,h=>by
  refine q0h fun K hK=>?_
  have h2:i=l.length:=by omega
  subst h2
  simp [A0]
  simpa using h0
 | k+1,i,h=>by
  refine q0h fun K hK=>?_
  have h2:i<l.length:=by omega
  have e1:=gE (f:=tI) 0 h2
  have e1':=gE' (f:=tI) 0 h2
  rw [Bv h2] at e1 e1'
  generalize l[i]=x at *
  have ih:=qGX l hl c1 c2 n1 n2 h0 k (i+1) (by omega)
  have h3:(i:Int)<l.length:=by omega
  have w1:=B5 (i:=i) (by omega)
  simp [A0,A6,h2,h3,e1,e1',w1]
  rw [hK]
  simpa using ih
theorem q8J (l:List Int) (hl:l.length≤1000000) (c2:Option Nat) (n1 n2:Option Bool) :
  A3 Tryz.prog Γ 20 [.sl (Av l) (some l.length) n1,.sl (Av l) c2 n2] (tI 0):=by
 refine A7 qAm rfl ?_
 have g:=fun Q h0=>qGX (Γ:=Γ) (Q:=Q) l hl (some l.length) c2 n1 n2 h0 l.length 0 (by omega)
 simp at g
 simp [q5U,A0]
 refine g _ ?_
 simp [q5V]
def q2M (ds:List Int):Nat→List Int→List Int
 | _,[]=>[]
 | i,n::ns=>if I4 (ds.getD i 0)=true then n::q2M ds (i+1) ns else q2M ds (i+1) ns
theorem qAq {ds:List Int}:∀ {ns:List Int} {i:Nat},(q2M ds i ns).length≤ns.length
 | [],_=>by simp [q2M]
 | n::ns,i=>by
  have:=qAq (ds:=ds) (ns:=ns) (i:=i+1)
  simp only [q2M]
  split <;> simp <;> omega
theorem qFb {Q:AX→St→Prop} (S:Hk) (ns:List Int) (hn:ns.length≤100000) (hd:S.dff.l.length=ns.length) (R:List Int)
  (h0:Q (.exit 0) ⟨[(7,.lp 7 0 0),(9,.ls 41 0 R.length none),(25,.t (.sl (Av ns) (some ns.length) none)),(26,.t (tI ns.length)),(27,.t (tI ns.length)),(28,.t (tB false))],[(7,.bx ((B7 S).map .t)),(41,.sl 3 1 (Av R))]⟩) :
  ∀ (k i:Nat) (out:List Int),k+i=ns.length→out.length≤i→out++q2M S.dff.l i (ns.drop i)=R →
  run Tryz.prog Γ Kw Q ⟨[(7,.lp 7 0 0),(9,.ls 41 0 out.length none),(25,.t (.sl (Av ns) (some ns.length) none)),(26,.t (tI ns.length)),(27,.t (tI i))],[(7,.bx ((B7 S).map .t)),(41,.sl 3 1 (Av out))]⟩
 | 0,i,out,h,ho,hR=>by
  refine Sz fun K hK=>?_
  have h2:i=ns.length:=by omega
  subst h2
  rw [List.drop_length] at hR
  simp only [q2M,List.append_nil] at hR
  subst hR
  simp [B7,tV,tW,Ig] at h0
  simp [B7,tV,tW,Ig]
  simpa using h0
 | k+1,i,out,h,ho,hR=>by
  refine Sz fun K hK=>?_
  have h2:i<ns.length:=by omega
  have h2d:i<S.dff.l.length:=by omega
  rw [List.drop_eq_getElem_cons h2] at hR
  simp only [q2M] at hR
  have e1:=gE (f:=tI) 0 h2
  have e1':=gE' (f:=tI) 0 h2
  rw [Bv h2] at e1 e1'
  have e2:=gE (f:=tK) 0 h2d
  have e2':=gE' (f:=tK) 0 h2d
  generalize ns[i]=x at *
  generalize S.dff.l.getD i 0=d at *
  have hk:=Ot (Γ:=Γ) d
  have h3:(i:Int)<ns.length:=by omega
  have h4:(i:Int)<S.dff.l.length:=by omega
  have w1:=B5 (i:=i) (by omega)
  by_cases hd1:I4 d=true
  ·rw [if_pos hd1] at hR
   rw [hd1] at hk
   have ih:=qFb S ns hn hd R h0 k (i+1) (out++[x]) (by omega) (by simp; omega) (by rw [← hR]; simp)
   have vs:=Be (f:=tI) (l:=out) (x:=x)
   have vt:(Av out).take out.length=Av out:=Ag
   simp [B7,tV,tW,Ig] at ih
   simp [B7,tV,tW,Ig,A0,A6,h2,h3,e1,e1',h2d,h4,e2,e2']
   refine A1 hk rfl ?_
   simp [vt,vs,w1,A0]
   refine ⟨by omega,?_⟩
   rw [hK]
   simpa using ih
  ·rw [if_neg hd1] at hR
   have hd2:I4 d=false:=by simpa using hd1
   rw [hd2] at hk
   have ih:=qFb S ns hn hd R h0 k (i+1) out (by omega) (by omega) hR
   simp [B7,tV,tW,Ig] at ih
   simp [B7,tV,tW,Ig,A0,A6,h2,h3,e1,e1',h2d,h4,e2,e2']
   refine A1 hk rfl ?_
   simp [w1]
   rw [hK]
   simpa using ih
theorem q4D {c:B0}:qFa (E3 c):=by
 refine ⟨fun h=>(nomatch h),fun w hw r hr=>?_,fun r hr=>?_⟩
 ·obtain ⟨m,_,rfl⟩:=List.mem_map.1 hw
  rw [List.eq_of_mem_replicate hr]
  exact fun h=>nomatch h
 ·obtain ⟨m,_,rfl⟩:=List.mem_map.1 hr
  exact fun h=>nomatch h
theorem qJL {n:Nat}:∀ v ∈ List.replicate n (2:Int),0≤v∧v≤2:=fun v hv=>by rw [List.eq_of_mem_replicate hv]; omega
theorem q4Z {c:B0}:Ei c (E3 c):=by
 have gm:∀ i,i<c.mems.l.length→(E3 c).words.l.getD i Sl.zz=q1V (c.mems.l.getD i Mm.d):=fun i hi=>by
  show (c.mems.l.map q1V).getD i Sl.zz=_
  simp [List.getD_eq_getElem?_getD,hi]
 have gr:∀ i,i<c.mems.l.length→(E3 c).read.l.getD i Sl.z=Kx (c.mems.l.getD i Mm.d).data.l.length:=fun i hi=>by
  show (c.mems.l.map fun m=>Kx m.data.l.length).getD i Sl.z=_
  simp [List.getD_eq_getElem?_getD,hi]
 refine ⟨by simp [E3,Kx],by simp [E3],by simp [E3],fun i hi=>by rw [gm i hi]; simp [q1V],fun i hi w hw=>?_,fun i hi=>by rw [gr i hi]; simp [Kx],qJL,fun w hw r hr=>?_,fun r hr=>?_⟩
 ·rw [gm i hi] at hw
  rw [List.eq_of_mem_replicate hw]; simp [Kx]
 ·obtain ⟨m,_,rfl⟩:=List.mem_map.1 hw
  rw [List.eq_of_mem_replicate hr]; exact qJL
 ·obtain ⟨m,_,rfl⟩:=List.mem_map.1 hr
  exact qJL
set_option maxHeartbeats 2000000 in
theorem Zh (hΓ:GOk Γ) (c:B0) (h:MOk c) (hn:c.nodes.l.length≤19) (ins:Sl (Sl Int)) (hL:ins.l.length≤1000) (hv:qBK c ins.l) :
  Ab Tryz.prog Γ 28 [.agg (tC c),tW ins] (.tup [.sl (Av (q2M (seqS c (Lp (E3 c)) (ins.l.map (·.l))).dff.l 0 (Af c))) (some (q2M (seqS c (Lp (E3 c)) (ins.l.map (·.l))).dff.l 0 (Af c)).length) none,tI 0]):=by
 refine Aq q6J rfl ?_
 have hsl:=Di c
 have e1:=q8v hΓ c h (by omega)
 have e2:=q2L hΓ c h hn (E3 c) q4Z q4D ins hL hv
 have e3:=Et (Γ:=Γ) c h.ok
 have K:=(q9X h ((qAp q4D).ok (q4Z (c:=c))) hv.seq).d
 generalize seqS c (Lp (E3 c)) (ins.l.map (·.l))=S at *
 generalize seqR c (Lp (E3 c)) (ins.l.map (·.l))=RR at *
 generalize E3 c=b at *
 have g:=fun Q h0=>qFb (Γ:=Γ) (Q:=Q) S (Af c) (by omega) K (q2M S.dff.l 0 (Af c)) h0 (Af c).length 0 [] (by omega) (by simp) (by simp)
 have sl:=qAq (ds:=S.dff.l) (ns:=Af c) (i:=0)
 generalize q2M S.dff.l 0 (Af c)=R at *
 have hc:=q6j (Γ:=Γ) (Av R) none none A6
 rw [A0] at hc
 have ht:(Av R).take R.length=Av R:=Ag
 simp [B7,tV,tW,Ig,tC,A5,A8,Ad,B6] at e1 e2 e3
 simp [B7,tV,tW,Ig,Cd] at g
 simp [q0f,B7,tV,tW,Ig,tC,A5,A8,Ad,B6]
 refine Dt e1 rfl ?_
 simp
 refine Dt e2 rfl ?_
 simp
 refine A9 e3 rfl ?_
 simp [A0]
 refine g _ ?_
 simp [St.freeze,B9.closed,Bl,frz1,frz0,Du,del,Ai,ht]
 refine A9 hc rfl ?_
 simp [q0g]
end Go.Lg
namespace Go.Lg
open Go Go.Proofs Go.Proofs.YtnhgdofpomioeaaGreatDoor
theorem qKX:Tryz.prog.cellsOf 54=2:=by kernel_rfl
theorem qKY:Rd Tryz.prog 52 fun ts=>∃ s:Sl PD,ts=[.sl (Ar tPD s.l) s.cap s.nl]∧∀ q ∈ s.l,q9C q:=by
 refine (q6f Tryz.underlying52 qGJ (by decide) qP5).mono fun ts ⟨es,cap,nl,h,_,hes⟩=>?_
 obtain ⟨l,rfl,hl⟩:=q6u (f:=tPD) (Q:=q9C) fun x hx=>(hes x hx).1
 exact ⟨⟨l,cap,nl⟩,h,hl⟩
theorem qKZ:Tryz.prog.cellsOf 52=1:=by kernel_rfl
theorem qMU:Rd Tryz.prog 54 fun ts=>∃ v ps,ts=Xa v ps∧(∀ b ∈ v.l,Byt b)∧∀ q ∈ ps.l,q9C q:=by
 refine (q17 (l:=[(1,fun ts=>∃ s:Sl Int,ts=[tV s]∧∀ b ∈ s.l,Byt b),(1,fun ts=>∃ s:Sl PD,ts=[.sl (Ar tPD s.l) s.cap s.nl]∧∀ q ∈ s.l,q9C q)]) Tryz.underlying54 qKX
  (.cons rfl qGV qP8 (.cons rfl qKZ qKY (.nil _)))).mono fun ts h=>?_
 obtain ⟨_,_,rfl,⟨a,rfl,ha⟩,_,_,rfl,⟨q,rfl,hq⟩,rfl⟩:=h
 exact ⟨a,q,by simp [Xa],ha,hq⟩
end Go.Lg
namespace Go.Proofs.YtnhgdofpomioeaaGreatDoor
open Go Go.Lg Go.ChangeShapes Go.WideShapes Go.ChangeAt Go.RowKit
theorem qNN {H:Type} {enc:TypeId × Value→H} {W:World} {base:Nat} {v:Value} {d:DataW H} {p:List MemPlace} (hval:Value.okWide Tryz.prog W .any base 54 v) (h:DataW.Trod enc Tryz.prog W 0 (fun _=>true) true 54 v d p):∃ s ps,(∀ b ∈ s.l,Byt b)∧(∀ q ∈ ps.l,q9C q)∧TR W (Old W) (.agg (Xa s ps)) v:=by
 simp only [Value.okWide,Tryz.underlying54] at hval
 obtain ⟨cs,rfl,_,_⟩:=hval
 obtain ⟨fuel,hf⟩:=h
 obtain ⟨ts,⟨s,ps,rfl,h1,h2⟩,htr,ho⟩:=qMU H enc W true fuel _ _ hf
 exact ⟨s,ps,h1,h2,qIK htr ho⟩
end Go.Proofs.YtnhgdofpomioeaaGreatDoor
namespace Go.Lg
open Go
section
variable {P:Program} {Γ:Tables} {w0:World} {B:Nat} {κ:Da} {X0:Nat→Prop} {N:Nat} {a:Act} {w:World}
def q4E:List IC→IC→IC
 | [],r=>r
 | a::l,r=>.seq a (q4E l r)
theorem qGY {x y:IC} {d:Code} (h:Ni P N (.seq x y) d=true):∃ d1 d2,d=.seq d1 d2∧Ni P N x d1=true∧Ni P N y d2=true:=by
 cases d <;> simp [Ni] at h
 rename_i d1 d2
 exact ⟨d1,d2,rfl,h.1,h.2⟩
def q8w:Nat→Code→Option Bool
 | 0,.seq (.region _ _ dr) _=>some dr
 | n+1,.seq _ d=>q8w n d
 | _,_=>none
theorem q6K (hN:N≤1000000) (hm:P.follows .mixedOrders=true) {Qw:Exit→Act→World→Prop} {rest:IC} {sE:St}:∀ {ms:List IC} {d:Code} {s:St} {a:Act} {w:World},Ni P N (q4E ms rest) d=true→Inv Γ w0 B κ X0 N s a w →
  awp P Γ (q4E ms .skip) (fun e s'=>e=.normal∧s'=sE) s→(∀ d2 a' w',Ni P N rest d2=true→(∀ k,q8w k d2=q8w (k+ms.length) d)→Inv Γ w0 B κ X0 N sE a' w'→d2.wp P Qw a' w')→d.wp P Qw a w
 | [],d,s,a,w,h,hI,ha,hk=>by
  obtain ⟨_,rfl⟩:=ha
  exact hk d a w h (fun _=>rfl) hI
 | m::ms,d,s,a,w,h,hI,ha,hk=>by
  obtain ⟨d1,d2,rfl,h1,h2⟩:=qGY h
  refine wp_seq (wp_mono (Ef hN hm h1 hI ha) ?_)
  rintro e a' w' ⟨x,s1,rfl,hI1,hq⟩
  cases x with
  | normal=>exact q6K hN hm h2 hI1 hq fun d3 a' w' h3 hr hI3=>hk d3 a' w' h3 (fun k=>(hr k).trans rfl) hI3
  | exit i=>exact absurd hq.1 (by simp)
  | ret=>exact absurd hq.1 (by simp)
theorem qAr {f:FuncId} {ic:IC} {n:Nat} {rvs:List RV} {args:List T} {res:T} (hc:Ao P f ic N n rvs=true) (hn:args.length=n)
  (h:∀ (w:World) (X:Nat→Prop) (c:Code) (a:Act),N≤1000000→P.follows .mixedOrders=true→Gl Γ w X→(∀ b,X b→b<w.heap.size)→Ni P N ic c=true→(P.funcs[f]?).bind (·.body)=some c→Inv Γ w w.heap.size (fun _=>none) X N ⟨params 0 args,[]⟩ a w→∀ Qw:Exit→Act→World→Prop,
   (∀ rest d2 s' a' w',Ni P N rest d2=true→Inv Γ w w.heap.size (fun _=>none) X N s' a' w'→awp P Γ rest (qH0 rvs res) s'→d2.wp P Qw a' w')→c.wp P Qw a w):Ab P Γ f args res:=by
 intro w X vs hg hx hts
 refine .inl ⟨q3E hc vs.toArray,?_⟩
 unfold Ao at hc
 split at hc
 case h_2=>cases hc
 rename_i fn hf
 simp only [Bool.and_eq_true,Bool.not_eq_true',decide_eq_true_eq,beq_iff_eq] at hc
 obtain ⟨⟨⟨⟨⟨⟨h1,h2⟩,h3⟩,h4⟩,h5⟩,h6⟩,h7⟩:=hc
 cases hb:fn.body with
 | none=>rw [hb] at h1; cases h1
 | some c =>
  rw [hb] at h1
  subst h3
  refine calls_of_wp hf hb ?_
  have hI:=Inv.start (N:=fn.ntmps) hg hx hts (by rw [← hts.1,hn]; exact h5)
  refine h w X c _ h4 h7 hg hx h1 (by rw [hf]; exact hb) hI _ fun rest d2 s' a' w' hr hI' hq=>?_
  refine wp_mono (Ef h4 h7 hr hI' hq) ?_
  rintro e a w' ⟨x,s,rfl,⟨X',μ,hsim,hg',h0,hbd,hsz,hds⟩,hq⟩
  have fin:∀ c,q16 s rvs=some (c,res)→c→a.defers=[]∧∃ v,(results fn a.tmps).run P w'=.ok v w'∧∃ u,Ending.returned v=.returned u∧RowKit.Below w.heap.size w w'∧TR w' (fun b=>X b∨(w.heap.size≤b∧b<w'.heap.size)) res u:=by
   intro c hr hcc
   obtain ⟨v,h8,h9⟩:=q9z hsim h6 hr hcc
   refine ⟨hds,v,h8,v,rfl,⟨hsim.os,hsim.tape,hsim.output,hsim.size,fun k hk=>hsim.fr k hk (fun id n h=>by cases h)⟩,h9.mono (fun _ _=>rfl) fun b hb=>?_⟩
   rcases hb with hb | ⟨id,n,hi,hm⟩
   ·rcases hbd b hb with h | h | ⟨_,_,h⟩
    ·exact .inl h
    ·exact .inr ⟨h,hsim.xlt b hb⟩
    ·cases h
   ·obtain ⟨_,h10,h11⟩:=hsim.loc id b n hi hm
    refine .inr ⟨?_,h10⟩
    rcases Nat.lt_or_ge b w.heap.size with h | h
    ·obtain ⟨_,_,h⟩:=h11 h; cases h
    ·exact h
  cases x with
  | normal=>obtain ⟨c,hr,hcc⟩:=hq; exact fin c hr hcc
  | ret=>obtain ⟨c,hr,hcc⟩:=hq; exact fin c hr hcc
  | exit i=>exact hq.elim
theorem qJM {c:IC} {rvs:List RV} {res:T} {s:St} (h:run P Γ c (ret false rvs fun r=>r=res) s):awp P Γ c (qH0 rvs res) s:=by
 refine Bq (Jn h) fun e s h=>?_
 obtain ⟨r,hr,hq⟩:=qIG h
 subst hr
 exact hq
end
end Go.Lg
namespace Go.Lg
open Go
section
variable {P:Program} {N:Nat} {a:Act} {w:World} {Q K:Exit→Act→World→Prop}
def qBL (b:Int):List RO:=[⟨some 156,.fadr 0 (.tmp 1),none,none⟩,⟨some 157,.load 1 false (.tmp 156),none,none⟩,⟨some 158,.iadr 4 (.tmp 157) (.const (.int .i64 2)),none,none⟩,⟨some 159,.fadr 0 (.tmp 158),none,none⟩,⟨none,.store 1 (.tmp 159) (.const (.int .u8 b)),none,none⟩]
theorem q4F {ops:List Oper} {ro:RO} {o:Oper} (h:q9r P N ops ro o=true) (hg:ro.guard=none):ro.dst=o.dst∧Q4 P ro.op o.op=true∧o.guard=none∧∀ d,ro.dst=some d→d<N:=by
 simp only [q9r,Bool.and_eq_true,decide_eq_true_eq,hg] at h
 obtain ⟨⟨⟨⟨⟨h1,h2⟩,_⟩,h3⟩,_⟩,h4⟩:=h
 refine ⟨h1,h2,?_,fun d hd=>by rw [hd] at h3; simpa using h3⟩
 cases hg:o.guard with
 | none=>rfl
 | some x=>rw [hg] at h4; cases h4
theorem q8x {o:Oper} {m:Nat→Option Bool} (h:o.guard=none):Region.wanted o m=true:=by simp [Region.wanted,h]
theorem q7Q {o:Oper} {ops:Array Oper} {os:List Oper} {v:Value} (hg:o.guard=none) (hr:(execOp a.eval o).run P w=.ok (.value v) w) (hK:wpList P ops Q os (a.put o.dst v) w):wpList P ops Q (o::os) a w:=by
 unfold wpList
 rw [q8x hg,if_pos rfl]
 left
 unfold Oper.wp
 rw [hr,Oper.upon_value]
 exact hK
theorem qHX {o:Oper} {ops:Array Oper} {os:List Oper} {w':World} (hg:o.guard=none) (hr:(execOp a.eval o).run P w=.ok .skip w') (hK:wpList P ops Q os (a.put o.dst undef) w'):wpList P ops Q (o::os) a w:=by
 unfold wpList
 rw [q8x hg,if_pos rfl]
 left
 unfold Oper.wp
 rw [hr,Oper.upon_skip]
 exact hK
theorem q9Y {d:Nat} {v:Value} (h:d<a.tmps.size):(a.put (some d) v).tmps.getD d undef=v:=by
 simp [Act.put,Array.getD,h]
theorem q2N {d t:Nat} {v:Value} (h:t ≠ d):(a.put (some d) v).tmps.getD t undef=a.tmps.getD t undef:=by
 simp only [Act.put]
 rw [Array.getD_eq_getD_getElem?,Array.getD_eq_getD_getElem?,Array.getElem?_setIfInBounds_ne (fun e=>h e.symm)]
theorem Lq {d:Option Nat} {v:Value}:(a.put d v).tmps.size=a.tmps.size:=by cases d <;> simp [Act.put]
theorem Zi {d:Option Nat} {v:Value}:(a.put d v).defers=a.defers:=by cases d <;> rfl
theorem q7R {t:Nat}:a.eval (.tmp t)=a.tmps.getD t undef:=rfl
theorem qFc {gs:List Gh} {d:Code} {b:Int} {g1 gR c ty1 ty:Nat} {vs:List Value} {arr:Array Value} (hc:Ni P N (.reg (qBL b) gs) d=true) (hdr:∀ id ops dr,d=.region id ops dr→dr=false)
  (hsz:a.tmps.size=N) (h1:a.tmps.getD 1 undef=.pointer (some ⟨g1,0,none⟩)) (hh1:w.heap[g1]? = some (.cells ((.slice (some ⟨gR,0,none⟩) 3 c)::vs).toArray ty1 (0,0))) (hhR:w.heap[gR]? = some (.cells arr ty (0,0))) (hl:9≤arr.size)
  (hK:∀ a',a'.tmps.size=N→a'.defers=a.defers→(∀ t,t<156→a'.tmps.getD t undef=a.tmps.getD t undef)→Q .normal a' (w.setRow gR (arr.toList.take 8++[Value.int .u8 b]++arr.toList.drop 9).toArray)):d.wp P Q a w:=by
 cases d <;> simp only [Ni,Bool.false_eq_true] at hc
 rename_i id ops dr
 have:=hdr id ops dr rfl
 subst this
 simp only [Bool.and_eq_true] at hc
 refine wp_region_list ?_
 have hc:=hc.1
 generalize hos:ops.toList=os at hc ⊢
 match os,hc with
 | [],hc=>simp [qBL,Rq] at hc
 | [_],hc=>simp [qBL,Rq] at hc
 | [_,_],hc=>simp [qBL,Rq] at hc
 | [_,_,_],hc=>simp [qBL,Rq] at hc
 | [_,_,_,_],hc=>simp [qBL,Rq] at hc
 | _::_::_::_::_::_::_,hc=>simp [qBL,Rq] at hc
 | [o1,o2,o3,o4,o5],hc =>
  simp only [qBL,Rq,Bool.and_eq_true,and_true] at hc
  obtain ⟨c1,c2,c3,c4,c5⟩:=hc
  obtain ⟨d1,k1,g1',n1⟩:=q4F c1 rfl
  obtain ⟨d2,k2,g2',n2⟩:=q4F c2 rfl
  obtain ⟨d3,k3,g3',n3⟩:=q4F c3 rfl
  obtain ⟨d4,k4,g4',n4⟩:=q4F c4 rfl
  obtain ⟨d5,k5,g5',_⟩:=q4F c5 rfl
  have n1:=n1 156 rfl
  have n2:=n2 157 rfl
  have n3:=n3 158 rfl
  have n4:=n4 159 rfl
  simp only at d1 d2 d3 d4 d5 k1 k2 k3 k4 k5
  -- the address of the field
  have r1:∀ {o:Oper} {t g q:Nat} {a:Act},Q4 P (.fadr 0 (.tmp t)) o.op=true→a.tmps.getD t undef=.pointer (some ⟨g,q,none⟩)→(execOp a.eval o).run P w=.ok (.value (.pointer (some ⟨g,q,none⟩))) w:=fun {o t g q a} hk ha=>by
   generalize hop:o.op=op at hk
   simp only [Q4] at hk
   split at hk
   case h_2=>cases hk
   rename_i ty b' i
   simp only [Bool.and_eq_true] at hk
   obtain ⟨hb,hk⟩:=hk
   have:=Aj hb; subst this
   split at hk
   case h_2=>cases hk
   rename_i fs hu
   split at hk
   case h_2=>cases hk
   rename_i f hf
   simp only [Bool.and_eq_true,beq_iff_eq] at hk
   obtain ⟨ho,hs⟩:=hk
   split at hs
   case h_2=>cases hs
   rename_i s hs'
   have hp:0<s:=by simpa using hs
   simp [execOp,hop,q7R,ha,Zm hu hf ho hs' hp]
  refine q7Q g1' (r1 k1 h1) ?_
  rw [← d1]
  -- the load
  have e2:(a.put (some 156) (.pointer (some ⟨g1,0,none⟩))).tmps.getD 156 undef=.pointer (some ⟨g1,0,none⟩):=q9Y (by omega)
  have r2:(execOp (a.put (some 156) (.pointer (some ⟨g1,0,none⟩))).eval o2).run P w=.ok (.value (.slice (some ⟨gR,0,none⟩) 3 c)) w:=by
   generalize hop:o2.op=op at k2
   simp only [Q4] at k2
   split at k2
   case h_2=>cases k2
   rename_i ty b'
   simp only [Bool.and_eq_true,beq_iff_eq] at k2
   obtain ⟨⟨⟨hb,hz⟩,ha⟩,_⟩:=k2
   have:=Aj hb; subst this
   have hl:=Xv (P:=P) (w:=w) (b:=g1) (off:=0) (xs:=[.slice (some ⟨gR,0,none⟩) 3 c]) hz ha rfl rfl (fun j x hj=>by
    match j,hj with
    | 0,hj=>cases hj; simp [World.cell?,hh1]
    | j+1,hj=>simp at hj)
   simp [execOp,hop,q7R,e2,hl]
  refine q7Q g2' r2 ?_
  rw [← d2]
  -- the element's address
  generalize hA2:(a.put (some 156) (.pointer (some ⟨g1,0,none⟩))).put (some 157) (.slice (some ⟨gR,0,none⟩) 3 c)=a2
  have e3:a2.tmps.getD 157 undef=.slice (some ⟨gR,0,none⟩) 3 c:=by rw [← hA2]; exact q9Y (by rw [Lq]; omega)
  have r3:(execOp a2.eval o3).run P w=.ok (.value (.pointer (some ⟨gR,8,none⟩))) w:=by
   generalize hop:o3.op=op at k3
   simp only [Q4] at k3
   split at k3
   case h_2=>cases k3
   rename_i ty y j
   simp only [Bool.and_eq_true] at k3
   obtain ⟨⟨hb,hj⟩,hk⟩:=k3
   have:=Aj hb; subst this
   have:=Aj hj; subst this
   split at hk
   case h_2=>cases hk
   rename_i e hu
   have hz:Oh P e=some 4:=by simpa using hk
   have e4:a2.eval (.const (.int .i64 2))=.int .i64 2:=rfl
   simp [execOp,hop,q7R,e3,e4,Instr.indexAt,asIntOf,run_underlying (C2 hu),Dk hz,Addr.add_lit]
  refine q7Q g3' r3 ?_
  rw [← d3]
  have e5:(a2.put (some 158) (.pointer (some ⟨gR,8,none⟩))).tmps.getD 158 undef=.pointer (some ⟨gR,8,none⟩):=q9Y (by rw [← hA2,Lq,Lq]; omega)
  refine q7Q g4' (r1 k4 e5) ?_
  rw [← d4]
  generalize hA4:(a2.put (some 158) (.pointer (some ⟨gR,8,none⟩))).put (some 159) (.pointer (some ⟨gR,8,none⟩))=a4
  have e6:a4.tmps.getD 159 undef=.pointer (some ⟨gR,8,none⟩):=by rw [← hA4]; exact q9Y (by rw [Lq,← hA2,Lq,Lq]; omega)
  -- the store
  have r5:(execOp a4.eval o5).run P w=.ok .skip (w.setRow gR (arr.toList.take 8++[Value.int .u8 b]++arr.toList.drop 9).toArray):=by
   generalize hop:o5.op=op at k5
   simp only [Q4] at k5
   split at k5
   case h_2=>cases k5
   rename_i ty y z
   simp only [Bool.and_eq_true,beq_iff_eq] at k5
   obtain ⟨⟨hb,hx⟩,hz⟩:=k5
   have:=Aj hb; subst this
   have:=Aj hx; subst this
   have hst:=q36 (P:=P) (w:=w) (v:=.int .u8 b) (o:=8) hz rfl (fun x hx=>by simp [Value.cells] at hx; subst hx; rfl) hhR hl
   have e7:a4.eval (.const (.int .u8 b))=.int .u8 b:=rfl
   simp only [execOp,hop,q7R,e6,e7,Sem.run_bind,hst]
   rfl
  refine qHX g5' r5 ?_
  rw [← d5]
  unfold wpList
  refine hK _ ?_ ?_ fun t ht=>?_
  ·rw [Lq,← hA4,Lq,Lq,← hA2,Lq,Lq,hsz]
  ·rw [Zi,← hA4,Zi,Zi,← hA2,Zi,Zi]
  ·show (a4.put none undef).tmps.getD t undef=_
   show a4.tmps.getD t undef=_
   rw [← hA4,q2N (by omega),q2N (by omega),← hA2,q2N (by omega),q2N (by omega)]
end
end Go.Lg
namespace Go.Lg
open Go
section
variable {P:Program} {Γ:Tables} {N:Nat}
def qFd (ty:Nat) (nE:List (List T)) (nm mm ou o z:T):St:=⟨[(1,.lp 1 0 0),(2,.t o),(3,.t z)],[(1,.bx [.ls 21006 0 3 none,.t nm,.t mm,.t ou]),(21006,.sl ty 4 nE)]⟩
def thM (nE:List (List T)) (nm mm ou o z:T) (vN v1 v2 v3 vz:Value):St:=⟨[(1,.lp 1000000 0 0),(2,.t o),(3,.t (.pin z vz))],[(1000000,.bx [.t (.pin (.sl nE none none) vN),.t (.pin nm v1),.t (.pin mm v2),.t (.pin ou v3)])]⟩
def thE (nE:List (List T)) (nm mm ou z:T) (vN v1 v2 v3 vz:Value) (f0 f1 f2 f3 f4 s11 s12 s17 s18:T):St :=
 ⟨[(1,.lp 1000000 0 0),(3,.t (.pin z vz)),(7,.lp 7 0 0),(11,.t s11),(12,.t s12),(17,.t s17),(18,.t s18)],[(7,.bx [.t f0,.t f1,.t f2,.t f3,.t f4]),(1000000,.bx [.t (.pin (.sl nE none none) vN),.t (.pin nm v1),.t (.pin mm v2),.t (.pin ou v3)])]⟩
def thS (nE:List (List T)) (nm mm ou z:T) (y0 y1 y2 y4:Value) (f3 s11 s12 s17 s18:T):St :=
 ⟨[(1,.t (.ip [.sl nE none none,nm,mm,ou] 0)),(3,.t z),(7,.t (.ip [.v y0,.v y1,.v y2,f3,.v y4] 0)),(11,.t s11),(12,.t s12),(17,.t s17),(18,.t s18)],[]⟩
theorem qOK {arr:Array Value} (h:arr.size=4):∃ a b c d,arr=#[a,b,c,d]:=by
 obtain ⟨l⟩:=arr
 match l,h with
 | [a,b,c,d],_=>exact ⟨a,b,c,d,rfl⟩
theorem qP9 {arr:Array Value} (h:arr.size=5):∃ a b c d e,arr=#[a,b,c,d,e]:=by
 obtain ⟨l⟩:=arr
 match l,h with
 | [a,b,c,d,e],_=>exact ⟨a,b,c,d,e,rfl⟩
theorem q9Z {w:World} {g j ty:Nat} {arr:Array Value} {q:Nat × Nat} {x:Value} (h:w.heap[g]? = some (.cells arr ty q)) (hj:arr[j]? = some x):w.cell? ⟨g,j,none⟩=some x:=by
 simp [World.cell?,h,hj]
theorem q9a {w w':World} {X Y:Nat→Prop} {t:T} {x:Value} (h:TR w X t x) (hf:Hy t=true):TR w' Y t x:=by
 cases h with
 | v x=>exact .v x
 | nil cap nl a c hc hn hz=>exact .nil cap nl a c hc hn hz
 | sl es cap nl s b off c f hcell hlen hrel hone hx hle hc hn =>
  cases es with
  | nil=>exact .nil cap nl _ c hc (fun q hq=>by rw [hn q hq]; rfl) (fun e=>by cases e)
  | cons e es=>simp [Hy] at hf
 | agg=>simp [Hy] at hf
 | tup=>simp [Hy] at hf
 | ip=>simp [Hy] at hf
 | fn=>simp [Hy] at hf
 | mpnil=>simp [Hy] at hf
 | mp=>simp [Hy] at hf
 | pin=>simp [Hy] at hf
theorem qHY {w w':World} {X Y:Nat→Prop} {l:List Int} {cap:Option Nat} {nl:Option Bool} {v:Value} {g j:Nat} {b:Int} (h:TR w X (.sl (l.map fun n=>[.v (.int .i64 n)]) cap nl) v) (hg:w.cell? ⟨g,j,none⟩=some (.int .u8 b))
  (hs:∀ k i,X k→¬ (k=g∧i=j)→w'.cell? ⟨k,i,none⟩=w.cell? ⟨k,i,none⟩) (hxy:∀ k,X k→Y k):TR w' Y (.sl (l.map fun n=>[.v (.int .i64 n)]) cap nl) v:=by
 generalize he:l.map (fun n=>[T.v (.int .i64 n)])=es at h
 cases h with
 | nil cap nl a c hc hn hz=>exact .nil cap nl a c hc hn hz
 | sl es cap nl s bb off c f hcell hlen hrel hone hx hle hc hn =>
  by_cases hes:es=[]
  ·subst hes
   exact .nil cap nl _ c hc (fun q hq=>by rw [hn q hq]; rfl) (fun e=>by cases e)
  have s1:s=1:=by
   cases es with
   | nil=>exact absurd rfl hes
   | cons e es =>
    have:=hlen 0 e rfl
    cases l with
    | nil=>cases he
    | cons n l=>simp only [List.map_cons,List.cons.injEq] at he; rw [← he.1] at this; exact this.symm
  subst s1
  have hrow:∀ i,i<es.length→∃ n,es[i]? = some [T.v (.int .i64 n)]:=fun i hi=>by
   rw [← he] at hi ⊢
   simp only [List.length_map] at hi
   exact ⟨l[i],by simp [hi]⟩
  refine .sl es cap nl 1 bb off c f (fun i k hi hk=>?_) hlen (fun i k e t h1 h2=>?_) hone (hxy _ hx) hle hc hn
  ·rw [hs _ _ hx ?_]
   ·exact hcell i k hi hk
   ·rintro ⟨rfl,rfl⟩
    have h1:=hcell i k hi hk
    rw [hg] at h1
    obtain ⟨n,hn'⟩:=hrow i hi
    have k0:k=0:=by omega
    subst k0
    have h2:=(hrel i 0 _ _ hn' rfl).v_inv
    rw [h2] at h1
    cases h1
  ·have hi:=(List.getElem?_eq_some_iff.1 h1).1
   obtain ⟨n,hn'⟩:=hrow i hi
   rw [hn'] at h1
   cases h1
   have h3:=(hrel i k _ t hn' h2)
   have hk:=(List.getElem?_eq_some_iff.1 h2).1
   have k0:k=0:=by simpa using hk
   subst k0
   simp at h2
   subst h2
   rw [h3.v_inv]
   exact .v _
def Rf {α:Type} (e0 e1 e2 e3 e4 e5 e6 e7 e8 e9 e10 e11:α):List (List α):=[[e0,e1,e2,e3],[e4,e5,e6,e7],[e8,e9,e10,e11]]
theorem qAs {α:Type} {e0 e1 e2 e3 e4 e5 e6 e7 e8 e9 e10 e11:α} {i k:Nat} {e:List α} {t:α} (h1:(Rf e0 e1 e2 e3 e4 e5 e6 e7 e8 e9 e10 e11)[i]? = some e) (h2:e[k]? = some t) :
  i<3∧k<4∧[e0,e1,e2,e3,e4,e5,e6,e7,e8,e9,e10,e11][i*4+k]? = some t:=by
 unfold Rf at h1
 match i,h1 with
 | 0,h1=>cases h1; match k,h2 with
  | 0,h2=>exact ⟨by omega,by omega,h2⟩
  | 1,h2=>exact ⟨by omega,by omega,h2⟩
  | 2,h2=>exact ⟨by omega,by omega,h2⟩
  | 3,h2=>exact ⟨by omega,by omega,h2⟩
  | k+4,h2=>simp at h2
 | 1,h1=>cases h1; match k,h2 with
  | 0,h2=>exact ⟨by omega,by omega,h2⟩
  | 1,h2=>exact ⟨by omega,by omega,h2⟩
  | 2,h2=>exact ⟨by omega,by omega,h2⟩
  | 3,h2=>exact ⟨by omega,by omega,h2⟩
  | k+4,h2=>simp at h2
 | 2,h1=>cases h1; match k,h2 with
  | 0,h2=>exact ⟨by omega,by omega,h2⟩
  | 1,h2=>exact ⟨by omega,by omega,h2⟩
  | 2,h2=>exact ⟨by omega,by omega,h2⟩
  | 3,h2=>exact ⟨by omega,by omega,h2⟩
  | k+4,h2=>simp at h2
 | i+3,h1=>simp at h1
set_option maxHeartbeats 4000000 in
theorem qOL (hN:N≤1000000) (hmx:P.follows .mixedOrders=true) {w:World} {X:Nat→Prop} (hX:∀ b,X b→b<w.heap.size) (hg:Gl Γ w X) {a1:Act} {w1:World} {ty:Nat} {e0 e1 e2 e3 e4 e5 e6 e7 e9 e10 e11 nm mm ou o z:T} {b8 b8':Int}
  {ms:List IC} {gs:List Gh} {rest:IC} {d:Code} {f0 f1 f2 f4 s11 s12 s17 s18:T} {lo:List Int} {co:Option Nat} {no:Option Bool} {rvs:List RV} {res:T} {Qw:Exit→Act→World→Prop}
  (hI:Inv Γ w w.heap.size (fun _=>none) X N (qFd ty (Rf e0 e1 e2 e3 e4 e5 e6 e7 (.v (.int .u8 b8)) e9 e10 e11) nm mm ou o z) a1 w1)
  (hd:Ni P N (q4E ms (.seq (.reg (qBL b8') gs) rest)) d=true) (hdr:q8w ms.length d=some false)
  (hz:∀ (w:World) (X:Nat→Prop) (v:Value),TR w X z v→∃ a n m,v=Value.slice a n m) (hM:∀ vN v1 v2 v3 vz,(∃ a n m,vz=Value.slice a n m)→awp P Γ (q4E ms .skip) (fun e s'=>e=.normal∧s'=thE (Rf e0 e1 e2 e3 e4 e5 e6 e7 (.v (.int .u8 b8)) e9 e10 e11) nm mm ou z vN v1 v2 v3 vz f0 f1 f2 (.sl (lo.map fun n=>[.v (.int .i64 n)]) co no) f4 s11 s12 s17 s18) (thM (Rf e0 e1 e2 e3 e4 e5 e6 e7 (.v (.int .u8 b8)) e9 e10 e11) nm mm ou o z vN v1 v2 v3 vz))
  (hfl:Hy s11=true∧Hy s12=true∧Hy s17=true∧Hy s18=true)
  (hS:∀ y0 y1 y2 y4,awp P Γ rest (qH0 rvs res) (thS (Rf e0 e1 e2 e3 e4 e5 e6 e7 (.v (.int .u8 b8')) e9 e10 e11) nm mm ou z y0 y1 y2 y4 (.sl (lo.map fun n=>[.v (.int .i64 n)]) co no) s11 s12 s17 s18))
  (fin:∀ rest d2 s' a' w',Ni P N rest d2=true→Inv Γ w w.heap.size (fun _=>none) X N s' a' w'→awp P Γ rest (qH0 rvs res) s'→d2.wp P Qw a' w'):d.wp P Qw a1 w1:=by
 obtain ⟨X1,μ1,S,hg1,h01,hb1,hsz1,hds1⟩:=hI
 have hX1:∀ b,X1 b→X b∨w.heap.size≤b:=fun b hb=>by
  rcases hb1 b hb with h | h | ⟨_,_,h⟩
  ·exact .inl h
  ·exact .inr h
  ·cases h
 -- the two regions
 obtain ⟨one1,g1,arr1,ty1,hm1,hh1,hs1,hr1⟩:=S.reg 1 _ rfl
 obtain ⟨vN,v1,v2,v3,rfl⟩:=qOK hs1.symm
 have tN:=hr1 0 _ _ rfl rfl
 have t1:=(hr1 1 _ _ rfl rfl).t_inv
 have t2:=(hr1 2 _ _ rfl rfl).t_inv
 have t3:=(hr1 3 _ _ rfl rfl).t_inv
 have o1:v1.oneCell'=true:=t1.one (one1 1 _ rfl)
 have o2:v2.oneCell'=true:=t2.one (one1 2 _ rfl)
 have o3:v3.oneCell'=true:=t3.one (one1 3 _ rfl)
 obtain ⟨rows,hR⟩:=S.reg 21006 _ rfl
 obtain ⟨gR,arr,hmR,hhR,hlR,hrR⟩:∃ g arr,μ1 21006=some (g,arr.size)∧w1.heap[g]? = some (.cells arr ty (0,0))∧3*4≤arr.size∧∀ (i k:Nat) (e:List T) (t:T) (x:Value),(Rf e0 e1 e2 e3 e4 e5 e6 e7 (.v (.int .u8 b8)) e9 e10 e11)[i]? = some e→e[k]? = some t→arr[i*4+k]? = some x→TR w1 X1 t x:=by
  rcases hR with ⟨h,_⟩ | h
  ·simp [Rf] at h
  ·exact h
 have h1R:g1 ≠ gR:=fun e=>by
  have:=S.inj 1 21006 g1 _ _ (by simp [St.sh,qFd,A2]) (by simp [St.sh,qFd,A2]) hm1 (e ▸ hmR)
  omega
 obtain ⟨l1a,l1b,l1c⟩:=S.loc 1 g1 _ (by simp [St.sh,qFd,A2]) hm1
 obtain ⟨lRa,lRb,lRc⟩:=S.loc 21006 gR _ (by simp [St.sh,qFd,A2]) hmR
 have l1d:w.heap.size≤g1:=by
  rcases Nat.lt_or_ge g1 w.heap.size with h | h
  ·obtain ⟨_,_,h⟩:=l1c h; cases h
  ·exact h
 have lRd:w.heap.size≤gR:=by
  rcases Nat.lt_or_ge gR w.heap.size with h | h
  ·obtain ⟨_,_,h⟩:=lRc h; cases h
  ·exact h
 obtain ⟨sN,nN,hshN,hN1⟩:=tN.ls_inv
 have hsN:sN=4∧nN=3:=by
  have:some (Sh.sl 4 3)=some (Sh.sl sN nN):=by rw [← hshN]; rfl
  cases this; exact ⟨rfl,rfl⟩
 obtain ⟨rfl,rfl⟩:=hsN
 obtain ⟨c,hvN,hc3',hcm,hcf⟩:∃ c,vN=.slice (some ⟨gR,0,none⟩) 3 c∧3≤c∧c≤maxLen∧c*4=arr.size:=by
  rcases hN1 with ⟨_,_,_,h,_⟩ | ⟨g,m,c,ad,hm,hv,hle,hlc,hcm,hfit,hfull,hcap,had⟩
  ·cases h
  ·rw [hmR] at hm
   cases hm
   have:=hfull rfl
   rw [had (.inr rfl)] at hv
   exact ⟨c,by simpa using hv,hlc,hcm,by omega⟩
 have p1:a1.tmps.getD 1 undef=.pointer (some ⟨g1,0,none⟩):=by
  obtain ⟨g,m,hm,h⟩:=(S.env 1 _ rfl).lp_inv
  rw [hm1] at hm
  cases hm
  rcases h with ⟨s,n,h,_⟩ | ⟨_,_,h⟩
  ·cases (show some Sh.bx=some (Sh.sl s n) from h)
  ·exact h
 have to:=(S.env 2 _ rfl).t_inv
 have tz:=(S.env 3 _ rfl).t_inv
 -- the nodes as a tree
 let X1':Nat→Prop:=fun b=>X1 b∨b=gR
 let κ1:Da:=fun id=>if id=1000000 then some (g1,4) else none
 have same1:Same X1 w1 w1:=fun _ _=>rfl
 have tNt:TR w1 X1' (.sl (Rf e0 e1 e2 e3 e4 e5 e6 e7 (.v (.int .u8 b8)) e9 e10 e11) none none) vN:=by
  rw [hvN]
  refine .sl _ none none 4 gR 0 c (fun i k=>arr.getD (i*4+k) undef) (fun i k hi hk=>?_) (fun i e he=>(rows i e he).1) (fun i k e t h1 h2=>?_) (fun i k e t h1 h2=>(rows i e h1).2 k t h2) (.inr rfl) hc3' (fun _ h=>by cases h) (fun _ h=>by cases h)
  ·have hi':i<3:=hi
   have hj:i*4+k<arr.size:=by omega
   refine (q9Z (x:=arr[i*4+k]) hhR (by simp [hj])).trans ?_ |> fun h=>by simpa using h
   simp [Array.getD,hj]
  ·obtain ⟨hi,hk,_⟩:=qAs h1 h2
   have hj:i*4+k<arr.size:=by omega
   have:=hrR i k e t arr[i*4+k] h1 h2 (by simp [hj])
   simpa [Array.getD,hj] using this.mono same1 (fun _ h=>.inl h)
 have IM:Inv Γ w1 w1.heap.size κ1 X1' N (thM (Rf e0 e1 e2 e3 e4 e5 e6 e7 (.v (.int .u8 b8)) e9 e10 e11) nm mm ou o z vN v1 v2 v3 (a1.tmps.getD 3 undef)) a1 w1:=by
  refine ⟨X1',κ1,⟨fun t a ht=>?_,fun id r hr=>?_,fun id id' g n n' hi hi' hm hm'=>?_,fun id g n hi hm=>?_,fun _ _ _=>rfl,fun id l h=>?_,fun b hb=>?_,rfl,rfl,rfl,Nat.le_refl _,fun _ _ _=>rfl⟩,hg1.mono same1 (fun _ h=>.inl h),fun _ h=>h,fun _ h=>.inl h,hsz1,hds1⟩
  ·simp only [thM,A2] at ht
   split at ht
   ·rename_i e; subst e; cases ht
    rw [p1]; exact .lpbx 1000000 0 g1 4 rfl (by simp [κ1])
   split at ht
   ·rename_i e; subst e; cases ht; exact .t _ _ (to.mono same1 fun _ h=>.inl h)
   split at ht
   ·rename_i e; subst e; cases ht; exact .t _ _ (.pin _ _ (tz.mono same1 fun _ h=>.inl h))
   ·cases ht
  ·simp only [thM,A2] at hr
   split at hr
   ·rename_i e; subst e; cases hr
    refine ⟨fun k a hk=>?_,g1,_,ty1,by simp [κ1],hh1,rfl,fun k a x hk hx=>?_⟩
    ·match k,hk with
     | 0,hk=>cases hk; rw [hvN]; rfl
     | 1,hk=>cases hk; exact o1
     | 2,hk=>cases hk; exact o2
     | 3,hk=>cases hk; exact o3
     | k+4,hk=>simp at hk
    ·match k,hk,hx with
     | 0,hk,hx=>cases hk; cases hx; exact .t _ _ (.pin _ _ tNt)
     | 1,hk,hx=>cases hk; cases hx; exact .t _ _ (.pin _ _ (t1.mono same1 fun _ h=>.inl h))
     | 2,hk,hx=>cases hk; cases hx; exact .t _ _ (.pin _ _ (t2.mono same1 fun _ h=>.inl h))
     | 3,hk,hx=>cases hk; cases hx; exact .t _ _ (.pin _ _ (t3.mono same1 fun _ h=>.inl h))
     | k+4,hk,hx=>simp at hk
   ·cases hr
  ·have key:∀ j,St.sh (thM (Rf e0 e1 e2 e3 e4 e5 e6 e7 (.v (.int .u8 b8)) e9 e10 e11) nm mm ou o z vN v1 v2 v3 (a1.tmps.getD 3 undef)) j ≠ none→j=1000000:=fun j hj=>by
    simp only [St.sh,thM,A2] at hj
    split at hj
    ·rename_i e; exact e.symm
    ·simp at hj
   rw [key _ hi,key _ hi']
  ·have key:id=1000000:=by
    simp only [St.sh,thM,A2] at hi
    split at hi
    ·rename_i e; exact e.symm
    ·simp at hi
   subst key
   simp [κ1] at hm
   obtain ⟨rfl,rfl⟩:=hm
   refine ⟨fun h=>?_,l1b,fun _=>⟨1000000,4,by simp [κ1]⟩⟩
   rcases h with h | h
   ·exact l1a h
   ·exact h1R h
  ·simp only [κ1] at h
   split at h
   ·omega
   ·cases h
  ·rcases hb with hb | rfl
   ·exact S.xlt b hb
   ·exact lRb
 refine q6K hN hmx hd IM (hM _ _ _ _ _ (hz _ _ _ tz)) fun d2 a2 w2 hd2 hr2' hI2=>?_
 obtain ⟨X2,μ2,S2,hg2,h02,hb2,hsz2,hds2⟩:=hI2
 have k1:μ2 1000000=some (g1,4):=(S2.kap 1000000 (Nat.le_refl _) (by simp [St.sh,thE,A2])).trans (by simp [κ1])
 obtain ⟨q1,g1',arr2,ty2,hm2,hh2,hs2,hr2⟩:=S2.reg 1000000 _ rfl
 obtain ⟨u0,u1,u2,u3,rfl⟩:=qOK hs2.symm
 rw [k1] at hm2
 have hg1':g1'=g1:=by cases hm2; rfl
 subst hg1'
 have pin:∀ {t:T} {x y:Value} {w:World} {X:Nat→Prop},TR w X (.pin t x) y→y=x:=fun h=>by cases h; rfl
 have w0':=(pin (hr2 0 _ _ rfl rfl).t_inv).symm
 have w1':=(pin (hr2 1 _ _ rfl rfl).t_inv).symm
 have w2':=(pin (hr2 2 _ _ rfl rfl).t_inv).symm
 have w3':=(pin (hr2 3 _ _ rfl rfl).t_inv).symm
 subst w0'; subst w1'; subst w2'; subst w3'
 obtain ⟨q7,g7,arr7,ty7,hm7,hh7,hs7,hr7⟩:=S2.reg 7 _ rfl
 obtain ⟨y0,y1,y2,y3,y4,rfl⟩:=qP9 hs7.symm
 have t7:=(hr7 3 _ _ rfl rfl).t_inv
 have oy:∀ (j:Nat) (a:T) (x:Value),([f0,f1,f2,(.sl (lo.map fun n=>[.v (.int .i64 n)]) co no),f4]:List T)[j]? = some a→(#[y0,y1,y2,y3,y4]:Array Value)[j]? = some x→x.oneCell'=true:=fun j a x h1 h2 =>
  ((hr7 j (.t a) x (by rw [show ([.t f0,.t f1,.t f2,.t (.sl (lo.map fun n=>[.v (.int .i64 n)]) co no),.t f4]:List AV)=([f0,f1,f2,(.sl (lo.map fun n=>[.v (.int .i64 n)]) co no),f4]:List T).map .t from rfl,List.getElem?_map,h1]; rfl) h2).t_inv).one
   (q7 j (.t a) (by rw [show ([.t f0,.t f1,.t f2,.t (.sl (lo.map fun n=>[.v (.int .i64 n)]) co no),.t f4]:List AV)=([f0,f1,f2,(.sl (lo.map fun n=>[.v (.int .i64 n)]) co no),f4]:List T).map .t from rfl,List.getElem?_map,h1]; rfl))
 have p1':a2.tmps.getD 1 undef=.pointer (some ⟨g1',0,none⟩):=by
  obtain ⟨g,m,hm,h⟩:=(S2.env 1 _ rfl).lp_inv
  rw [k1] at hm
  cases hm
  rcases h with ⟨s,n,h,_⟩ | ⟨_,_,h⟩
  ·cases (show some Sh.bx=some (Sh.sl s n) from h)
  ·exact h
 have p3':=pin (S2.env 3 _ rfl).t_inv
 have p7':a2.tmps.getD 7 undef=.pointer (some ⟨g7,0,none⟩):=by
  obtain ⟨g,m,hm,h⟩:=(S2.env 7 _ rfl).lp_inv
  rw [hm7] at hm
  cases hm
  rcases h with ⟨s,n,h,_⟩ | ⟨_,_,h⟩
  ·cases (show some Sh.bx=some (Sh.sl s n) from h)
  ·exact h
 have z11:=(S2.env 11 _ rfl).t_inv
 have z12:=(S2.env 12 _ rfl).t_inv
 have z17:=(S2.env 17 _ rfl).t_inv
 have z18:=(S2.env 18 _ rfl).t_inv
 have h71:g7 ≠ g1':=fun e=>by
  have:=S2.inj 7 1000000 g7 _ _ (by simp [St.sh,thE,A2]) (by simp [St.sh,thE,A2]) hm7 (e ▸ k1)
  omega
 obtain ⟨l7a,l7b,l7c⟩:=S2.loc 7 g7 _ (by simp [St.sh,thE,A2]) hm7
 have l7d:w1.heap.size≤g7:=by
  rcases Nat.lt_or_ge g7 w1.heap.size with h | h
  ·obtain ⟨id,n,h⟩:=l7c h
   simp only [κ1] at h
   split at h
   ·cases h; exact absurd rfl h71
   ·cases h
  ·exact h
 have fr2:∀ k,k<w1.heap.size→k ≠ g1'→w2.heap[k]? = w1.heap[k]? := fun k hk hne=>S2.fr k hk fun id n h=>by
  simp only [κ1] at h
  split at h
  ·cases h; exact hne rfl
  ·cases h
 have hhR2:=(fr2 gR lRb (Ne.symm h1R)).trans hhR
 have sz2:=S2.size
 -- the store
 let xs:Nat→Value:=fun j=>arr.getD j undef
 have hxs:∀ j,j<arr.size→arr[j]? = some (xs j):=fun j hj=>by simp [xs,Array.getD,hj]
 have x8:xs 8=.int .u8 b8:=(hrR 2 0 _ _ _ rfl rfl (hxs 8 (by omega))).v_inv
 have frX:∀ k,k<w.heap.size→w2.heap[k]? = w.heap[k]? := fun k hk=>(fr2 k (Nat.lt_of_lt_of_le hk S.size) (by omega)).trans (S.fr k hk fun _ _ h=>by cases h)
 obtain ⟨d3,d4,rfl,hc3,hc4⟩:=qGY hd2
 have hdr':q8w 0 (.seq d3 d4)=some false:=by rw [hr2',Nat.zero_add]; exact hdr
 refine wp_seq (qFc (Q:=fun e a w=>Exit.then (d4.wp P Qw) Qw e a w) hc3 (fun id ops dr e=>?_) hsz2 p1' (vs:=[v1,v2,v3]) (by rw [hh2,hvN]) hhR2 (by omega) fun a3 z3 z4 z5=>?_)
 ·subst e
  simpa [q8w] using hdr'
 -- what stands behind the store
 generalize hA:(arr.toList.take 8++[Value.int .u8 b8']++arr.toList.drop 9).toArray=arr3
 have hsz3:arr3.size=arr.size:=by rw [← hA]; simp; omega
 have hget3:∀ j,j ≠ 8→arr3[j]? = arr[j]? := fun j hj=>by
  rw [← hA]
  simp only [List.getElem?_toArray,List.append_assoc]
  by_cases h:j<8
  ·rw [List.getElem?_append_left (by simp; omega),List.getElem?_take,if_pos h]; simp
  ·have e8:(arr.toList.take 8).length=8:=by simp; omega
   rw [List.getElem?_append_right (by omega),e8]
   obtain ⟨q,rfl⟩:∃ q,j=q+9:=⟨j - 9,by omega⟩
   rw [show q+9 - 8=q+1 by omega]
   simp only [List.singleton_append,List.getElem?_cons_succ,List.getElem?_drop]
   rw [show 9+q=q+9 by omega]
   simp
 have hget8:arr3[8]? = some (.int .u8 b8'):=by
  rw [← hA]
  simp only [List.getElem?_toArray,List.append_assoc]
  have e8:(arr.toList.take 8).length=8:=by simp; omega
  rw [List.getElem?_append_right (by omega),e8]
  simp
 have hw3R:(w2.setRow gR arr3).heap[gR]? = some (.cells arr3 ty (0,0)):=setRow_heap w2 gR arr _ ty _ hhR2
 have hw3:∀ j,j ≠ gR→(w2.setRow gR arr3).heap[j]? = w2.heap[j]? := fun j hj=>setRow_other w2 gR j _ hj
 have sz3:(w2.setRow gR arr3).heap.size=w2.heap.size:=by simp [World.setRow]
 have o3':(w2.setRow gR arr3).os=w2.os∧(w2.setRow gR arr3).tape=w2.tape∧(w2.setRow gR arr3).output=w2.output:=⟨rfl,rfl,rfl⟩
 generalize hW:w2.setRow gR arr3=w3 at *
 show d4.wp P Qw a3 w3
 have X1w3:Same X1 w1 w3:=fun b hb=>by
  have h1:=S.xlt b hb
  rw [hw3 b (fun e=>lRa (e ▸ hb)),fr2 b h1 (fun e=>l1a (e ▸ hb))]
 let X4:Nat→Prop:=fun b=>b<w3.heap.size∧(X b∨w.heap.size≤b)
 have X14:∀ b,X1 b→X4 b:=fun b hb=>⟨by have:=S.xlt b hb; omega,hX1 b hb⟩
 have X24:∀ b,X2 b→X4 b:=fun b hb=>by
  refine ⟨by have:=S2.xlt b hb; omega,?_⟩
  rcases hb2 b hb with h | h | ⟨id,n,h⟩
  ·rcases h with h | rfl
   ·exact hX1 b h
   ·exact .inr lRd
  ·exact .inr (Nat.le_trans S.size h)
  ·simp only [κ1] at h
   split at h
   ·cases h; exact .inr l1d
   ·cases h
 have tN3:TR w3 X4 (.sl (Rf e0 e1 e2 e3 e4 e5 e6 e7 (.v (.int .u8 b8')) e9 e10 e11) none none) (.slice (some ⟨gR,0,none⟩) 3 c):=by
  have rows':∀ i k e t,(Rf e0 e1 e2 e3 e4 e5 e6 e7 (.v (.int .u8 b8')) e9 e10 e11)[i]? = some e→e[k]? = some t→(i*4+k=8∧t=.v (.int .u8 b8'))∨(i*4+k ≠ 8∧∃ e',(Rf e0 e1 e2 e3 e4 e5 e6 e7 (.v (.int .u8 b8)) e9 e10 e11)[i]? = some e'∧e'[k]? = some t):=by
   intro i k e t h1 h2
   obtain ⟨hi,hk,_⟩:=qAs h1 h2
   match i,hi,k,hk,h1,h2 with
   | 0,_,0,_,h1,h2 | 0,_,1,_,h1,h2 | 0,_,2,_,h1,h2 | 0,_,3,_,h1,h2 | 1,_,0,_,h1,h2 | 1,_,1,_,h1,h2 | 1,_,2,_,h1,h2 | 1,_,3,_,h1,h2 | 2,_,1,_,h1,h2 | 2,_,2,_,h1,h2 | 2,_,3,_,h1,h2 =>
    cases h1; cases h2; exact .inr ⟨by omega,_,rfl,rfl⟩
   | 2,_,0,_,h1,h2=>cases h1; cases h2; exact .inl ⟨rfl,rfl⟩
  refine .sl _ none none 4 gR 0 c (fun i k=>arr3.getD (i*4+k) undef) (fun i k hi hk=>?_) (fun i e he=>?_) (fun i k e t h1 h2=>?_) (fun i k e t h1 h2=>?_) ⟨by omega,.inr lRd⟩ hc3' (fun _ h=>by cases h) (fun _ h=>by cases h)
  ·have hi':i<3:=hi
   have hj:i*4+k<arr3.size:=by omega
   rw [Nat.zero_add]
   exact q9Z hw3R (by rw [Array.getD_eq_getD_getElem?,Array.getElem?_eq_getElem hj]; rfl)
  ·match i,he with
   | 0,he=>cases he; rfl
   | 1,he=>cases he; rfl
   | 2,he=>cases he; rfl
   | i+3,he=>simp [Rf] at he
  ·obtain ⟨hi,hk,_⟩:=qAs h1 h2
   have hj:i*4+k<arr.size:=by omega
   rcases rows' i k e t h1 h2 with ⟨h8,rfl⟩ | ⟨h8,e',h3,h4⟩
   ·rw [h8]
    have:arr3.getD 8 undef=.int .u8 b8':=by simp [Array.getD_eq_getD_getElem?,hget8]
    rw [this]; exact .v _
   ·have:arr3.getD (i*4+k) undef=arr[i*4+k]:=by rw [Array.getD_eq_getD_getElem?,hget3 _ h8]; simp [hj]
    rw [this]
    exact (hrR i k e' t arr[i*4+k] h3 h4 (by simp [hj])).mono X1w3 X14
  ·rcases rows' i k e t h1 h2 with ⟨h8,rfl⟩ | ⟨h8,e',h3,h4⟩
   ·rfl
   ·exact (rows i e' h3).2 k t h4
 have cell3:∀ k i,X2 k→¬ (k=gR∧i=8)→w3.cell? ⟨k,i,none⟩=w2.cell? ⟨k,i,none⟩:=fun k i hk hne=>by
  by_cases hkR:k=gR
  ·subst hkR
   simp only [World.cell?,hw3R,hhR2]
   have h8:i ≠ 8:=fun e=>hne ⟨rfl,e⟩
   simpa using hget3 i h8
  ·simp only [World.cell?,hw3 k hkR]
 have t7':=qHY (Y:=X4) t7 (show w2.cell? ⟨gR,8,none⟩=some (.int .u8 b8) by simp [World.cell?,hhR2,hxs 8 (by omega),x8]) cell3 X24
 have h7R:g7 ≠ gR:=by omega
 have hh73:=(hw3 g7 h7R).trans hh7
 have hh13:=(hw3 g1' h1R).trans hh2
 have kt:∀ {t:Nat},t<156→a3.tmps.getD t undef=a2.tmps.getD t undef:=fun {t} ht=>z5 t ht
 refine fin rest d4 (thS (Rf e0 e1 e2 e3 e4 e5 e6 e7 (.v (.int .u8 b8')) e9 e10 e11) nm mm ou z y0 y1 y2 y4 (.sl (lo.map fun n=>[.v (.int .i64 n)]) co no) s11 s12 s17 s18) a3 w3 hc4 ⟨X4,fun _=>none,⟨fun t a ht=>?_,fun id r hr=>by simp [thS,A2] at hr,fun _ _ _ _ _ _ _ h=>(by cases h),fun _ _ _ _ h=>(by cases h),fun _ _ _=>rfl,fun _ _ h=>(by cases h),fun b hb=>hb.1,?_,?_,?_,by rw [sz3]; have:=S.size; omega,fun k hk _=>?_⟩,?_,fun b hb=>⟨by have:=hX b hb; have:=S.size; omega,.inl hb⟩,fun b hb=>?_,z3,z4.trans hds2⟩ (hS _ _ _ _)
 ·simp only [thS,A2] at ht
  split at ht
  ·rename_i e; subst e; cases ht
   rw [kt (by omega),p1']
   refine .t _ _ (.ip _ 0 g1' 0 (fun j=>[(.slice (some ⟨gR,0,none⟩) 3 c:Value),v1,v2,v3].getD j undef) (fun j hj=>?_) (fun j t ht=>?_) (fun j t ht=>?_) ⟨by omega,.inr l1d⟩)
   ·have hj4:j<4:=hj
    match j,hj4 with
    | 0,_ | 1,_ | 2,_ | 3,_=>exact q9Z hh13 (by rw [hvN]; rfl)
   ·match j,ht with
    | 0,ht=>cases ht; exact tN3
    | 1,ht=>cases ht; exact t1.mono X1w3 X14
    | 2,ht=>cases ht; exact t2.mono X1w3 X14
    | 3,ht=>cases ht; exact t3.mono X1w3 X14
    | j+4,ht=>simp at ht
   ·match j,ht with
    | 0,ht=>cases ht; rfl
    | 1,ht=>cases ht; exact one1 1 _ rfl
    | 2,ht=>cases ht; exact one1 2 _ rfl
    | 3,ht=>cases ht; exact one1 3 _ rfl
    | j+4,ht=>simp at ht
  split at ht
  ·rename_i e; subst e; cases ht
   rw [kt (by omega),p3']; exact .t _ _ (tz.mono X1w3 X14)
  split at ht
  ·rename_i e; subst e; cases ht
   rw [kt (by omega),p7']
   refine .t _ _ (.ip _ 0 g7 0 (fun j=>[y0,y1,y2,y3,y4].getD j undef) (fun j hj=>?_) (fun j t ht=>?_) (fun j t ht=>?_) ⟨by omega,.inr (by have:=S.size; omega)⟩)
   ·have hj5:j<5:=hj
    match j,hj5 with
    | 0,_ | 1,_ | 2,_ | 3,_ | 4,_=>exact q9Z hh73 rfl
   ·match j,ht with
    | 0,ht=>cases ht; exact .v _
    | 1,ht=>cases ht; exact .v _
    | 2,ht=>cases ht; exact .v _
    | 3,ht=>cases ht; exact t7'
    | 4,ht=>cases ht; exact .v _
    | j+5,ht=>simp at ht
   ·match j,ht with
    | 0,ht=>cases ht; exact oy 0 _ _ rfl rfl
    | 1,ht=>cases ht; exact oy 1 _ _ rfl rfl
    | 2,ht=>cases ht; exact oy 2 _ _ rfl rfl
    | 3,ht=>cases ht; rfl
    | 4,ht=>cases ht; exact oy 4 _ _ rfl rfl
    | j+5,ht=>simp at ht
  split at ht
  ·rename_i e; subst e; cases ht; rw [kt (by omega)]; exact .t _ _ (q9a z11 hfl.1)
  split at ht
  ·rename_i e; subst e; cases ht; rw [kt (by omega)]; exact .t _ _ (q9a z12 hfl.2.1)
  split at ht
  ·rename_i e; subst e; cases ht; rw [kt (by omega)]; exact .t _ _ (q9a z17 hfl.2.2.1)
  split at ht
  ·rename_i e; subst e; cases ht; rw [kt (by omega)]; exact .t _ _ (q9a z18 hfl.2.2.2)
  ·cases ht
 ·exact o3'.1.trans (S2.os.trans S.os)
 ·exact o3'.2.1.trans (S2.tape.trans S.tape)
 ·exact o3'.2.2.trans (S2.output.trans S.output)
 ·rw [hw3 k (by omega)]; exact frX k hk
 ·refine hg.mono (fun b hb=>?_) fun b hb=>⟨by have:=hX b hb; have:=S.size; omega,.inl hb⟩
  have:=hX b hb
  rw [hw3 b (by omega)]; exact frX b this
 ·rcases hb.2 with h | h
  ·exact .inl h
  ·exact .inr (.inl h)
end
end Go.Lg
namespace Go.Lg
open Go
section
variable {P:Program} {Γ:Tables}
def Imp (t' t:T):Prop:=∀ (w:World) (X:Nat→Prop) (v:Value),TR w X t' v→TR w X t v
theorem Imp.refl (t:T):Imp t t:=fun _ _ _ h=>h
theorem Imp.pin (t:T) (x:Value):Imp (.pin t x) t:=fun _ _ _ h=>by cases h; assumption
inductive q4G:List T→List T→Prop
 | nil:q4G [] []
 | cons {t' t:T} {ts' ts:List T} (h:Imp t' t) (hs:q4G ts' ts):q4G (t'::ts') (t::ts)
theorem q4G.refl:∀ (ts:List T),q4G ts ts
 | []=>.nil
 | t::ts=>.cons (.refl t) (q4G.refl ts)
theorem q4G.len {ts' ts:List T} (h:q4G ts' ts):ts'.length=ts.length:=by induction h <;> simp_all
theorem q4G.get {ts' ts:List T} (h:q4G ts' ts):∀ {k:Nat} {t:T},ts[k]? = some t→∃ t',ts'[k]? = some t'∧Imp t' t:=by
 induction h with
 | nil=>intro k t h; simp at h
 | cons h hs ih =>
  intro k t hk
  cases k with
  | zero=>simp at hk; subst hk; exact ⟨_,rfl,h⟩
  | succ k=>simp at hk; simpa using ih hk
theorem q4G.trs {ts' ts:List T} (h:q4G ts' ts) {w:World} {X:Nat→Prop} {vs:List Value} (ht:Fa w X ts' vs):Fa w X ts vs :=
 ⟨by rw [← h.len]; exact ht.1,fun k t x hk hx=>by
  obtain ⟨t',h1,h2⟩:=h.get hk
  exact h2 w X x (ht.2 k t' x h1 hx)⟩
theorem Imp.agg {ts' ts:List T} (h:q4G ts' ts) (ho:C7 ts=true):Imp (.agg ts') (.agg ts):=fun w X v hv=>by
 obtain ⟨xs,rfl,_,hr⟩:=hv.agg_inv
 exact TR.mk_agg ho (h.trs hr)
inductive q8y:List (List T)→List (List T)→Prop
 | nil:q8y [] []
 | cons {t' t:List T} {ts' ts:List (List T)} (h:q4G t' t) (hs:q8y ts' ts):q8y (t'::ts') (t::ts)
theorem q8y.len {ts' ts:List (List T)} (h:q8y ts' ts):ts'.length=ts.length:=by induction h <;> simp_all
theorem q8y.get {ts' ts:List (List T)} (h:q8y ts' ts):∀ {k:Nat} {t:List T},ts[k]? = some t→∃ t',ts'[k]? = some t'∧q4G t' t:=by
 induction h with
 | nil=>intro k t h; simp at h
 | cons h hs ih =>
  intro k t hk
  cases k with
  | zero=>simp at hk; subst hk; exact ⟨_,rfl,h⟩
  | succ k=>simp at hk; simpa using ih hk
theorem Imp.sl {es' es:List (List T)} {cap:Option Nat} {nl:Option Bool} (h:q8y es' es) (ho:∀ e ∈ es,C7 e=true):Imp (.sl es' cap nl) (.sl es cap nl):=fun w X v hv=>by
 cases hv with
 | nil cap nl a c hc hn hz =>
  have:es=[]:=by cases h; rfl
  subst this
  exact .nil cap nl a c hc hn hz
 | sl es' cap nl s b off c f hcell hlen hrel hone hx hle hc hn =>
  rw [h.len]
  refine .sl es cap nl s b off c f (fun i k hi hk=>hcell i k (by rw [h.len]; exact hi) hk) (fun i e he=>?_) (fun i k e t he ht=>?_) (fun i k e t he ht=>?_) hx (by rw [← h.len]; exact hle) hc hn
  ·obtain ⟨e',h1,h2⟩:=h.get he
   rw [← h2.len]; exact hlen i e' h1
  ·obtain ⟨e',h1,h2⟩:=h.get he
   obtain ⟨t',h3,h4⟩:=h2.get ht
   exact h4 w X _ (hrel i k e' t' h1 h3)
  ·exact List.all_eq_true.1 (ho e (List.mem_of_getElem? he)) t (List.mem_of_getElem? ht)
theorem Ab.imp {f:FuncId} {ts' ts:List T} {res:T} (h:Ab P Γ f ts res) (hi:q4G ts' ts):Ab P Γ f ts' res:=fun w X vs hg hx hr=>h w X vs hg hx (hi.trs hr)
theorem A3.imp {f:FuncId} {ts' ts:List T} {res:T} (h:A3 P Γ f ts res) (hi:q4G ts' ts):A3 P Γ f ts' res:=fun w X vs hg hx hr=>h w X vs hg hx (hi.trs hr)
end
end Go.Lg
namespace Go.Lg
open Go Go.Proofs
variable {Γ:Tables}
def Ul (k:Int):B0:=⟨⟨[⟨0,⟨[],some 0,some true⟩,0,0⟩,⟨14,⟨[2],some 1,some false⟩,0,0⟩,⟨k,⟨[0,1],some 2,some false⟩,0,0⟩],none,none⟩,⟨[[97],[113],[120]],some 3,some false⟩,⟨[],some 0,some true⟩,⟨[2],some 1,some false⟩⟩
theorem qFe (k:Int) (hk:0≤k∧k≤255):COk (Ul k):=by
 refine ⟨⟨by simp [Ul],by simp [Ul],by simp [Ul],by simp [Ul],?_,?_,?_⟩,?_⟩
 ·intro x hx; simp [Ul] at hx; rcases hx with rfl | rfl | rfl <;> simp [hk]
 ·intro x hx; simp [Ul] at hx; rcases hx with rfl | rfl | rfl <;> simp [hk]
 ·intro m hm; simp [Ul] at hm
 ·intro s hs b hb; simp [Ul] at hs; rcases hs with rfl | rfl | rfl <;> simp at hb <;> subst hb <;> decide
theorem qJN:MOk (Ul 9):=⟨qFe 9 (by omega),by decide +kernel,by decide⟩
theorem qMV:MOk (Ul 5):=⟨qFe 5 (by omega),by decide +kernel,by decide⟩
def q6L:Hk:=⟨⟨[0],some 1,some false⟩,⟨[],some 0,some true⟩,⟨[],some 0,some true⟩⟩
theorem qKa:Ei (Ul 9) q6L:=⟨by decide,rfl,rfl,fun i hi=>absurd hi (by simp [Ul]),fun i hi=>absurd hi (by simp [Ul]),fun i hi=>absurd hi (by simp [Ul]),by intro v hv; simp [q6L] at hv; subst hv; omega,by intro w hw; simp [q6L] at hw,by intro w hw; simp [q6L] at hw⟩
theorem qMW:qFa q6L:=⟨fun h=>by simp [q6L] at h,by intro w hw; simp [q6L] at hw,by intro w hw; simp [q6L] at hw⟩
theorem qCo (k:Int) (l:List (Sl Int)) (h:∀ x ∈ l,x.l=[0]∨x.l=[1]) (hk:(Bg (Ul k)).length=1):qBK (Ul k) l:=fun x hx=>by
 rcases h x hx with e | e <;> rw [e] <;> refine ⟨hk.symm,fun v hv=>?_⟩ <;> simp at hv <;> subst hv <;> unfold V4 <;> omega
theorem qKb (hΓ:GOk Γ):Ab Tryz.prog Γ 24 [.agg (tC (Ul 9)),.agg (B7 q6L),tW ⟨[⟨[1],some 1,some false⟩,⟨[1],some 1,some false⟩,⟨[0],some 1,some false⟩],some 3,some false⟩]
  (.tup [.sl (Ar Q3 [([1],[1]),([0],[0]),([0],[0])]) (some 3) none,.agg (B7 (seqS (Ul 9) (Lp q6L) [[1],[1],[0]])),tI 0]):=by
 have h:=q2L hΓ (Ul 9) qJN (by decide) q6L qKa qMW ⟨[⟨[1],some 1,some false⟩,⟨[1],some 1,some false⟩,⟨[0],some 1,some false⟩],some 3,some false⟩ (by decide) (qCo 9 _ (by simp) (by decide +kernel))
 have e:seqR (Ul 9) (Lp q6L) [[1],[1],[0]]=[([1],[1]),([0],[0]),([0],[0])]:=by decide +kernel
 simp only [List.map_cons,List.map_nil] at h
 rw [e] at h
 exact h
theorem qKc:(seqS (Ul 9) (Lp q6L) [[1],[1],[0]]).dff.l=[0]:=by decide +kernel
theorem qJO (hΓ:GOk Γ):Ab Tryz.prog Γ 28 [.agg (tC (Ul 9)),tW ⟨[⟨[1],some 1,some false⟩,⟨[1],some 1,some false⟩],some 2,some false⟩] (.tup [.sl [] (some 0) none,tI 0]):=by
 have h:=Zh hΓ (Ul 9) qJN (by decide) ⟨[⟨[1],some 1,some false⟩,⟨[1],some 1,some false⟩],some 2,some false⟩ (by decide) (qCo 9 _ (by simp) (by decide +kernel))
 have e:q2M (seqS (Ul 9) (Lp (E3 (Ul 9))) [[1],[1]]).dff.l 0 (Af (Ul 9))=[]:=by decide +kernel
 simp only [List.map_cons,List.map_nil] at h
 rw [e] at h
 exact h
theorem qJP (hΓ:GOk Γ):Ab Tryz.prog Γ 28 [.agg (tC (Ul 5)),tW ⟨[⟨[0],some 1,some false⟩],some 1,some false⟩] (.tup [.sl (Av [1]) (some 1) none,tI 0]):=by
 have h:=Zh hΓ (Ul 5) qMV (by decide) ⟨[⟨[0],some 1,some false⟩],some 1,some false⟩ (by decide) (qCo 5 _ (by simp) (by decide +kernel))
 have e:q2M (seqS (Ul 5) (Lp (E3 (Ul 5))) [[0]]).dff.l 0 (Af (Ul 5))=[1]:=by decide +kernel
 simp only [List.map_cons,List.map_nil] at h
 rw [e] at h
 exact h
theorem qEE:F6 Tryz.prog Γ 77 [] [] (.ag [.ls 6 0 3 none,.t (.sl (Ac tS [[97],[113],[120]]) (some 3) (some false)),.t (.sl [] (some 0) (some true)),.t (.sl (Av [2]) (some 1) (some false))]) [(0,.bx [.ls 6 0 3 none,.t (.sl (Ac tS [[97],[113],[120]]) (some 3) (some false)),.t (.sl [] (some 0) (some true)),.t (.sl (Av [2]) (some 1) (some false))]),(6,.sl 45 4 (Ar Dn (Ul 9).nodes.l))]:=by
 refine Gy q7N rfl ?_
 simp [q1i,q1j,Ul,Ar,Ac,Dn,B6,tS,sV,Cm]
def qMX:List IC:=[q2j,q2k,q2l,q2m,q2n,q2o,q2p,q1k,q1l,q1m]
def qFf:IC:=.seq q2f (.seq q2g .ret)
def qPA:IC:=q4E [Zc,Zd,Ze] (q4E qMX (.seq (.reg (qBL 5) []) qFf))
theorem qMY:Ao Tryz.prog 22 qPA 200 0 Zf=true:=by kernel_rfl
theorem qMZ:((Tryz.prog.funcs[(22:Nat)]?).bind (·.body)).bind (q8w 13)=some false:=by kernel_rfl
def q4H (k:Int):List (List T):=Rf (tK 0) (.sl [] (some 0) (some true)) (tI 0) (tI 0) (tK 14) (.sl [[tI 2]] (some 1) (some false)) (tI 0) (tI 0) (.v (.int .u8 k)) (.sl [[tI 0],[tI 1]] (some 2) (some false)) (tI 0) (tI 0)
def qEF:T:=.sl [[tS [97]],[tS [113]],[tS [120]]] (some 3) (some false)
def qEG:T:=.sl [] (some 0) (some true)
def qEH:T:=.sl [[tI 2]] (some 1) (some false)
def lvO:T:=.sl [[tK 1]] (some 1) (some false)
def lvZ:T:=.sl [[tK 0]] (some 1) (some false)
theorem qOM:run Tryz.prog Γ (q4E [Zc,Zd,Ze] .skip) (fun e s'=>e=.normal∧s'=qFd 45 (q4H 9) qEF qEG qEH lvO lvZ) ⟨params 0 [],[]⟩:=by
 have e1:=qEE (Γ:=Γ)
 simp [Ul,Ar,Ac,Dn,B6] at e1
 simp [q4E,Zc,Zd,Ze]
 refine ⟨_,_,e1,?_⟩
 simp [qFd,q4H,Rf,qEF,qEG,qEH,lvO,lvZ]
theorem qPB (hΓ:GOk Γ) (y0 y1 y2 y4:Value):run Tryz.prog Γ qFf (ret false Zf fun r=>r=tB true) (thS (q4H 5) qEF qEG qEH lvZ y0 y1 y2 y4 (.sl (Av [2,4,5,6]) (some 4) none) (tS [49,48,48]) (tS [49,48,48]) (.sl [] (some 0) none) (tI 0)):=by
 have e1:=qJP hΓ
 simp [Ul,tC,A5,A8,Ad,tW,tV,Ar,Ac,Dn,B6] at e1
 have e2:=q8J (Γ:=Γ) [2,4,5,6] (by decide) (some 4) none (some false)
 have e3:=q8J (Γ:=Γ) [1] (by decide) (some 1) none (some false)
 simp [Ac] at e2 e3
 simp [qFf,q2f,q2g,thS,q4H,Rf,qEF,qEG,qEH,lvO,lvZ,Ac]
 refine A9 e1 rfl ?_
 simp [tS,sV]
 refine A1 e2 rfl ?_
 simp
 refine A1 e3 rfl ?_
 simp [Zf]
end Go.Lg
