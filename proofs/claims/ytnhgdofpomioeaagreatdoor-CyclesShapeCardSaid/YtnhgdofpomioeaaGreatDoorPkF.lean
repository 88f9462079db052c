/- Package memories: Cycle. Conditions: none. -/
import Derived.Test.YtnhgdofpomioeaaGreatDoorPkE
import Derived.Test.YtnhgdofpomioeaaGreatDoorPkC
import Derived.Test.YtnhgdofpomioeaaGreatDoorProg
import Derived.KernelRfl
import Derived.Test.YtnhgdofpomioeaaGreatDoorPkD
set_option linter.unusedSimpArgs false
set_option linter.unusedVariables false
set_option maxRecDepth 100000
namespace Go.Lg
open Go Go.Proofs
variable {Γ:Tables}
def cyH (c:B7) (n:Nat) (nets:List Int):List (Nat × Bc):=[(6,.bx [Iy,Iy,Iy]),(7,.bx [Iy,Iy]),(11,.bx (Yo c 35 n (some n))),(35,.sl 71 1 (Az nets))]
def cyE (c:B7) (s:K3):List (Nat × AV):=[(3,.t (.ip (tC c) 0)),(4,.t (.ip (Bg s) 0)),(6,.lp 6 0 0),(7,.lp 7 0 0),(11,.lp 11 0 0)]
theorem qJL {Q:AX→St→Prop} (hΓ:GOk Γ) (c:B7) (H:ROk c) (hn:c.nodes.l.length≤1000000) (s:K3) (ord:List Int) (ho:ord.length≤1000000) (hin:∀ n ∈ ord,0≤n∧n<c.nodes.l.length) (R:List Int)
  (h0:Q (.exit 0) ⟨cyE c s++[(46,.t (.sl (Ax ord) none none)),(47,.t (tI ord.length)),(48,.t (tI ord.length)),(49,.t (tB false))],cyH c c.nodes.l.length R⟩) :
  ∀ (k i:Nat) (nets:List Int),k+i=ord.length→nets.length=c.nodes.l.length→(∀ v ∈ nets,V4 v)→qFW c (ord.drop i) nets=R →
  run Tryz.prog Γ Jp Q ⟨cyE c s++[(46,.t (.sl (Ax ord) none none)),(47,.t (tI ord.length)),(48,.t (tI i))],cyH c c.nodes.l.length nets⟩
 | 0,i,nets,h,hl,hv,hR=>by
  refine Ri fun K hK=>?_
  have h2:i=ord.length:=by omega
  subst h2
  rw [List.drop_length] at hR
  have hR':nets=R:=hR
  subst hR'
  simp [cyE,cyH,Yo,Iy,A7,A9,Ac,B5] at h0
  simp [cyE,cyH,Yo,Iy,A7,A9,Ac,B5]
  simpa using h0
 | k+1,i,nets,h,hl,hv,hR=>by
  refine Ri fun K hK=>?_
  have h2:i<ord.length:=by omega
  rw [List.drop_eq_getElem_cons h2] at hR
  have hR:qFW c (ord.drop (i+1)) (q49 c nets ord[i])=R:=hR
  have e1:=gE (f:=tI) 0 h2
  have e1':=gE' (f:=tI) 0 h2
  have hnn:=hin _ (List.getElem_mem h2)
  rw [D8 h2] at e1 e1'
  generalize ord[i]=n at *
  have ih:=qJL hΓ c H hn s ord ho hin R h0 k (i+1) (q49 c nets n) (by omega) (by rw [qAK]; exact hl) (qEZ hv) hR
  have hget:=qDc hnn.1 hnn.2
  have hget':=qEc hnn.1 hnn.2
  have hmem:=qH0 hnn.1 hnn.2
  have hxi:=H.inn _ hmem
  have hkk:=H.ok.kind _ hmem
  have hinv:q50 c nets n.toNat=Bl nets (nd c n).inn.l:=rfl
  have hlR:(q50 c nets n.toNat).length=(nd c n).inn.l.length:=by rw [hinv]; simp [Bl]
  have hvR:∀ v ∈ q50 c nets n.toNat,V4 v:=fun v hv'=>by
   rw [hinv] at hv'
   obtain ⟨q,hq,rfl⟩:=List.mem_map.1 hv'
   exact q1b hv _
  have hev:=qFa hΓ (nd c n).k hkk (q50 c nets n.toNat) none none (by rw [hlR]; omega) hvR
  have hcb:=q6h (Γ:=Γ) (nd c n).k
  have hst:q49 c nets n=if G3 (nd c n).k then nets.set n.toNat (q5r (nd c n).k (q50 c nets n.toNat)) else nets:=rfl
  have hmv:=q1m (Γ:=Γ) c ⟨nets,some c.nodes.l.length,none⟩ (by show nets.length≤_; omega) (nd c n).inn (by omega) (fun k hk=>by show 0≤k∧k<(nets.length:Int); rw [hl]; exact hxi.2 k hk)
  have hcd:decide (1≤(nd c n).k∧(nd c n).k≤13)=G3 (nd c n).k:=rfl
  rw [hcd] at hcb
  rw [hst] at ih
  simp only [← hinv] at hmv
  generalize q50 c nets n.toNat=RV at *
  generalize nd c n=x at *
  obtain ⟨hn0,hn1⟩:=hnn
  have hn2:n.toNat<c.nodes.l.length:=by omega
  have hn3:n.toNat<nets.length:=by omega
  have w1:=B8 (i:=i) (by omega)
  have vt:(Az nets).take c.nodes.l.length=Az nets:=by rw [← hl]; exact E5
  simp [N3,A7,A9,Ac,B5,tV] at hmv
  simp [cyE,cyH,Yo,Iy,A7,A9,Ac,B5] at ih
  simp [cyE,cyH,Yo,Iy,A7,A9,Ac,B5,h2,A0,A8,Aa,Aq,e1,e1',hn0,hn1,hn2,hget,hget',Bt]
  refine A3 hcb rfl ?_
  by_cases hc:G3 x.k=true
  ·rw [if_pos hc] at ih
   simp only [hc]
   have hs:(Az nets).set n.toNat [tK (q5r x.k RV)]=Az (nets.set n.toNat (q5r x.k RV)):=Ir
   generalize q5r x.k RV=v at *
   simp
   refine A3 hmv (by simp [Aj,vt,Ai]) ?_
   simp
   refine A3 hev rfl ?_
   simp [hn0,hn1,hn2,hn3,A0,hl,hs,w1]
   rw [hK]
   simpa using ih
  ·rw [if_neg hc] at ih
   simp only [Bool.not_eq_true] at hc
   simp only [hc]
   simp [w1]
   rw [hK]
   simpa using ih
def Vj (R:List (List Int)):Sl (Sl Int):=⟨R.map fun r=>⟨r,none,none⟩,some R.length,none⟩
theorem qHE (R:List (List Int)):qEb R=tW (Vj R):=by
 unfold qEb tW Vj Af
 simp [tV,Function.comp_def]
def Qi (nets:List Int) (ms:List Mm) (ws:List (Sl (Sl Int))):List (Sl Int):=List.zipWith (fun m w=>⟨q3B (w.l.map (·.l)) (Bl nets m.addr.l),none,none⟩) ms ws
def Ns (nets:List Int) (ms:List Mm) (ws:List (Sl (Sl Int))):List (Sl (Sl Int)):=List.zipWith (fun m w=>Vj (Gs (Bl nets m.addr.l) (Bl nets m.data.l) (nets.getD m.write.toNat 0) 0 (w.l.map (·.l)))) ms ws
def qDp (c:B7) (n:Nat) (nets:List Int) (o x d:T) (rs:List (Sl Int)) (ws:List (Sl (Sl Int))):List (Nat × Bc) :=
 [(6,.bx [Iy,Iy,Iy]),(7,.bx [Iy,Iy]),(11,.bx ((N3 c ⟨nets,some n,none⟩).map .t)),(17,.bx [.t o,.t x]),(18,.bx [.t d,.ls 127 0 ws.length none,.ls 105 0 rs.length none]),(105,.sl 55 1 (Af tV rs)),(127,.sl 57 1 (Af tW ws))]
def qDq (c:B7) (s:K3):List (Nat × AV):=[(4,.t (.ip (Bg s) 0)),(6,.lp 6 0 0),(7,.lp 7 0 0),(11,.lp 11 0 0),(17,.lp 17 0 0),(18,.lp 18 0 0)]
theorem qJM {Q:AX→St→Prop} (c:B7) (hn:c.nodes.l.length≤1000000) (s:K3) (nets:List Int) (hl:nets.length=c.nodes.l.length) (hv:∀ v ∈ nets,V4 v) (hcm:c.mems.l.length≤16)
  (hm:∀ m ∈ c.mems.l,m.addr.l.length≤8∧m.data.l.length≤32∧(∀ n ∈ m.addr.l,0≤n∧n<c.nodes.l.length)∧(∀ n ∈ m.data.l,0≤n∧n<c.nodes.l.length)∧0≤m.write∧m.write<c.nodes.l.length)
  (hs:s.words.l.length=c.mems.l.length) (hw:∀ w ∈ s.words.l,w.l.length≤256∧w.l ≠ []∧∀ r ∈ w.l,r.l.length≤32) (o x d:T) (RR:List (Sl Int)) (RW:List (Sl (Sl Int)))
  (h0:Q (.exit 2) ⟨qDq c s++[(84,.t (Ac c.mems)),(85,.t (tI c.mems.l.length)),(86,.t (tI c.mems.l.length)),(87,.t (tB false))],qDp c c.nodes.l.length nets o x d RR RW⟩) :
  ∀ (k i:Nat) (rs:List (Sl Int)) (ws:List (Sl (Sl Int))),k+i=c.mems.l.length→rs.length=i→ws.length=i→rs++Qi nets (c.mems.l.drop i) (s.words.l.drop i)=RR→ws++Ns nets (c.mems.l.drop i) (s.words.l.drop i)=RW →
  run Tryz.prog Γ Jq Q ⟨qDq c s++[(84,.t (Ac c.mems)),(85,.t (tI c.mems.l.length)),(86,.t (tI i))],qDp c c.nodes.l.length nets o x d rs ws⟩
 | 0,i,rs,ws,h,hr,hws,hR,hW=>by
  refine Rj fun K hK=>?_
  have h2:i=c.mems.l.length:=by omega
  subst h2
  rw [List.drop_length] at hR hW
  simp only [Qi,Ns,List.zipWith_nil_left,List.append_nil] at hR hW
  subst hR
  subst hW
  simp [qDq,qDp,N3,Iy,tV,A7,A9,Ac,B5] at h0
  simp [qDq,qDp,N3,Iy,tV,A7,A9,Ac,B5]
  simpa using h0
 | k+1,i,rs,ws,h,hr,hws,hR,hW=>by
  refine Rj fun K hK=>?_
  have h2:i<c.mems.l.length:=by omega
  have h3:i<s.words.l.length:=by omega
  rw [List.drop_eq_getElem_cons h2,List.drop_eq_getElem_cons h3] at hR hW
  simp only [Qi,Ns,List.zipWith_cons_cons] at hR hW
  have e1:(Ao tMm c.mems.l)[i]?.getD []=tMm c.mems.l[i]:=by simp [Ao,h2]
  have e1':∀ h,(Ao tMm c.mems.l)[i]'h=tMm c.mems.l[i]:=fun h=>by simp [Ao]
  have e2:=gE (f:=tW) Sl.zz h3
  have e2':=gE' (f:=tW) Sl.zz h3
  rw [show s.words.l.getD i Sl.zz=s.words.l[i] by simp [List.getD_eq_getElem?_getD,h3]] at e2 e2'
  obtain ⟨ma,md,mia,mid,mw0,mw1⟩:=hm _ (List.getElem_mem h2)
  obtain ⟨wl,wn,wr⟩:=hw _ (List.getElem_mem h3)
  generalize c.mems.l[i]=m at *
  generalize s.words.l[i]=w at *
  have ih:=qJM c hn s nets hl hv hcm hm hs hw o x d RR RW h0 k (i+1) (rs++[⟨q3B (w.l.map (·.l)) (Bl nets m.addr.l),none,none⟩]) (ws++[Vj (Gs (Bl nets m.addr.l) (Bl nets m.data.l) (nets.getD m.write.toNat 0) 0 (w.l.map (·.l)))]) (by omega) (by rw [List.length_append,hr]; rfl) (by rw [List.length_append,hws]; rfl) (by rw [← hR,List.append_assoc]; rfl) (by rw [← hW,List.append_assoc]; rfl)
  have hva:=q1m (Γ:=Γ) c ⟨nets,some c.nodes.l.length,none⟩ (by show nets.length≤_; omega) m.addr (by omega) (fun k hk=>by show 0≤k∧k<(nets.length:Int); rw [hl]; exact mia k hk)
  have hvd:=q1m (Γ:=Γ) c ⟨nets,some c.nodes.l.length,none⟩ (by show nets.length≤_; omega) m.data (by omega) (fun k hk=>by show 0≤k∧k<(nets.length:Int); rw [hl]; exact mid k hk)
  have val:(Bl nets m.addr.l).length=m.addr.l.length:=by simp [Bl]
  have vdl:(Bl nets m.data.l).length=m.data.l.length:=by simp [Bl]
  have vav:∀ v ∈ Bl nets m.addr.l,0≤v:=fun v hv'=>by
   obtain ⟨q,_,rfl⟩:=List.mem_map.1 hv'
   exact (q1b hv _).1
  have hlook:=qFj (Γ:=Γ) w (by omega) (fun r hr=>by have:=wr r hr; omega) ⟨Bl nets m.addr.l,none,none⟩ (by show (Bl nets m.addr.l).length≤_; omega) vav
  have hsto:=qDm (Γ:=Γ) w (by omega) (fun r hr=>by have:=wr r hr; omega) ⟨Bl nets m.addr.l,none,none⟩ ⟨Bl nets m.data.l,none,none⟩ (by show (Bl nets m.addr.l).length≤_; omega) vav (by show (Bl nets m.data.l).length≤_; omega) (nets.getD m.write.toNat 0)
  rw [if_neg wn] at hlook
  rw [qHE] at hsto
  have hq:m.write.toNat<nets.length:=by omega
  have e3:=gE (f:=tK) 0 hq
  have e3':=gE' (f:=tK) 0 hq
  have hqn:m.write.toNat<c.nodes.l.length:=by omega
  generalize nets.getD m.write.toNat 0=en at *
  simp only at hlook hsto hva hvd
  have hsr:Af tV rs++[[tV ⟨q3B (w.l.map (·.l)) (Bl nets m.addr.l),none,none⟩]]=Af tV (rs++[⟨q3B (w.l.map (·.l)) (Bl nets m.addr.l),none,none⟩]):=Bz
  have hsw:Af tW ws++[[tW (Vj (Gs (Bl nets m.addr.l) (Bl nets m.data.l) en 0 (w.l.map (·.l))))]]=Af tW (ws++[Vj (Gs (Bl nets m.addr.l) (Bl nets m.data.l) en 0 (w.l.map (·.l)))]):=Bz
  generalize Vj (Gs (Bl nets m.addr.l) (Bl nets m.data.l) en 0 (w.l.map (·.l)))=nw at *
  generalize q3B (w.l.map (·.l)) (Bl nets m.addr.l)=L at *
  have hsr:Af tV rs++[[T.sl (Az L) none none]]=Af tV (rs++[⟨L,none,none⟩]):=hsr
  have hsw:Af tW ws++[[T.sl (Af tV nw.l) nw.cap nw.nl]]=Af tW (ws++[nw]):=hsw
  have hsto:Ae Tryz.prog Γ 92 [tW w,.sl (Az (Bl nets m.addr.l)) none none,.sl (Az (Bl nets m.data.l)) none none,tK en] (T.sl (Af tV nw.l) nw.cap nw.nl):=hsto
  generalize Bl nets m.addr.l=va at *
  generalize Bl nets m.data.l=vd at *
  have w1:=B8 (i:=i) (by omega)
  have vt:(Az nets).take c.nodes.l.length=Az nets:=by rw [← hl]; exact E5
  have vt1:(Af tV rs).take i=Af tV rs:=by rw [← hr]; exact An
  have vt2:(Af tW ws).take i=Af tW ws:=by rw [← hws]; exact An
  have h3i:(i:Int)<s.words.l.length:=by omega
  simp only [tMm,B5] at e1 e1'
  simp [N3,A7,A9,Ac,B5] at hva hvd
  simp only [tV] at hva hvd
  simp [qDq,qDp,N3,Iy,tV,A7,A9,Ac,B5,Bg,N7] at ih
  simp [qDq,qDp,N3,Iy,tV,A7,A9,Ac,B5,Bg,N7,h2,Z2,Aa,e1,e1']
  refine A3 hva rfl ?_
  simp [h3,A0,A8,e2,e2']
  refine Ad hlook rfl ?_
  have hw1:∀ t:T,D5 1 [[t]]:=fun t e he=>by simp at he; subst he; rfl
  simp [hr,hws,h3,A0,A8,e2,e2',vt1,vt2,hsr,hw1]
  refine ⟨by omega,?_⟩
  refine A3 hvd rfl ?_
  simp [hl,hq,hqn,mw0,mw1,e3,e3',A0,A8]
  refine Ad hsto rfl ?_
  simp [hr,hws,A0,A8,vt1,vt2,hsw,hw1,w1]
  refine ⟨by omega,?_⟩
  rw [hK]
  simpa [hr,hws] using ih
theorem qEe (es:List (List T)) (cap:Option Nat) (nl:Option Bool) (hw:D5 1 es):Ae Tryz.prog Γ 94 [.sl es cap nl] (.sl es (some es.length) nl):=by
 refine B1 Y7 rfl ?_
 simp [M5,M6,hw]
theorem qHF (es:List (List T)) (cap:Option Nat) (nl:Option Bool) (hw:D5 1 es):Ae Tryz.prog Γ 93 [.sl es cap nl] (.sl es (some es.length) nl):=by
 refine B1 Wt rfl ?_
 simp [Kx,Ky,hw]
theorem q9m (c:B7) (hc:COk c) (nets:Sl Int) (hl:nets.l.length≤1000000000):Ae Tryz.prog Γ 88 [.agg (tC c),tV nets] (.agg [tVs (q0q c nets.l),tVs (Dt c nets.l)]):=by
 refine B1 q6t rfl ?_
 have h:=qB6 (Γ:=Γ) c hc nets hl
 generalize q0q c nets.l=O at *
 generalize Dt c nets.l=N at *
 simp [N3,A7,A9,Ac,B5,tV] at h
 simp [q1w,tC,A7,A9,Ac,B5,tV]
 refine A3 h rfl ?_
 simp [q1x,tVs]
def Y8 (c:B7) (s:K3) (nets:List Int):K3 :=
 ⟨⟨Dt c nets,some (Dt c nets).length,none⟩,⟨Ns nets c.mems.l s.words.l,some c.mems.l.length,none⟩,⟨Qi nets c.mems.l s.words.l,some c.mems.l.length,none⟩⟩
def Bq (c:B7) (s:K3) (inn:List Int):List Int:=qH3 c inn s.dff.l s.rd
set_option maxHeartbeats 4000000 in
theorem qDr (hΓ:GOk Γ) (c:B7) (h:MOk c) (hn:c.nodes.l.length≤19) (s:K3) (H:J2 c s) (inn:Sl Int) (hi:inn.l.length=(Da c).length) (hv:∀ v ∈ inn.l,V4 v) (hs0:∀ x ∈ mems c,0≤(nd c x).mem∧(nd c x).mem<c.mems.l.length∧0≤(nd c x).bit∧(nd c x).bit<(c.mems.l.getD (nd c x).mem.toNat Mm.d).data.l.length) (hnv:∀ v ∈ Bq c s inn.l,V4 v) (hlv:∀ v ∈ q0x c inn.l s.dff.l s.rd,V4 v) :
  Ae Tryz.prog Γ 25 [.agg (tC c),.agg (Bg s),tV inn] (.tup [.agg (Bg (Y8 c s (Bq c s inn.l))),.agg [tVs (q0q c (Bq c s inn.l)),tVs (Dt c (Bq c s inn.l))],.sl (Az (Bq c s inn.l)) (some c.nodes.l.length) none,tI 0]):=by
 refine B1 q58 rfl ?_
 have e1:=q7b hΓ c h s H inn hi (fun v hv'=>(hv v hv').2)
 have e2:=qDb hΓ c h.ok hn
 have hm:=h.mf
 have hcm:=h.cm
 have hW:=H.words h
 have hzl:(List.replicate c.nodes.l.length (0:Int)).length=c.nodes.l.length:=by simp
 have hld:=qIc (Γ:=Γ) c h.ok s inn (some c.nodes.l.length) (List.replicate c.nodes.l.length 0) hzl h.n hi H.d (fun x hx=>by
  obtain ⟨a1,a2,a3,a4⟩:=hs0 x hx
  exact ⟨a1,by rw [H.r]; exact a2,a3,by rw [H.rl _ (by omega)]; exact a4⟩) rfl
 have hol:(Vb c).length=c.nodes.l.length:=by rw [(q6s c).1.length_eq,Wj]
 have g1:=fun Q h0=>qJL (Γ:=Γ) (Q:=Q) hΓ c (qKW h.ok h.lev) h.n s (Vb c) (by omega) (fun n hn=>by rw [(q6s c).1.mem_iff,qB4] at hn; exact hn) (Bq c s inn.l) h0 (Vb c).length 0 (q0x c inn.l s.dff.l s.rd) (by omega) q6w hlv rfl
 have hnl:(Bq c s inn.l).length=c.nodes.l.length:=qFf
 have hll:(q0x c inn.l s.dff.l s.rd).length=c.nodes.l.length:=q6w
 have hobs:=q9m (Γ:=Γ) c h.ok ⟨Bq c s inn.l,some c.nodes.l.length,none⟩ (by show (Bq c s inn.l).length≤_; omega)
 have hcl:=qAU (Γ:=Γ) ⟨Dt c (Bq c s inn.l),some (Dt c (Bq c s inn.l)).length,none⟩ (fun h=>nomatch h) (by have:=C5 c; show (Dt c _).length≤_; unfold Dt; rw [List.length_map]; omega)
 have hcs:Vi ⟨Dt c (Bq c s inn.l),some (Dt c (Bq c s inn.l)).length,none⟩=⟨Dt c (Bq c s inn.l),none,none⟩:=by unfold Vi; rw [if_neg (fun h=>nomatch h)]
 rw [hcs] at hcl
 have g3:=fun Q o x d h0=>qJM (Γ:=Γ) (Q:=Q) c h.n s (Bq c s inn.l) hnl hnv hcm (fun m hm'=>⟨(hm m hm').1.2,(hm m hm').2.1.2,(hm m hm').2.2⟩) H.w hW o x d (Qi (Bq c s inn.l) c.mems.l s.words.l) (Ns (Bq c s inn.l) c.mems.l s.words.l) h0 c.mems.l.length 0 [] [] (by omega) rfl rfl rfl rfl
 have htk:(Az (Bq c s inn.l)).take c.nodes.l.length=Az (Bq c s inn.l):=by rw [← hnl]; exact E5
 have lR:(Qi (Bq c s inn.l) c.mems.l s.words.l).length=c.mems.l.length:=by unfold Qi; rw [List.length_zipWith,H.w,Nat.min_self]
 have lW:(Ns (Bq c s inn.l) c.mems.l s.words.l).length=c.mems.l.length:=by unfold Ns; rw [List.length_zipWith,H.w,Nat.min_self]
 have tR:(Af tV (Qi (Bq c s inn.l) c.mems.l s.words.l)).take c.mems.l.length=Af tV (Qi (Bq c s inn.l) c.mems.l s.words.l):=by rw [← lR]; exact An
 have tW':(Af tW (Ns (Bq c s inn.l) c.mems.l s.words.l)).take c.mems.l.length=Af tW (Ns (Bq c s inn.l) c.mems.l s.words.l):=by rw [← lW]; exact An
 have c1:=q8z (Γ:=Γ) (Az (Dt c (Bq c s inn.l))) none none A8
 have c2:=qEe (Γ:=Γ) (Af tV (Qi (Bq c s inn.l) c.mems.l s.words.l)) none none A8
 have c3:=qHF (Γ:=Γ) (Af tW (Ns (Bq c s inn.l) c.mems.l s.words.l)) none none A8
 rw [A0] at c1 c2 c3
 rw [lR] at c2
 rw [lW] at c3
 have hz:List.replicate c.nodes.l.length [T.v (Value.int .u8 0)]=Az (List.replicate c.nodes.l.length 0):=by simp [Af]
 unfold Y8
 generalize Qi (Bq c s inn.l) c.mems.l s.words.l=NR at *
 generalize Ns (Bq c s inn.l) c.mems.l s.words.l=NW at *
 generalize q0q c (Bq c s inn.l)=O at *
 generalize Dt c (Bq c s inn.l)=X at *
 generalize Bq c s inn.l=N at *
 generalize q0x c inn.l s.dff.l s.rd=L at *
 have hlev:=h.lev
 simp [tC,A7,A9,Ac,B5,Bg,tV,tW,N7] at e1 e2 hobs hcl
 simp [hlev] at e2
 simp [Yo,A7,A9,Ac,B5,Bg,tV,tW,N7] at hld
 simp [cyE,cyH,Yo,Iy,tC,A7,A9,Ac,B5,Bg,tV,tW,N7] at g1
 simp [qDq,qDp,N3,Iy,tC,A7,A9,Ac,B5,Bg,tV,tW,N7,By,lR,lW] at g3
 simp [Zp,tC,A7,A9,Ac,B5,Bg,tV,tW,N7]
 refine Ad e1 rfl ?_
 simp [Aa]
 refine ⟨by omega,?_⟩
 rw [hz]
 refine ⟨_,_,hld,?_⟩
 simp [A0,hll]
 refine A3 e2 rfl ?_
 simp [A0]
 refine g1 _ ?_
 simp [St.freeze,Bc.closed,Bi,frz1,frz0,Dq,del,Aj,htk]
 refine Ad hobs rfl ?_
 simp [tVs]
 refine Ad hcl rfl ?_
 simp
 refine Ad c1 rfl ?_
 simp [Aa]
 refine g3 _ _ _ _ ?_
 simp [St.freeze,Bc.closed,Bi,frz1,frz0,Dq,del,Aj,tR,tW']
 refine Ad c3 rfl ?_
 simp
 refine Ad c2 rfl ?_
 simp [Zq,Aj,Ai]
def qHG (rel:Int→Int→Prop) (l m:List Int):Prop:=l.length=m.length∧∀ i,i<l.length→rel (l.getD i 0) (m.getD i 0)
structure qKb (rel:Int→Int→Prop) (a b:K3):Prop where
 d:qHG rel a.dff.l b.dff.l
 rl:a.read.l.length=b.read.l.length
 r:∀ i,i<a.read.l.length→qHG rel (a.read.l.getD i Sl.z).l (b.read.l.getD i Sl.z).l
 wl:a.words.l.length=b.words.l.length
 w:∀ i,i<a.words.l.length→(a.words.l.getD i Sl.zz).l.length=(b.words.l.getD i Sl.zz).l.length∧∀ j,j<(a.words.l.getD i Sl.zz).l.length→qHG rel ((a.words.l.getD i Sl.zz).l.getD j Sl.z).l ((b.words.l.getD i Sl.zz).l.getD j Sl.z).l
structure qMO (a:K3):Prop where
 d:a.dff.l.length≤1000000
 r:a.read.l.length≤1000000∧∀ x ∈ a.read.l,x.l.length≤1000000
 w:a.words.l.length≤1000000∧∀ x ∈ a.words.l,x.l.length≤1000000∧∀ y ∈ x.l,y.l.length≤1000000
end Go.Lg
namespace Go.Lg
open Go Go.Proofs
def V3 (v:Int):Prop:=0≤v∧v≤2
theorem V3.four {v:Int} (h:V3 v):V4 v:=by unfold V3 V4 at *; omega
theorem qHH {l:List Int} (h:∀ v ∈ l,V3 v) (i:Nat):V3 (l.getD i 0):=by
 by_cases hi:i<l.length
 ·rw [D8 hi]; exact h _ (List.getElem_mem hi)
 ·rw [List.getD_eq_getElem?_getD,List.getElem?_eq_none (by omega)]; exact ⟨by simp,by simp⟩
theorem q9D {α:Type} {l:List α} {x:α} (d:α) (h:x ∈ l):∃ i,i<l.length∧l.getD i d=x:=by
 obtain ⟨i,hi,rfl⟩:=List.getElem_of_mem h
 exact ⟨i,hi,by simp [List.getD_eq_getElem?_getD,hi]⟩
theorem qBA {w:List Int} (h:∀ v ∈ w,V3 v) (b:Nat):V3 (q3A w b):=by
 unfold q3A
 split
 ·have:=qHH h b
  unfold P6 V3 at *
  split <;> omega
 ·exact ⟨by omega,by omega⟩
theorem qEf {w:List Int} (h:∀ v ∈ w,V4 v) (b:Nat):V3 (q3A w b):=by
 unfold q3A
 split
 ·have:=q1b h b
  unfold P6 V3 V4 at *
  split <;> omega
 ·exact ⟨by omega,by omega⟩
theorem qEg {a b:Int} (ha:V3 a) (hb:V3 b):V3 (qAS a b):=by
 unfold qAS
 split
 ·exact ha
 ·exact ⟨by omega,by omega⟩
theorem qAW {w:List Int} {f:Bool}:∀ {k b:Nat} {o:List Int},(q0y w f k b o).length=o.length
 | 0,_,_=>rfl
 | k+1,b,o=>by simp only [q0y]; rw [qAW,List.length_set]
theorem qEh {w:List Int} (hw:∀ v ∈ w,V3 v) {f:Bool}:∀ {k b:Nat} {o:List Int},(∀ v ∈ o,V3 v)→∀ v ∈ q0y w f k b o,V3 v
 | 0,_,_,h=>h
 | k+1,b,o,h=>by
  simp only [q0y]
  refine qEh hw fun v hv=>?_
  rcases List.mem_or_eq_of_mem_set hv with hv | rfl
  ·exact h v hv
  ·split
   ·exact qBA hw b
   ·exact qEg (qHH h b) (qBA hw b)
theorem qBB {addr:List Int}:∀ {ws:List (List Int)} {i:Nat} {s:List Int × Bool},(∀ w ∈ ws,∀ v ∈ w,V3 v)→(∀ v ∈ s.1,V3 v)→(q4I addr i ws s).1.length=s.1.length∧∀ v ∈ (q4I addr i ws s).1,V3 v
 | [],_,_,_,h=>⟨rfl,h⟩
 | w::ws,i,s,hw,h=>by
  simp only [q4I]
  have hw':∀ x ∈ ws,∀ v ∈ x,V3 v:=fun x hx=>hw x (List.mem_cons_of_mem _ hx)
  by_cases hm:q0N i addr=true
  ·rw [if_pos hm]
   have:=qBB (addr:=addr) (i:=i+1) (s:=(q0y w s.2 s.1.length 0 s.1,false)) hw' (qEh (hw w List.mem_cons_self) h)
   exact ⟨this.1.trans qAW,this.2⟩
  ·rw [if_neg hm]
   exact qBB (addr:=addr) (i:=i+1) hw' h
theorem qCW {words:List (List Int)} {addr:List Int} (hw:∀ w ∈ words,∀ v ∈ w,V3 v):(q3B words addr).length=(words.headD []).length∧∀ v ∈ q3B words addr,V3 v:=by
 cases words with
 | nil=>exact ⟨rfl,fun v h=>by cases h⟩
 | cons w ws =>
  have:=qBB (addr:=addr) (i:=0) (s:=(List.replicate w.length 2,true)) hw (fun v hv=>by rw [List.eq_of_mem_replicate hv]; exact ⟨by omega,by omega⟩)
  exact ⟨this.1.trans (by simp),this.2⟩
theorem q5E {addr data:List Int} {en:Int} {r:List Int}:∀ {ws:List (List Int)} {i:Nat},r ∈ Gs addr data en i ws→∃ i' w,w ∈ ws∧r=Vh i' addr data en w w.length 0
 | [],_,h=>by cases h
 | w::ws,i,h=>by
  rcases List.mem_cons.1 h with rfl | h
  ·exact ⟨i,w,List.mem_cons_self,rfl⟩
  ·obtain ⟨i',w',h1,h2⟩:=q5E h
   exact ⟨i',w',List.mem_cons_of_mem _ h1,h2⟩
theorem qHI {addr data w:List Int} {en:Int} {i:Nat} (hw:∀ v ∈ w,V3 v) (hd:∀ v ∈ data,V4 v):∀ v ∈ Vh i addr data en w w.length 0,V3 v:=by
 intro v hv
 obtain ⟨j,hj,rfl⟩:=q9D 0 hv
 rw [q1l] at hj
 rw [q5B hj]
 unfold q97
 split
 ·exact qBA hw _
 split
 ·exact qEf hd _
 ·exact qEg (qBA hw _) (qEf hd _)
theorem q71 {nets:List Int} {ms:List Mm} {ws:List (Sl (Sl Int))} (h:ws.length=ms.length):(Ns nets ms ws).length=ms.length:=by unfold Ns; rw [List.length_zipWith,h,Nat.min_self]
theorem q72 {nets:List Int} {ms:List Mm} {ws:List (Sl (Sl Int))} (h:ws.length=ms.length):(Qi nets ms ws).length=ms.length:=by unfold Qi; rw [List.length_zipWith,h,Nat.min_self]
theorem q3c {α:Type} {l:List α} {i:Nat} {d:α} (h:i<l.length):l.getD i d=l[i]:=by simp [List.getD_eq_getElem?_getD,h]
theorem q73 {nets:List Int} {ms:List Mm} {ws:List (Sl (Sl Int))} (h:ws.length=ms.length) {i:Nat} (hi:i<ms.length) :
  (Ns nets ms ws).getD i Sl.zz=Vj (Gs (Bl nets (ms.getD i Mm.d).addr.l) (Bl nets (ms.getD i Mm.d).data.l) (nets.getD (ms.getD i Mm.d).write.toNat 0) 0 ((ws.getD i Sl.zz).l.map (·.l))):=by
 have h1:i<ws.length:=by omega
 have h2:i<(Ns nets ms ws).length:=by rw [q71 h]; exact hi
 rw [q3c h2,q3c hi,q3c h1]
 simp only [Ns,List.getElem_zipWith]
theorem qAX {nets:List Int} {ms:List Mm} {ws:List (Sl (Sl Int))} (h:ws.length=ms.length) {i:Nat} (hi:i<ms.length) :
  (Qi nets ms ws).getD i Sl.z=⟨q3B ((ws.getD i Sl.zz).l.map (·.l)) (Bl nets (ms.getD i Mm.d).addr.l),none,none⟩:=by
 have h1:i<ws.length:=by omega
 have h2:i<(Qi nets ms ws).length:=by rw [q72 h]; exact hi
 rw [q3c h2,q3c hi,q3c h1]
 simp only [Qi,List.getElem_zipWith]
theorem qHJ {nets l:List Int} (h:∀ v ∈ nets,V4 v):∀ v ∈ Bl nets l,V4 v:=by
 intro v hv
 obtain ⟨q,_,rfl⟩:=List.mem_map.1 hv
 exact q1b h _
theorem qHK {c:B7} {nets:List Int} (h:∀ v ∈ nets,V4 v):∀ v ∈ Dt c nets,V3 v:=by
 intro v hv
 obtain ⟨n,_,rfl⟩:=List.mem_map.1 hv
 unfold q93 q0M
 split
 ·split
  ·exact ⟨by unfold P6; omega,by unfold P6; omega⟩
  ·have:=q1b h ((Ks c n.toNat).getD 0 0).toNat
   generalize nets.getD ((Ks c n.toNat).getD 0 0).toNat 0=u at *
   unfold V4 at this
   unfold V3 P6 F4
   constructor <;> (split <;> split <;> omega)
 ·exact ⟨by omega,by omega⟩
theorem qCX {c:B7} (h:MOk c) {s:K3} (H:J2 c s) {nets:List Int} (hv:∀ v ∈ nets,V4 v):J2 c (Y8 c s nets):=by
 have hwm:∀ i,i<c.mems.l.length→∀ r ∈ ((s.words.l.getD i Sl.zz).l.map (·.l)),∀ v ∈ r,V3 v:=fun i hi r hr v hvv=>by
  obtain ⟨x,hx,rfl⟩:=List.mem_map.1 hr
  exact H.vw _ (q3b (by rw [H.w]; exact hi)) x hx v hvv
 have hsw:=H.w
 refine ⟨by simp [Y8,Dt],q71 hsw,q72 hsw,fun i hi=>?_,fun i hi w hw=>?_,fun i hi=>?_,qHK hv,fun w hw r hr=>?_,fun r hr=>?_⟩
 ·show ((Ns nets c.mems.l s.words.l).getD i Sl.zz).l.length=_
  rw [q73 hsw hi]
  simp only [Vj,List.length_map,q5D]
  exact H.wl i hi
 ·have hw:w ∈ ((Ns nets c.mems.l s.words.l).getD i Sl.zz).l:=hw
  rw [q73 hsw hi] at hw
  simp only [Vj] at hw
  obtain ⟨r,hr,rfl⟩:=List.mem_map.1 hw
  obtain ⟨i',w',hw',rfl⟩:=q5E hr
  obtain ⟨x,hx,rfl⟩:=List.mem_map.1 hw'
  show (Vh _ _ _ _ _ _ _).length=_
  rw [q1l]
  exact H.wr i hi x hx
 ·show ((Qi nets c.mems.l s.words.l).getD i Sl.z).l.length=_
  rw [qAX hsw hi]
  simp only
  rw [(qCW (hwm i hi)).1]
  have hlen:=H.wl i hi
  have hwr:=H.wr i hi
  cases hW:(s.words.l.getD i Sl.zz).l with
  | nil =>
   rw [hW] at hlen
   have:=Nat.pow_pos (n:=(c.mems.l.getD i Mm.d).addr.l.length) (show 0<2 by omega)
   simp only [List.length_nil] at hlen
   omega
  | cons x xs =>
   rw [hW] at hwr
   exact hwr x List.mem_cons_self
 ·obtain ⟨i,hi,rfl⟩:=q9D Sl.zz hw
  have hi':i<c.mems.l.length:=by have:(Y8 c s nets).words.l.length=c.mems.l.length:=q71 hsw; omega
  have hr:r ∈ ((Ns nets c.mems.l s.words.l).getD i Sl.zz).l:=hr
  rw [q73 hsw hi'] at hr
  simp only [Vj] at hr
  obtain ⟨q,hq,rfl⟩:=List.mem_map.1 hr
  obtain ⟨i',w',hw',rfl⟩:=q5E hq
  exact qHI (hwm i hi' w' hw') (qHJ hv)
 ·obtain ⟨i,hi,rfl⟩:=q9D Sl.z hr
  have hi':i<c.mems.l.length:=by have:(Y8 c s nets).read.l.length=c.mems.l.length:=q72 hsw; omega
  have e:(Y8 c s nets).read.l.getD i Sl.z=_:=qAX hsw hi'
  rw [e]
  exact (qCW (hwm i hi')).2
theorem qHL {c:B7}:∀ {o nets:List Int},(∀ v ∈ nets,V4 v)→∀ v ∈ qFW c o nets,V4 v
 | [],nets,h=>h
 | n::o,nets,h=>qHL (o:=o) (nets:=q49 c nets n) (qEZ h)
theorem qEi {c:B7} {s:K3} (H:J2 c s) {inn:List Int} (hv:∀ v ∈ inn,V4 v):∀ v ∈ q0x c inn s.dff.l s.rd,V4 v:=by
 refine q84 (fun v hvm=>?_) (q84 (fun v h=>(show V3 v from H.vd v h).four) (q84 hv fun v hv=>by rw [(List.mem_replicate.1 hv).2]; simp [V4]))
 obtain ⟨n,_,rfl⟩:=List.mem_map.1 hvm
 by_cases hm:(nd c n).mem.toNat<s.rd.length
 ·refine q1b (fun v hv=>?_) _
  have hmem:=q3b (d:=([]:List Int)) hm
  obtain ⟨r,hr,e⟩:=List.mem_map.1 hmem
  rw [← e] at hv
  exact (show V3 v from H.vr r hr v hv).four
 ·have e:s.rd.getD (nd c n).mem.toNat []=[]:=by rw [List.getD_eq_getElem?_getD,List.getElem?_eq_none (by omega)]; rfl
  rw [e]
  exact ⟨by simp,by simp⟩
theorem qBC {c:B7} {s:K3} (H:J2 c s) {inn:List Int} (hv:∀ v ∈ inn,V4 v):∀ v ∈ Bq c s inn,V4 v:=qHL (qEi H hv)
theorem qHM {c:B7} (h:Eb c=0):∀ x ∈ mems c,0≤(nd c x).mem∧(nd c x).mem<c.mems.l.length∧0≤(nd c x).bit∧(nd c x).bit<(c.mems.l.getD (nd c x).mem.toNat Mm.d).data.l.length:=by
 intro x hx
 obtain ⟨h0,h1,h2⟩:=q0K x hx
 have hi:x.toNat<c.nodes.l.length:=by omega
 have hne:=(Gy (Kt h).1).2.2.1 _ (qH0 h0 h1)
 have hk:(nd c x).k=15:=by
  have:=q0i [15] c.nodes.l 0 x hx
  simpa [nd] using this.2.2
 unfold D7 at hne
 rw [if_neg (by omega)] at hne
 split at hne
 ·cases hne
 split at hne
 ·cases hne
 split at hne
 ·cases hne
 split at hne
 ·cases hne
 rename_i hb
 simp [Xr,hk] at hb
 exact hb
theorem qHN {Γ:Tables} (hΓ:GOk Γ) {c:B7} (h:MOk c) (hn:c.nodes.l.length≤19) {s:K3} (H:J2 c s) (inn:Sl Int) (hi:inn.l.length=(Da c).length) (hv:∀ v ∈ inn.l,V4 v) :
  Ae Tryz.prog Γ 25 [.agg (tC c),.agg (Bg s),tV inn] (.tup [.agg (Bg (Y8 c s (Bq c s inn.l))),.agg [tVs (q0q c (Bq c s inn.l)),tVs (Dt c (Bq c s inn.l))],.sl (Az (Bq c s inn.l)) (some c.nodes.l.length) none,tI 0]) :=
 qDr hΓ c h hn s H inn hi hv (qHM h.lev) (qBC H hv) (qEi H hv)
end Go.Lg
namespace Go.Lg
open Go Go.Proofs
variable {Γ:Tables}
theorem q3d (a b:List UInt8):ByteArray.mk a.toArray++ByteArray.mk b.toArray=ByteArray.mk (a++b).toArray:=by
 apply ByteArray.ext
 simp [ByteArray.data_append]
theorem qJN {α:Type} {l:List α} (h:l.length=1):∃ a,l=[a]:=by
 match l,h with
 | [a],_=>exact ⟨a,rfl⟩
theorem qEj {α:Type} {l:List α} (h:l.length=2):∃ a b,l=[a,b]:=by
 match l,h with
 | [a,b],_=>exact ⟨a,b,rfl⟩
theorem st2 {c:B7} {s:K3} (H:J2 c s) {m:Mm} (hm:c.mems.l=[m]) (ha:m.addr.l.length=1) (hd:m.data.l.length=2) :
  ∃ W r0 r1 a b cc d rd e f,s.words.l=[W]∧W.l=[r0,r1]∧r0.l=[a,b]∧r1.l=[cc,d]∧s.read.l=[rd]∧rd.l=[e,f]∧V3 a∧V3 b∧V3 cc∧V3 d∧V3 e∧V3 f:=by
 have hl:c.mems.l.length=1:=by rw [hm]; rfl
 obtain ⟨W,hW⟩:=qJN (H.w.trans hl)
 obtain ⟨rd,hr⟩:=qJN (H.r.trans hl)
 have wl:=H.wl 0 (by omega)
 have wr:=H.wr 0 (by omega)
 have rl:=H.rl 0 (by omega)
 have em:c.mems.l.getD 0 Mm.d=m:=by rw [hm]; rfl
 have eW:s.words.l.getD 0 Sl.zz=W:=by rw [hW]; rfl
 have er:s.read.l.getD 0 Sl.z=rd:=by rw [hr]; rfl
 rw [eW,em,ha] at wl
 rw [eW,em,hd] at wr
 rw [er,em,hd] at rl
 obtain ⟨r0,r1,hW2⟩:=qEj (show W.l.length=2 from wl)
 obtain ⟨e,f,hrd⟩:=qEj rl
 obtain ⟨a,b,h0⟩:=qEj (wr r0 (by rw [hW2]; simp))
 obtain ⟨cc,d,h1⟩:=qEj (wr r1 (by rw [hW2]; simp))
 have v0:=H.vw W (by rw [hW]; simp) r0 (by rw [hW2]; simp)
 have v1:=H.vw W (by rw [hW]; simp) r1 (by rw [hW2]; simp)
 have v2:=H.vr rd (by rw [hr]; simp)
 exact ⟨W,r0,r1,a,b,cc,d,rd,e,f,hW,hW2,h0,h1,hr,hrd,v0 a (by rw [h0]; simp),v0 b (by rw [h0]; simp),v1 cc (by rw [h1]; simp),v1 d (by rw [h1]; simp),v2 e (by rw [hrd]; simp),v2 f (by rw [hrd]; simp)⟩
def Qp (n:Nat):Sl Int:=⟨List.replicate n 2,none,none⟩
def q5F (m:Mm):Sl (Sl Int):=⟨List.replicate (2 ^ m.addr.l.length) (Qp m.data.l.length),none,none⟩
def L0 (c:B7):K3:=⟨Qp (Ag c).length,⟨c.mems.l.map q5F,some c.mems.l.length,none⟩,⟨c.mems.l.map fun m=>Qp m.data.l.length,some c.mems.l.length,none⟩⟩
def blH (m:Mm) (d:T) (nw nr:Nat):List (Nat × Bc):=[(2,.bx [Iy,Iy,Iy]),(3,.bx [.t d,.ls 46 0 nw none,.ls 55 0 nr none]),(5,.bx ((tMm m).map .t))]
def blT (ws:List (Sl (Sl Int))) (rs:List (Sl Int)):List (Nat × Bc):=[(46,.sl 57 1 (Af tW ws)),(55,.sl 55 1 (Af tV rs))]
theorem qMP {Q:AX→St→Prop} (m:Mm) (K:Nat) (hK:K≤1000000) (hd:m.data.l.length≤60000) (tm:T) (len j:Int) (d:T) (ws:List (Sl (Sl Int))) (rs:List (Sl Int)) (R:List (List T)) (hR:R=Af tV (List.replicate K (Qp m.data.l.length)))
  (h0:Q (.exit 2) ⟨[(2,.lp 2 0 0),(3,.lp 3 0 0),(5,.lp 5 0 0),(6,.ls 28 0 K none),(18,.t tm),(19,.t (tI len)),(20,.t (tI j)),(30,.t (tI K)),(31,.t (tI K)),(32,.t (tB false))],blH m d ws.length rs.length++(28,.sl 55 1 R)::blT ws rs⟩) :
  ∀ (k i:Nat),k+i=K →
  run Tryz.prog Γ Jr Q ⟨[(2,.lp 2 0 0),(3,.lp 3 0 0),(5,.lp 5 0 0),(6,.ls 28 0 K none),(18,.t tm),(19,.t (tI len)),(20,.t (tI j)),(30,.t (tI K)),(31,.t (tI i))],blH m d ws.length rs.length++(28,.sl 55 1 (R.take i++List.replicate (K - i) [T.sl [] (some 0) (some true)]))::blT ws rs⟩:=by
 have hRl:R.length=K:=by rw [hR,A0]; simp
 intro k
 induction k with
 | zero =>
  intro i h
  refine Rk fun KK hKK=>?_
  have h2:i=K:=by omega
  subst h2
  rw [← hRl,List.take_length,hRl,Nat.sub_self,List.replicate_zero,List.append_nil]
  simp [blH,blT,Iy] at h0
  simp [blH,blT,Iy]
  simpa using h0
 | succ k ih =>
  intro i h
  refine Rk fun KK hKK=>?_
  have h2:i<K:=by omega
  have h2R:i<R.length:=by omega
  have ih:=ih (i+1) (by omega)
  have hu:=q1k (Γ:=Γ) m.data.l.length hd
  have hRi:R[i]=[T.sl (Az (List.replicate m.data.l.length 2)) none none]:=by
   have:R[i]? = some [T.sl (Az (List.replicate m.data.l.length 2)) none none]:=by
    rw [hR]
    simp [Af,List.getElem?_replicate,h2,tV,Qp]
   rw [List.getElem?_eq_getElem h2R] at this
   exact Option.some.inj this
  have hset:(R.take i++List.replicate (K - i) [T.sl [] (some 0) (some true)]).set i [T.sl (Az (List.replicate m.data.l.length 2)) none none]=R.take (i+1)++List.replicate (K - (i+1)) [T.sl [] (some 0) (some true)]:=by
   have ht:(R.take i).length=i:=by rw [List.length_take]; omega
   rw [List.set_append_right _ _ (by omega),ht,Nat.sub_self,show K - i=(K - (i+1))+1 by omega,List.replicate_succ,List.set_cons_zero,List.take_add_one,List.getElem?_eq_getElem h2R,hRi]
   simp
  have hel:(R.take i++List.replicate (K - i) [T.sl [] (some 0) (some true)]).length=K:=by simp; omega
  generalize R.take i++List.replicate (K - i) [T.sl [] (some 0) (some true)]=E at *
  generalize R.take (i+1)++List.replicate (K - (i+1)) [T.sl [] (some 0) (some true)]=E' at *
  have w1:=B8 (i:=i) (by omega)
  simp [blH,blT,Iy,tMm,B5] at ih
  simp [blH,blT,Iy,tMm,B5,h2,A0]
  refine Ad hu rfl ?_
  simp [h2,hel,hset,w1]
  rw [hKK]
  simpa using ih
theorem qJO {Q:AX→St→Prop} (c:B7) (hcm:c.mems.l.length≤16) (hm:∀ m ∈ c.mems.l,m.addr.l.length≤8∧m.data.l.length≤32) (d:T) (RW:List (Sl (Sl Int))) (RR:List (Sl Int))
  (h0:Q (.exit 0) ⟨[(2,.lp 2 0 0),(3,.lp 3 0 0),(18,.t (Ac c.mems)),(19,.t (tI c.mems.l.length)),(20,.t (tI c.mems.l.length)),(21,.t (tB false))],[(2,.bx [Iy,Iy,Iy]),(3,.bx [.t d,.ls 46 0 RW.length none,.ls 55 0 RR.length none])]++blT RW RR⟩) :
  ∀ (k i:Nat) (ws:List (Sl (Sl Int))) (rs:List (Sl Int)),k+i=c.mems.l.length→ws.length=i→rs.length=i→ws++(c.mems.l.drop i).map q5F=RW→rs++(c.mems.l.drop i).map (fun m=>Qp m.data.l.length)=RR →
  run Tryz.prog Γ Js Q ⟨[(2,.lp 2 0 0),(3,.lp 3 0 0),(18,.t (Ac c.mems)),(19,.t (tI c.mems.l.length)),(20,.t (tI i))],[(2,.bx [Iy,Iy,Iy]),(3,.bx [.t d,.ls 46 0 i none,.ls 55 0 i none])]++blT ws rs⟩
 | 0,i,ws,rs,h,hw,hr,hW,hR=>by
  refine Rl fun K hK=>?_
  have h2:i=c.mems.l.length:=by omega
  subst h2
  rw [List.drop_length] at hW hR
  simp only [List.map_nil,List.append_nil] at hW hR
  subst hW
  subst hR
  simp [blT,Iy,Ac,hw,hr] at h0
  simp [blT,Iy,Ac]
  simpa using h0
 | k+1,i,ws,rs,h,hw,hr,hW,hR=>by
  refine Rl fun K hK=>?_
  have h2:i<c.mems.l.length:=by omega
  rw [List.drop_eq_getElem_cons h2,List.map_cons] at hW hR
  have e1:(Ao tMm c.mems.l)[i]?.getD []=tMm c.mems.l[i]:=by simp [Ao,h2]
  have e1':∀ h,(Ao tMm c.mems.l)[i]'h=tMm c.mems.l[i]:=fun h=>by simp [Ao]
  obtain ⟨ma,md⟩:=hm _ (List.getElem_mem h2)
  generalize c.mems.l[i]=m at *
  have hK256:2 ^ m.addr.l.length≤256:=Nat.pow_le_pow_right (by omega) ma
  have sh:=qMN ma
  have g:=fun Q h0=>qMP (Γ:=Γ) (Q:=Q) m (2 ^ m.addr.l.length) (by omega) (by omega) (Ac c.mems) c.mems.l.length i d ws rs (Af tV (List.replicate (2 ^ m.addr.l.length) (Qp m.data.l.length))) rfl h0 (2 ^ m.addr.l.length) 0 (by omega)
  rw [List.take_zero,Nat.sub_zero,List.nil_append] at g
  have hu:=q1k (Γ:=Γ) m.data.l.length (by omega)
  have hul:(List.replicate (2 ^ m.addr.l.length) (Qp m.data.l.length)).length=2 ^ m.addr.l.length:=by simp
  have vt:(Af tV (List.replicate (2 ^ m.addr.l.length) (Qp m.data.l.length))).take (2 ^ m.addr.l.length)=Af tV (List.replicate (2 ^ m.addr.l.length) (Qp m.data.l.length)):=List.take_of_length_le (by rw [A0,hul]; exact Nat.le_refl _)
  have ih:=qJO c hcm hm d RW RR h0 k (i+1) (ws++[q5F m]) (rs++[Qp m.data.l.length]) (by omega) (by simp [hw]) (by simp [hr]) (by rw [← hW]; simp) (by rw [← hR]; simp)
  have vsw:Af tW ws++[[T.sl (Af tV (List.replicate (2 ^ m.addr.l.length) (Qp m.data.l.length))) none none]]=Af tW (ws++[q5F m]):=Bz (f:=tW) (x:=q5F m)
  have vsr:Af tV rs++[[T.sl (Az (List.replicate m.data.l.length 2)) none none]]=Af tV (rs++[Qp m.data.l.length]):=Bz (f:=tV) (x:=Qp m.data.l.length)
  have vtw:(Af tW ws).take i=Af tW ws:=by rw [← hw]; exact An
  have vtr:(Af tV rs).take i=Af tV rs:=by rw [← hr]; exact An
  generalize Af tV (List.replicate (2 ^ m.addr.l.length) (Qp m.data.l.length))=rows at *
  generalize Az (List.replicate m.data.l.length 2)=rd at *
  generalize q5F m=uw at *
  generalize Qp m.data.l.length=us at *
  have hnat:((2 ^ m.addr.l.length:Nat):Int).toNat=2 ^ m.addr.l.length:=Int.toNat_natCast _
  generalize 2 ^ m.addr.l.length=KK at *
  have w1:=B8 (i:=i) (by omega)
  have hw1:∀ t:T,D5 1 [[t]]:=fun t e he=>by simp at he; subst he; rfl
  simp only [tMm,B5] at e1 e1'
  simp [blH,blT,Iy,tMm,B5,Ac,hw,hr] at g ih
  simp [blT,Iy,Ac,Z2,Aa,A0,h2,e1,e1',sh]
  refine ⟨by omega,?_⟩
  refine g _ ?_
  simp [St.freeze,Bc.closed,Bi,frz1,frz0,Dq,del,Aj,vt,vtw,vsw,hw1,A8,A0,hw]
  refine ⟨by omega,?_⟩
  refine Ad hu rfl ?_
  simp [vtr,vsr,hw1,A8,A0,hr,w1]
  refine ⟨by omega,?_⟩
  rw [hK]
  simpa using ih
theorem qCY (hΓ:GOk Γ) (c:B7) (h:MOk c) (hs:(Ag c).length≤60000):Ae Tryz.prog Γ 29 [.agg (tC c)] (.agg (Bg (L0 c))):=by
 refine B1 q59 rfl ?_
 have e1:=q1Y hΓ c h.ok
 rw [h.lev] at e1
 have e2:=Ek (Γ:=Γ) c h.ok
 have e3:=q1k (Γ:=Γ) (Ag c).length hs
 have hcm:=h.cm
 have g:=fun Q d h0=>qJO (Γ:=Γ) (Q:=Q) c h.cm (fun m hm=>⟨(h.mf m hm).1.2,(h.mf m hm).2.1.2⟩) d (c.mems.l.map q5F) (c.mems.l.map fun m=>Qp m.data.l.length) h0 c.mems.l.length 0 [] [] (by omega) rfl rfl rfl rfl
 have lW:(c.mems.l.map q5F).length=c.mems.l.length:=by simp
 have lR:(c.mems.l.map fun m=>Qp m.data.l.length).length=c.mems.l.length:=by simp
 have tw:(Af tW (c.mems.l.map q5F)).take c.mems.l.length=Af tW (c.mems.l.map q5F):=by rw [← lW]; exact An
 have tr:(Af tV (c.mems.l.map fun m=>Qp m.data.l.length)).take c.mems.l.length=Af tV (c.mems.l.map fun m=>Qp m.data.l.length):=by rw [← lR]; exact An
 have c2:=qEe (Γ:=Γ) (Af tV (c.mems.l.map fun m=>Qp m.data.l.length)) none none A8
 have c3:=qHF (Γ:=Γ) (Af tW (c.mems.l.map q5F)) none none A8
 rw [A0,lR] at c2
 rw [A0,lW] at c3
 unfold L0
 generalize (c.mems.l.map q5F)=W at *
 generalize (c.mems.l.map fun m=>Qp m.data.l.length)=R at *
 simp [tC,A7,A9,Ac,B5] at e1 e2
 simp [blT,Iy,Ac,By,lW,lR] at g
 simp [Zt,tC,A7,A9,Ac,B5]
 refine A3 e1 rfl ?_
 simp
 refine Ad e2 rfl ?_
 simp [A0]
 refine Ad e3 rfl ?_
 simp [Aa]
 refine g _ _ ?_
 simp [St.freeze,Bc.closed,Bi,frz1,frz0,Dq,del,Aj,tw,tr]
 refine Ad c3 rfl ?_
 simp
 refine Ad c2 rfl ?_
 simp [Zu,Aj,Ai,Bg,tV,tW,N7,Qp]
theorem qDY.rel {a b:List Int} (h:qDY a b):qHG Blw a b:=⟨h.1,fun i _=>h.2 i⟩
end Go.Lg
namespace Go.Lg
open Go Go.Proofs
def seqS (c:B7):K3→List (List Int)→K3
 | s,[]=>s
 | s,i::is=>seqS c (Y8 c s (Bq c s i)) is
def seqR (c:B7):K3→List (List Int)→List (List Int × List Int)
 | _,[]=>[]
 | s,i::is=>(q0q c (Bq c s i),Dt c (Bq c s i))::seqR c (Y8 c s (Bq c s i)) is
theorem qCZ {c:B7}:∀ {is:List (List Int)} {s:K3},(seqR c s is).length=is.length
 | [],_=>rfl
 | _::is,s=>by simp [seqR,qCZ (is:=is)]
structure Y9 (a b:K3):Prop where
 d:a.dff.l=b.dff.l
 w:a.ws=b.ws
 r:a.rd=b.rd
theorem Y9.refl (a:K3):Y9 a a:=⟨rfl,rfl,rfl⟩
theorem Y9.symm {a b:K3} (h:Y9 a b):Y9 b a:=⟨h.d.symm,h.w.symm,h.r.symm⟩
theorem Y9.trans {a b d:K3} (h:Y9 a b) (g:Y9 b d):Y9 a d:=⟨h.d.trans g.d,h.w.trans g.w,h.r.trans g.r⟩
theorem q9E {nets:List Int}:∀ {ms:List Mm} {ws:List (Sl (Sl Int))},Qi nets ms ws=List.zipWith (fun m w=>⟨q3B w (Bl nets m.addr.l),none,none⟩) ms (ws.map fun w=>w.l.map (·.l))
 | [],_=>rfl
 | _::_,[]=>rfl
 | m::ms,w::ws=>by
  have:=q9E (nets:=nets) (ms:=ms) (ws:=ws)
  unfold Qi at this ⊢
  simp only [List.zipWith_cons_cons,List.map_cons,this]
theorem q9F {nets:List Int}:∀ {ms:List Mm} {ws:List (Sl (Sl Int))},Ns nets ms ws=List.zipWith (fun m w=>Vj (Gs (Bl nets m.addr.l) (Bl nets m.data.l) (nets.getD m.write.toNat 0) 0 w)) ms (ws.map fun w=>w.l.map (·.l))
 | [],_=>rfl
 | _::_,[]=>rfl
 | m::ms,w::ws=>by
  have:=q9F (nets:=nets) (ms:=ms) (ws:=ws)
  unfold Ns at this ⊢
  simp only [List.zipWith_cons_cons,List.map_cons,this]
theorem Y9.nets {c:B7} {a b:K3} (h:Y9 a b) (i:List Int):Bq c a i=Bq c b i:=by unfold Bq; rw [h.d,h.r]
theorem Y9.next {c:B7} {a b:K3} (h:Y9 a b) (N:List Int):Y8 c a N=Y8 c b N:=by
 unfold Y8
 rw [q9E,q9E,q9F,q9F]
 have hw:=h.w
 unfold K3.ws at hw
 rw [hw]
theorem Y9.seqR {c:B7} {a b:K3} (h:Y9 a b):∀ {is:List (List Int)},seqR c a is=seqR c b is
 | []=>rfl
 | i::is=>by simp only [Lg.seqR]; rw [h.nets i,h.next]
theorem Y9.seqS {c:B7} {a b:K3} (h:Y9 a b):∀ {is:List (List Int)},Y9 (seqS c a is) (seqS c b is)
 | []=>h
 | i::is=>by simp only [Lg.seqS]; rw [h.nets i,h.next]; exact .refl _
theorem q5G {a b:List (Sl Int)} (h:a.map (·.l)=b.map (·.l)) (i:Nat):(a.getD i Sl.z).l=(b.getD i Sl.z).l:=by
 have:=congrArg (fun x=>x.getD i []) h
 simp only [List.getD_eq_getElem?_getD,List.getElem?_map] at this ⊢
 cases ha:a[i]? <;> cases hb:b[i]? <;> simp [ha,hb] at this ⊢ <;> first | exact this | (simp [Sl.z,this])
theorem X3 {α β:Type} {f:α→β} {a b:List α} (h:a.map f=b.map f):a.length=b.length:=by
 have:=congrArg List.length h
 simpa using this
theorem q5H {a b:List (Sl (Sl Int))} (h:(a.map fun w=>w.l.map (·.l))=b.map fun w=>w.l.map (·.l)) (i:Nat):(a.getD i Sl.zz).l.map (·.l)=(b.getD i Sl.zz).l.map (·.l):=by
 have:=congrArg (fun x=>x.getD i []) h
 simp only [List.getD_eq_getElem?_getD,List.getElem?_map] at this ⊢
 cases ha:a[i]? <;> cases hb:b[i]? <;> simp [ha,hb] at this ⊢ <;> first | exact this | (simp [Sl.zz,this])
theorem qHO {a b:List Int} (h:a=b):qHG (·=·) a b:=by subst h; exact ⟨rfl,fun _ _=>rfl⟩
theorem Y9.rel {a b:K3} (h:Y9 a b):qKb (·=·) a b:=by
 have hw:=h.w
 have hr:=h.r
 unfold K3.ws at hw
 unfold K3.rd at hr
 refine ⟨qHO h.d,X3 hr,fun i _=>qHO (q5G hr i),X3 hw,fun i _=>?_⟩
 have:=q5H hw i
 exact ⟨X3 this,fun j _=>qHO (q5G this j)⟩
theorem q74 {a b:List (Sl Int)} (h:a.map (·.l)=b.map (·.l)) {r:Sl Int} (hr:r ∈ a):∃ q ∈ b,q.l=r.l:=by
 have:r.l ∈ b.map (·.l):=by rw [← h]; exact List.mem_map.2 ⟨r,hr,rfl⟩
 obtain ⟨q,hq,e⟩:=List.mem_map.1 this
 exact ⟨q,hq,e⟩
theorem Y9.ok {c:B7} {a b:K3} (h:Y9 a b) (H:J2 c b):J2 c a:=by
 have hw:=h.w
 have hr:=h.r
 unfold K3.ws at hw
 unfold K3.rd at hr
 refine ⟨by rw [h.d,H.d],(X3 hw).trans H.w,(X3 hr).trans H.r,fun i hi=>(X3 (q5H hw i)).trans (H.wl i hi),fun i hi w hw'=>?_,fun i hi=>by rw [q5G hr i]; exact H.rl i hi,by rw [h.d]; exact H.vd,fun w hw' r hr'=>?_,fun r hr'=>?_⟩
 ·obtain ⟨q,hq,e⟩:=q74 (q5H hw i) hw'
  rw [← e]; exact H.wr i hi q hq
 ·have:w.l.map (·.l) ∈ b.words.l.map fun w=>w.l.map (·.l):=by rw [← hw]; exact List.mem_map.2 ⟨w,hw',rfl⟩
  obtain ⟨W,hW,e⟩:=List.mem_map.1 this
  obtain ⟨q,hq,e2⟩:=q74 e.symm hr'
  rw [← e2]; exact H.vw W hW q hq
 ·obtain ⟨q,hq,e⟩:=q74 hr hr'
  rw [← e]; exact H.vr q hq
def qJP (c:B7) (is:List (List Int)):Prop:=∀ i ∈ is,i.length=(Da c).length∧∀ v ∈ i,V4 v
theorem qEk {c:B7} (h:MOk c):∀ {is:List (List Int)} {s:K3},J2 c s→qJP c is→J2 c (seqS c s is)
 | [],_,H,_=>H
 | i::is,s,H,hi=>by
  simp only [seqS]
  exact qEk h (qCX h H (qBC H (hi i List.mem_cons_self).2)) fun x hx=>hi x (List.mem_cons_of_mem _ hx)
end Go.Lg
namespace Go.Lg
open Go
section
variable {P:Program} {Γ:Tables} {Q:AX→St→Prop} {s:St}
/- probecard/cycles.Run (function 24) -/
abbrev q4O:IC:=.gh (.seq (.reg [od 29 (.bin .lss (tm 28) (tm 27))] [kp [2,3,4,7,26,27,28,29] [7]]) (.seq (.cond (tm 29) .skip (.exit 0)) (.seq (.block 1 (.seq (.reg [od 30 (ia 1 26 28),od 31 (ld 1 30),om 10 31] [kp [2,3,4,7,10,26,
 27,28] [7]]) (.seq (.reg [od 32 (lG 4 3),od 33 (lG 3 4),om 34 10,od 35 (.call 82 [(tm 32),(tm 33),(tm 34)]),om 11 35] [kp [2,3,4,7,11,26,27,28] [7]]) (.seq (.reg [om 36 11,od 37 (.bin .neq (tm 36) (ki 0))] [kp [2,3,
 4,7,11,26,27,28,37] [7]]) (.cond (tm 37) (.seq (.reg [od 38 (.build [(1,kN),(1,kN),(1,kN)]),om 39 11,od 6 (.mv kN),on (.store 3 (tm 7) (tm 38)),om 8 39] [kp [6,7,8] [7,43]]) .ret) .skip))))) (.reg [od 40 (.bin
 .add (tm 28) (ki 1)),om 28 40] [kp [2,3,4,7,26,27,28] [7]])))) [kp [2,3,4,7,26,27,28] [7]]
def Tu:IC:=.loop q4O
abbrev q4P:IC:=.gh (.seq (.reg [od 49 (.bin .lss (tm 48) (tm 47))] [kp [3,7,12,13,46,47,48,49] [7,13,43]]) (.seq (.cond (tm 49) .skip (.exit 2)) (.seq (.block 3 (.seq (.reg [om 50 48,od 51 (ia 1 46 48),od 52 (ld 1 51),om 14 50,om 15
 52] [kp [3,7,12,13,14,15,46,47,48] [7,13,43]]) (.reg [om 54 12,om 55 14,od 56 (lG 4 3),od 57 (lG 3 13),om 58 15,od 59 (.call 25 [(tm 56),(tm 57),(tm 58)]),om 53 59,od 60 (ex 53 0),od 61 (ex 53 1),od 62 (ex 53
 2),od 63 (ex 53 3),on (.store 3 (tm 13) (tm 60)),od 64 (ia 2 54 55),on (.store 2 (tm 64) (tm 61))] [kp [3,7,12,13,46,47,48] [7,13,43]]))) (.reg [od 65 (.bin .add (tm 48) (ki 1)),om 48 65] [kp [3,7,12,13,46,47,48]
 [7,13,43]])))) [kp [3,7,12,13,46,47,48] [7,13,43]]
def Tv:IC:=.loop q4P
abbrev q4Q:IC:=(.seq (.reg [od 3 (.box true (tm 0)),od 4 (.box true (tm 1)),od 6 (.mv kN),od 7 (.alloc false [(.slice none 0 0),(.slice none 0 0),(.slice none 0 0)]),od 8 (.mv (ki 0))] [kp [2,3,4,7] [7]]) (.seq (.seq (.reg [om 16 2,od
 17 (le 0 16),od 18 (.bin .gtr (tm 17) (ki 1024))] [kp [2,3,4,7,18] [7]]) (.cond (tm 18) (.seq (.reg [od 19 (.build [(1,kN),(1,kN),(1,kN)]),od 6 (.mv kN),on (.store 3 (tm 7) (tm 19)),od 8 (.mv (ki 3))] [kp [6,7,8] [7,
 43]]) .ret) .skip)) (.seq (.seq (.reg [od 20 (lG 4 3),od 21 (.call 81 [(tm 20)]),od 22 (.fld 0 1 false (tm 21)),od 23 (.bsl true 55 1 [(tm 22)]),om 24 2,od 25 (.bsl true 57 1 [(tm 23),(tm 24)]),od 26 (.call 80 [(tm 25)]),od
 27 (le 0 26),od 28 (.mv (ki 0))] [kp [2,3,4,7,26,27,28] [7]]) (.block 0 Tu)) (.seq (.reg [om 41 2,od 42 (le 0 41),od 43 (.mkE 66 2 [(.slice none 0 0),(.slice none 0 0)] (tm 42) (tm 42)),om 12 43] [kp [2,3,4,
 7,12] [7,43]]) (.seq (.reg [od 44 (lG 3 4),od 45 (.call 83 [(tm 44)]),od 13 (.alloc false [(.slice none 0 0),(.slice none 0 0),(.slice none 0 0)]),on (.store 3 (tm 13) (tm 45))] [kp [2,3,7,12,13] [7,13,43]]) (.seq
 (.seq (.reg [om 46 2,od 47 (le 0 46),od 48 (.mv (ki 0))] [kp [3,7,12,13,46,47,48] [7,13,43]]) (.block 2 Tv)) (.seq (.reg [om 66 12,od 67 (.ldR 13 3 true (tm 13)),om 6 66,on (.stR 7 3 (tm 7) (tm 67)),od 8
 (.mv (ki 0))] [kp [6,7,8] [7,43]]) .ret)))))))
theorem Zy (h:∀ K:St→Prop,K=run P Γ Tu Q→run P Γ q4O (As K Q) s):run P Γ Tu Q s:=Ah h
theorem Zz (h:∀ K:St→Prop,K=run P Γ Tv Q→run P Γ q4P (As K Q) s):run P Γ Tv Q s:=Ah h
def q4R:List RV:=[.tmp 6,.cell 7 3 true,.tmp 8]
/- probecard/cycles.copied (function 83) -/
abbrev q10:IC:=.gh (.seq (.reg [od 25 (.bin .lss (tm 24) (tm 23))] [kp [1,2,3,6,16,17,18,22,23,24,25] [2,3,32,39,54]]) (.seq (.cond (tm 25) .skip (.exit 2)) (.seq (.block 3 (.seq (.reg [od 26 (ia 1 22 24),od 27 (ld 1 26),om 8 27]
 [kp [1,2,3,6,8,16,17,18,22,23,24] [2,3,32,39,54]]) (.reg [om 28 6,om 29 8,od 30 (.call 108 [(tm 29)]),od 31 (.bsl true 55 1 [(tm 30)]),od 32 (.app false 55 1 (tm 28) (tm 31)),om 6 32] [kp [1,2,3,6,16,17,18,
 22,23,24] [2,3,32,39,54]]))) (.reg [od 33 (.bin .add (tm 24) (ki 1)),om 24 33] [kp [1,2,3,6,16,17,18,22,23,24] [2,3,32,39,54]])))) [kp [1,2,3,6,16,17,18,22,23,24] [2,3,32,39,54]]
def Lh:IC:=.loop q10
abbrev q11:IC:=.gh (.seq (.reg [od 19 (.bin .lss (tm 18) (tm 17))] [kp [1,2,3,16,17,18,19] [2,3,39,54]]) (.seq (.cond (tm 19) .skip (.exit 0)) (.seq (.block 1 (.seq (.reg [od 20 (ia 1 16 18),od 21 (ld 1 20),om 5 21] [kp [1,2,3,5,
 16,17,18] [2,3,39,54]]) (.seq (.reg [od 6 (.mv kN)] [.nl 6 32 55 1,kp [1,2,3,5,6,16,17,18] [2,3,32,39,54]]) (.seq (.seq (.reg [om 22 5,od 23 (le 0 22),od 24 (.mv (ki 0))] [kp [1,2,3,6,16,17,18,22,23,24]
 [2,3,32,39,54]]) (.gh (.block 2 Lh) [.frz 32])) (.reg [od 34 (fa 1 3),od 35 (.ldR 3 1 false (tm 34)),om 36 6,od 37 (.callT 94 [(tm 36)]),od 38 (.bsl true 57 1 [(tm 37)]),od 39 (.app false 57 1 (tm 35) (tm
 38)),od 40 (fa 1 3),on (.stR 3 1 (tm 40) (tm 39))] [kp [1,2,3,16,17,18] [2,3,39,54]]))))) (.reg [od 41 (.bin .add (tm 18) (ki 1)),om 18 41] [kp [1,2,3,16,17,18] [2,3,39,54]])))) [kp [1,2,3,16,17,18] [2,3,
 39,54]]
def Lj:IC:=.loop q11
abbrev q12:IC:=.gh (.seq (.reg [od 46 (.bin .lss (tm 45) (tm 44))] [kp [2,3,43,44,45,46] [2,3,39,54]]) (.seq (.cond (tm 46) .skip (.exit 4)) (.seq (.block 5 (.seq (.reg [od 47 (ia 1 43 45),od 48 (ld 1 47),om 10 48] [kp [2,3,10,43,
 44,45] [2,3,39,54]]) (.reg [od 49 (fa 2 3),od 50 (.ldR 3 1 false (tm 49)),om 51 10,od 52 (.callT 108 [(tm 51)]),od 53 (.bsl true 55 1 [(tm 52)]),od 54 (.app false 55 1 (tm 50) (tm 53)),od 55 (fa 2 3),on (.stR 3 1 (tm 55)
 (tm 54))] [kp [2,3,43,44,45] [2,3,39,54]]))) (.reg [od 56 (.bin .add (tm 45) (ki 1)),om 45 56] [kp [2,3,43,44,45] [2,3,39,54]])))) [kp [2,3,43,44,45] [2,3,39,54]]
def Ll:IC:=.loop q12
abbrev q13:IC:=(.seq (.reg [od 1 (.box true (tm 0)),od 2 (.alloc false [(.slice none 0 0),(.slice none 0 0),(.slice none 0 0)])] [kp [1,2] [2,39,54]]) (.seq (.reg [od 11 (fa 0 1),od 12 (ld 1 11),od 13 (.call 108 [(tm 12)]),od 14 (.build
 [(1,(tm 13)),(1,kN),(1,kN)]),od 3 (.alloc false [(.slice none 0 0),(.slice none 0 0),(.slice none 0 0)]),on (.store 3 (tm 3) (tm 14))] [.nlb 3 1 39 57 1,.nlb 3 2 54 55 1,kp [1,2,3] [2,3,39,54]]) (.seq (.seq (.reg
 [od 15 (fa 1 1),od 16 (ld 1 15),od 17 (le 0 16),od 18 (.mv (ki 0))] [kp [1,2,3,16,17,18] [2,3,39,54]]) (.gh (.block 0 Lj) [.frz 39])) (.seq (.seq (.reg [od 42 (fa 2 1),od 43 (ld 1 42),od 44 (le 0 43),od
 45 (.mv (ki 0))] [kp [2,3,43,44,45] [2,3,39,54]]) (.gh (.block 4 Ll) [.frz 54])) (.seq (.reg [od 57 (fa 1 3),od 58 (.ldR 3 1 false (tm 57)),od 59 (.callT 93 [(tm 58)]),od 60 (fa 2 3),od 61 (.ldR 3 1 false
 (tm 60)),od 62 (.callT 94 [(tm 61)]),od 63 (fa 1 3),on (.stR 3 1 (tm 63) (tm 59)),od 64 (fa 2 3),on (.stR 3 1 (tm 64) (tm 62))] [kp [2,3] [2,3,39,54]]) (.seq (.reg [od 65 (lG 3 3),on (.store 3 (tm 2) (tm 65))] [kp [2] [2,
 39,54]]) .ret))))))
theorem Ul (h:∀ K:St→Prop,K=run P Γ Lh Q→run P Γ q10 (As K Q) s):run P Γ Lh Q s:=Ah h
theorem Um (h:∀ K:St→Prop,K=run P Γ Lj Q→run P Γ q11 (As K Q) s):run P Γ Lj Q s:=Ah h
theorem Un (h:∀ K:St→Prop,K=run P Γ Ll Q→run P Γ q12 (As K Q) s):run P Γ Ll Q s:=Ah h
def q14:List RV:=[.cell 2 3 true]
/- probecard/cycles.list (function 108) -/
abbrev q3C:IC:=(.seq (.reg [od 2 (.mv kN)] [kp [0] []]) (.seq (.reg [om 3 0,od 4 (.call 90 [(tm 3)]),od 5 (.call 89 [(tm 4)]),om 2 5] [kp [2] []]) .ret))
def q3D:List RV:=[.tmp 2]
/- probecard/cycles.check (function 67) -/
abbrev q22:IC:=(.seq (.reg [od 2 (.box true (tm 0)),od 4 (.mv (ki 0))] [kp [1,2] []]) (.seq (.reg [od 7 (lG 4 2),od 8 (lG 4 2),od 9 (.call 81 [(tm 8)]),od 10 (.call 135 [(tm 7),(tm 9)]),om 5 10] [kp [1,2,5] []]) (.seq (.reg [od 11 (lG 4
 2),od 12 (.call 18 [(tm 11)]),od 13 (le 0 12),om 6 13] [kp [1,2,5,6] []]) (.seq (.block 0 (.seq (.reg [om 15 5,od 16 (.bin .neq (tm 15) (ki 0)),om 14 16] [kp [1,2,5,6,14] []]) (.cond (tm 14) (.seq (.reg [om 17 5,om 4
 17] [kp [4] []]) .ret) (.seq (.reg [om 19 1,od 20 (.bin .lss (tm 19) (ki 1)),om 18 20] [kp [1,2,6,18] []]) (.cond (tm 18) (.seq (.reg [od 4 (.mv (ki 1))] [kp [4] []]) .ret) (.seq (.reg [om 22 1,od 23 (.bin .gtr (tm 22) (ki
 1024)),om 24 23,oF 25 (.mv (tm 1)) 24,oF 26 (fa 0 2) 24,oF 27 (ld 1 26) 24,oF 28 (le 0 27) 24,oF 29 (.bin .mul (tm 25) (tm 28)) 24,oF 30 (.mv (tm 6)) 24,oF 31 (.bin .add (tm 29) (tm 30)) 24,oF 32 (.bin .gtr (tm 31) (ki
 16384)) 24,od 33 (.pick (tm 24) kT (tm 32)),om 34 33,oF 35 (.mv (tm 1)) 34,oF 36 (fa 3 2) 34,oF 37 (ld 1 36) 34,oF 38 (le 0 37) 34,oF 39 (.mv (tm 6)) 34,oF 40 (.bin .add (tm 38) (tm 39)) 34,oF 41 (.bin .mul (tm 35) (tm
 40)) 34,oF 42 (.bin .gtr (tm 41) (ki 16384)) 34,od 43 (.pick (tm 34) kT (tm 42)),om 21 43] [kp [21] []]) (.cond (tm 21) (.seq (.reg [od 4 (.mv (ki 3))] [kp [4] []]) .ret) .skip))))))) (.seq (.reg [od 4 (.mv (ki 0))] [kp [4] []])
 .ret)))))
def q23:List RV:=[.tmp 4]
/- probecard/cycles.name (function 71) -/
abbrev q3E:IC:=(.seq (.reg [od 4 (.mv (.const (sV [])))] [kp [0,1] []]) (.seq (.reg [om 5 0,od 6 (.call 21 [(tm 5)]),od 7 (.bin .add (tm 6) (.const (sV [46]))),om 8 1,od 9 (.call 21 [(tm 8)]),od 10 (.bin .add (tm 7) (tm 9)),om 4 10] [kp
 [4] []]) .ret))
def q3F:List RV:=[.tmp 4]
/- probecard/cycles.Unroll (function 17) -/
abbrev q15:IC:=.gh (.seq (.reg [od 47 (.bin .lss (tm 46) (tm 45))] [kp [1,2,4,7,8,9,10,11,12,13,39,40,44,45,46,47] [4,9,38,89,141,96009,96014]]) (.seq (.cond (tm 47) .skip (.exit 2)) (.seq (.block 3 (.seq (.reg [om 48 46,od
 49 (ia 4 44 46),od 50 (lG 4 49),od 15 (.alloc false [(.int .u8 0),(.slice none 0 0),(.int .i64 0),(.int .i64 0)]),om 14 48,on (.store 4 (tm 15) (tm 50))] [kp [1,2,4,7,8,9,10,11,12,13,14,15,39,40,44,45,46] [4,
 9,15,38,89,141,96009,96014]]) (.seq (.reg [od 51 (fa 0 15),od 52 (.ldR 15 1 false (tm 51)),om 53 11,om 54 13,od 55 (fa 1 15),od 56 (.ldR 15 1 false (tm 55)),od 57 (.callv (tm 53) [(tm 54),(tm 56)]),od 58 (.build [(1,
 (tm 52)),(1,(tm 57)),(1,(ki 0)),(1,(ki 0))]),od 16 (.alloc false [(.int .u8 0),(.slice none 0 0),(.int .i64 0),(.int .i64 0)]),on (.stR 16 4 (tm 16) (tm 58))] [kp [1,2,4,7,8,9,10,11,12,13,14,15,16,39,40,
 44,45,46] [4,9,15,16,38,89,141,96009,96014]]) (.seq (.seq (.reg [od 59 (fa 0 15),od 60 (ld 1 59),od 61 (.bin .eql (tm 60) (ku 14)),om 62 61,oT 63 (.mv (tm 13)) 62,oT 64 (.bin .eql (tm 63) (ki 0)) 62,od 65 (.pick (tm
 62) (tm 64) kF)] [kp [1,2,4,7,8,9,10,11,12,13,14,15,16,39,40,44,45,46,65] [4,9,15,16,38,89,141,96009,96014]]) (.cond (tm 65) (.reg [od 66 (.build [(1,(ku 0)),(1,kN),(1,(ki 0)),(1,(ki 0))]),on
 (.store 4 (tm 16) (tm 66))] [kp [1,2,4,7,8,9,10,11,12,13,14,16,39,40,44,45,46] [4,9,16,38,89,141,96009,96014]]) (.seq (.reg [od 67 (fa 0 15),od 68 (ld 1 67),od 69 (.bin .eql (tm 68) (ku 14))] [kp [1,2,4,
 7,8,9,10,11,12,13,14,15,16,39,40,44,45,46,69] [4,9,15,16,38,89,141,96009,96014]]) (.cond (tm 69) (.reg [om 70 11,om 71 13,od 72 (.bin .sub (tm 71) (ki 1)),od 73 (fa 1 15),od 74 (ld 1 73),od 75 (.callv
 (tm 70) [(tm 72),(tm 74)]),od 76 (.build [(1,(ku 3)),(1,(tm 75)),(1,(ki 0)),(1,(ki 0))]),on (.store 4 (tm 16) (tm 76))] [kp [1,2,4,7,8,9,10,11,12,13,14,16,39,40,44,45,46] [4,9,16,38,89,141,96009,
 96014]]) .skip)))) (.seq (.reg [om 77 12,om 78 13,om 79 12,om 80 13,od 81 (ia 1 79 80),od 82 (.ldR 38 1 false (tm 81)),om 83 13,od 84 (.ldT 1 false (tm 7)),od 85 (.bin .mul (tm 83) (tm 84)),om 86 14,od 87 (.bin .add (tm
 85) (tm 86)),od 88 (.bsl true 3 1 [(tm 87)]),od 89 (.app false 3 1 (tm 82) (tm 88)),od 90 (ia 1 77 78),on (.stR 38 1 (tm 90) (tm 89))] [kp [1,2,4,7,8,9,10,11,12,13,14,16,39,40,44,45,46] [4,9,16,38,89,141,
 96009,96014]]) (.reg [om 91 10,od 92 (lG 4 16),om 93 13,om 94 14,od 95 (.callT 71 [(tm 93),(tm 94)]),od 96 (.hcallv (tm 91) [(tm 92),(tm 95)] [9,141,96009,96014] 196000)] [.ren 196009 96009,.ren 196014 96014,kp [1,2,
 4,7,8,9,10,11,12,13,39,40,44,45,46] [4,9,38,89,141,96009,96014]])))))) (.reg [od 97 (.bin .add (tm 46) (ki 1)),om 46 97] [kp [1,2,4,7,8,9,10,11,12,13,39,40,44,45,46] [4,9,38,89,141,96009,
 96014]])))) [kp [1,2,4,7,8,9,10,11,12,13,39,40,44,45,46] [4,9,38,89,141,96009,96014]]
def Lm:IC:=.loop q15
abbrev q16:IC:=.gh (.seq (.reg [od 41 (.bin .lss (tm 40) (tm 39))] [kp [1,2,4,7,8,9,10,11,12,39,40,41] [4,9,38,89,141,96009,96014]]) (.seq (.cond (tm 41) .skip (.exit 0)) (.seq (.block 1 (.seq (.reg [om 42 40,om 13 42] [.nlbS 38
 13 89 3 1,kp [1,2,4,7,8,9,10,11,12,13,39,40] [4,9,38,89,141,96009,96014]]) (.seq (.seq (.reg [od 43 (fa 0 2),od 44 (ld 1 43),od 45 (le 0 44),od 46 (.mv (ki 0))] [kp [1,2,4,7,8,9,10,11,12,13,39,40,
 44,45,46] [4,9,38,89,141,96009,96014]]) (.gh (.block 2 Lm) [.frz 89])) (.reg [om 98 12,om 99 13,om 100 12,om 101 13,od 102 (ia 1 100 101),od 103 (ld 1 102),od 104 (.call 70 [(tm 103)]),od 105 (ia 1 98
 99),on (.store 1 (tm 105) (tm 104))] [kp [1,2,4,7,8,9,10,11,12,39,40] [4,9,38,89,141,96009,96014]])))) (.reg [od 106 (.bin .add (tm 40) (ki 1)),om 40 106] [kp [1,2,4,7,8,9,10,11,12,39,40] [4,9,38,89,
 141,96009,96014]])))) [kp [1,2,4,7,8,9,10,11,12,39,40] [4,9,38,89,141,96009,96014]]
def Ln:IC:=.loop q16
abbrev q17:IC:=.gh (.seq (.reg [od 110 (.bin .lss (tm 109) (tm 108))] [kp [1,2,4,7,8,9,10,11,12,107,108,109,110] [4,9,38,89,141,96009,96014]]) (.seq (.cond (tm 110) .skip (.exit 4)) (.seq (.block 5 (.seq (.reg [od 111 (ia 1 107
 109),od 112 (ld 1 111),om 18 112] [kp [1,2,4,7,8,9,10,11,12,18,107,108,109] [4,9,38,89,141,96009,96014]]) (.reg [om 113 10,om 114 11,om 115 1,od 116 (.bin .sub (tm 115) (ki 1)),od 117 (fa 0 2),od 118 (ld 1
 117),om 119 18,od 120 (ia 4 118 119),od 121 (fa 1 120),od 122 (ld 1 121),od 123 (.callv (tm 114) [(tm 116),(tm 122)]),od 124 (.build [(1,(ku 3)),(1,(tm 123)),(1,(ki 0)),(1,(ki 0))]),om 125 1,om 126 18,od 127 (.call
 71 [(tm 125),(tm 126)]),od 128 (.hcallv (tm 113) [(tm 124),(tm 127)] [9,141,96009,96014] 228000)] [.ren 228009 96009,.ren 228014 96014,kp [1,2,4,7,8,9,10,11,12,107,108,109] [4,9,38,89,141,96009,96014]])))
 (.reg [od 129 (.bin .add (tm 109) (ki 1)),om 109 129] [kp [1,2,4,7,8,9,10,11,12,107,108,109] [4,9,38,89,141,96009,96014]])))) [kp [1,2,4,7,8,9,10,11,12,107,108,109] [4,9,38,89,141,96009,96014]]
def Lo:IC:=.loop q17
abbrev q18:IC:=.gh (.seq (.reg [od 146 (.bin .lss (tm 145) (tm 144))] [kp [1,2,4,7,8,9,11,12,19,130,131,143,144,145,146] [4,9,38,89,141,96009,96014]]) (.seq (.cond (tm 146) .skip (.exit 8)) (.seq (.block 9 (.seq (.reg [om 147
 145,od 148 (ia 1 143 145),od 149 (.ldT 1 false (tm 148)),om 20 147,om 21 149] [kp [1,2,4,7,8,9,11,12,19,20,21,130,131,143,144,145] [4,9,38,89,141,96009,96014]]) (.seq (.reg [om 150 19,od 151 (.bin .add (tm
 150) (ki 1)),od 152 (ld 1 7),od 153 (.bin .mul (tm 151) (tm 152)),om 154 21,od 155 (.bin .add (tm 153) (tm 154)),om 22 155] [kp [1,2,4,7,8,9,11,12,19,20,22,130,131,143,144,145] [4,9,38,89,141,96009,
 96014]]) (.seq (.seq (.reg [om 156 19,om 157 1,od 158 (.bin .sub (tm 157) (ki 1)),od 159 (.bin .eql (tm 156) (tm 158))] [kp [1,2,4,7,8,9,11,12,19,20,22,130,131,143,144,145,159] [4,9,38,89,141,96009,96014]])
 (.cond (tm 159) (.reg [om 160 1,od 161 (.ldT 1 false (tm 7)),od 162 (.bin .mul (tm 160) (tm 161)),om 163 20,od 164 (.bin .add (tm 162) (tm 163)),om 22 164] [kp [1,2,4,7,8,9,11,12,19,22,130,131,143,144,145] [4,9,
 38,89,141,96009,96014]]) .skip)) (.reg [od 165 (fa 3 9),od 166 (ld 1 165),om 167 22,od 168 (.bsl true 3 1 [(tm 167)]),oz 169 (.app false 3 1 (tm 166) (tm 168)) 141,od 170 (fa 3 9),on (.store 1 (tm 170) (tm 169))] [kp [1,
 2,4,7,8,9,11,12,19,130,131,143,144,145] [4,9,38,89,141,96009,96014]]))))) (.reg [od 171 (.bin .add (tm 145) (ki 1)),om 145 171] [kp [1,2,4,7,8,9,11,12,19,130,131,143,144,145] [4,9,38,89,141,
 96009,96014]])))) [kp [1,2,4,7,8,9,11,12,19,130,131,143,144,145] [4,9,38,89,141,96009,96014]]
def Lp:IC:=.loop q18
abbrev q19:IC:=.gh (.seq (.reg [od 132 (.bin .lss (tm 131) (tm 130))] [kp [1,2,4,7,8,9,11,12,130,131,132] [4,9,38,89,141,96009,96014]]) (.seq (.cond (tm 132) .skip (.exit 6)) (.seq (.block 7 (.seq (.reg [om 133 131,om 19 133] [kp
 [1,2,4,7,8,9,11,12,19,130,131] [4,9,38,89,141,96009,96014]]) (.seq (.reg [od 134 (fa 3 9),od 135 (.ldR 9 1 false (tm 134)),om 136 11,om 137 19,od 138 (fa 3 2),od 139 (.ldT 1 false (tm 138)),od 140 (.callv (tm
 136) [(tm 137),(tm 139)]),od 141 (.app false 3 1 (tm 135) (tm 140)),od 142 (fa 3 9),on (.stR 9 1 (tm 142) (tm 141))] [kp [1,2,4,7,8,9,11,12,19,130,131] [4,9,38,89,141,96009,96014]]) (.seq (.reg [om 143 8,od 144
 (le 0 143),od 145 (.mv (ki 0))] [kp [1,2,4,7,8,9,11,12,19,130,131,143,144,145] [4,9,38,89,141,96009,96014]]) (.block 8 Lp))))) (.reg [od 172 (.bin .add (tm 131) (ki 1)),om 131 172] [kp [1,2,4,
 7,8,9,11,12,130,131] [4,9,38,89,141,96009,96014]])))) [kp [1,2,4,7,8,9,11,12,130,131] [4,9,38,89,141,96009,96014]]
def Lq:IC:=.loop q19
abbrev q1A:IC:=(.seq (.reg [od 2 (.box true (tm 0)),od 4 (.alloc false [(.slice none 0 0),(.slice none 0 0),(.slice none 0 0),(.slice none 0 0),(.slice none 0 0)]),od 5 (.mv (ki 0))] [kp [1,2,4] [4,38,89,141,96009,96014]]) (.seq
 (.seq (.reg [od 23 (lG 4 2),om 24 1,od 25 (.call 67 [(tm 23),(tm 24)]),om 6 25] [kp [1,2,4,6] [4,38,89,141,96009,96014]]) (.seq (.reg [om 26 6,od 27 (.bin .neq (tm 26) (ki 0))] [kp [1,2,4,6,27] [4,38,89,141,
 96009,96014]]) (.cond (tm 27) (.seq (.reg [od 28 (.build [(4,(.const (.agg #[(.slice none 0 0),(.slice none 0 0),(.slice none 0 0),(.slice none 0 0)]))),(1,kN)]),om 29 6,on (.store 5 (tm 4) (tm 28)),om 5 29] [kp [4,5]
 [4,38,89,141,96009,96014]]) .ret) .skip))) (.seq (.reg [od 30 (fa 0 2),od 31 (.ldT 1 false (tm 30)),od 32 (le 0 31),od 33 (.ldT 4 true (tm 2)),od 34 (.callT 18 [(tm 33)]),od 7 (.alloc false [(.int .i64 0)]),on (.stR 7 1
 (tm 7) (tm 32)),om 8 34] [.frz 7,kp [1,2,4,7,8] [4,38,89,141,96009,96014]]) (.seq (.reg [od 9 (.alloc false [(.slice none 0 0),(.slice none 0 0),(.slice none 0 0),(.slice none 0 0)])] [.nlb 9 0 96009 45 4,.nlb 9 1
 96014 9 1,kp [1,2,4,7,8,9] [4,9,38,89,141,96009,96014]]) (.seq (.reg [od 35 (.mkf 68 [(tm 9)]),om 10 35] [kp [1,2,4,7,8,9,10] [4,9,38,89,141,96009,96014]]) (.seq (.reg [od 36 (.mkf 69 [(tm 7)]),om 11 36]
 [kp [1,2,4,7,8,9,10,11] [4,9,38,89,141,96009,96014]]) (.seq (.reg [om 37 1,od 38 (.mkB 31 [(.slice none 0 0)] (tm 37) (tm 37)),om 12 38] [kp [1,2,4,7,8,9,10,11,12] [4,9,38,89,141,96009,96014]]) (.seq
 (.seq (.reg [om 39 1,od 40 (.mv (ki 0))] [kp [1,2,4,7,8,9,10,11,12,39,40] [4,9,38,89,141,96009,96014]]) (.block 0 Ln)) (.seq (.seq (.reg [om 107 8,od 108 (le 0 107),od 109 (.mv (ki 0))] [kp [1,2,
 4,7,8,9,10,11,12,107,108,109] [4,9,38,89,141,96009,96014]]) (.block 4 Lo)) (.seq (.seq (.reg [om 130 1,od 131 (.mv (ki 0))] [.nlb 9 3 141 3 1,kp [1,2,4,7,8,9,11,12,130,131] [4,9,38,89,
 141,96009,96014]]) (.gh (.block 6 Lq) [.frz 96009,.frz 96014,.frz 141])) (.seq (.reg [od 173 (fa 0 9),od 174 (.ldR 9 1 false (tm 173)),od 175 (.callT 72 [(tm 174)]),od 176 (fa 1 9),od 177 (.ldR 9 1 false (tm
 176)),od 178 (.callT 73 [(tm 177)]),od 179 (fa 3 9),od 180 (.ldR 9 1 false (tm 179)),od 181 (.callT 70 [(tm 180)]),od 182 (fa 0 9),on (.stR 9 1 (tm 182) (tm 175)),od 183 (fa 1 9),on (.stR 9 1 (tm 183) (tm 178)),od 184 (fa
 3 9),on (.stR 9 1 (tm 184) (tm 181))] [kp [4,9,12] [4,9,38,89,141,96009,96014]]) (.seq (.reg [od 185 (lG 4 9),om 186 12,od 187 (.build [(4,(tm 185)),(1,(tm 186))]),on (.store 5 (tm 4) (tm 187)),od 5 (.mv (ki 0))]
 [kp [4,5] [4,38,89,141,96009,96014]]) .ret))))))))))))
theorem Uo (h:∀ K:St→Prop,K=run P Γ Lm Q→run P Γ q15 (As K Q) s):run P Γ Lm Q s:=Ah h
theorem Up (h:∀ K:St→Prop,K=run P Γ Ln Q→run P Γ q16 (As K Q) s):run P Γ Ln Q s:=Ah h
theorem Ur (h:∀ K:St→Prop,K=run P Γ Lo Q→run P Γ q17 (As K Q) s):run P Γ Lo Q s:=Ah h
theorem Us (h:∀ K:St→Prop,K=run P Γ Lp Q→run P Γ q18 (As K Q) s):run P Γ Lp Q s:=Ah h
theorem Ut (h:∀ K:St→Prop,K=run P Γ Lq Q→run P Γ q19 (As K Q) s):run P Γ Lq Q s:=Ah h
def q1B:List RV:=[.cell 4 5 true,.tmp 5]
/- probecard/cycles.Unroll$1 (function 68) -/
abbrev Ya:IC:=(.seq (.reg [od 3 (.box true (tm 0))] [kp [1,2,3] [9,14,1000000,1000001,1000002,1000003]]) (.reg [od 5 (fa 0 2),od 6 (.ldR 1000000 1 false (tm 5)),od 7 (.ldT 4 true (tm 3)),od 8 (.bsl true 45 4 [(tm 7)]),od 9 (.app false
 45 4 (tm 6) (tm 8)),od 10 (fa 1 2),od 11 (.ldR 1000000 1 false (tm 10)),om 12 1,od 13 (.bsl true 9 1 [(tm 12)]),od 14 (.app false 9 1 (tm 11) (tm 13)),od 15 (fa 0 2),on (.stR 1000000 1 (tm 15) (tm 9)),od 16 (fa 1 2),on
 (.stR 1000000 1 (tm 16) (tm 14))] [kp [] [9,14,1000000,1000001,1000002,1000003]]))
def Yb:List RV:=[]
/- probecard/cycles.Unroll$2 (function 69) -/
abbrev Yc:IC:=.gh (.seq (.reg [od 12 (.bin .lss (tm 11) (tm 10))] [kp [0,2,6,9,10,11,12] [22]]) (.seq (.cond (tm 12) .skip (.exit 0)) (.seq (.block 1 (.seq (.reg [od 13 (ia 1 9 11),od 14 (ld 1 13),om 8 14] [kp [0,2,6,8,9,10,11]
 [22]]) (.reg [om 15 6,om 16 0,od 17 (ld 1 2),od 18 (.bin .mul (tm 16) (tm 17)),om 19 8,od 20 (.bin .add (tm 18) (tm 19)),od 21 (.bsl true 3 1 [(tm 20)]),od 22 (.app false 3 1 (tm 15) (tm 21)),om 6 22] [kp [0,2,6,9,10,
 11] [22]]))) (.reg [od 23 (.bin .add (tm 11) (ki 1)),om 11 23] [kp [0,2,6,9,10,11] [22]])))) [kp [0,2,6,9,10,11] [22]]
def Im:IC:=.loop Yc
abbrev Yd:IC:=(.seq (.reg [od 5 (.mv kN)] [kp [0,1,2] []]) (.seq (.reg [od 6 (.mv kN)] [.nl 6 22 3 1,kp [0,1,2,6] [22]]) (.seq (.seq (.reg [om 9 1,od 10 (le 0 9),od 11 (.mv (ki 0))] [kp [0,2,6,9,10,11] [22]]) (.gh (.block 0
 Im) [.frz 22])) (.seq (.reg [om 24 6,od 25 (.call 70 [(tm 24)]),om 5 25] [kp [5] []]) .ret))))
theorem Qj (h:∀ K:St→Prop,K=run P Γ Im Q→run P Γ Yc (As K Q) s):run P Γ Im Q s:=Ah h
def Ye:List RV:=[.tmp 5]
/- probecard/cycles.Pattern (function 32) -/
abbrev q00:IC:=.gh (.seq (.reg [od 57 (.bin .lss (tm 56) (tm 55))] [kp [1,2,6,12,13,14,54,55,56,57] [6,72]]) (.seq (.cond (tm 57) .skip (.exit 1)) (.seq (.block 2 (.seq (.reg [od 58 (ia 4 54 56),od 59 (lG 4 58),od 16 (.alloc false
 [(.int .u8 0),(.slice none 0 0),(.int .i64 0),(.int .i64 0)]),on (.store 4 (tm 16) (tm 59))] [kp [1,2,6,12,13,14,16,54,55,56] [6,16,72]]) (.seq (.reg [od 60 (fa 0 16),od 61 (ld 1 60)] [kp [1,2,6,12,13,14,54,
 55,56,61] [6,72]]) (.block 3 (.seq (.reg [od 63 (.bin .eql (tm 61) (ku 0)),om 62 63] [kp [1,2,6,12,13,14,54,55,56,61,62] [6,72]]) (.cond (tm 62) (.seq (.reg [om 64 12,om 65 2,od 66 (.iadr 1 (tm 65) (ki 0)),od 67
 (ld 1 66),om 68 13,od 69 (ia 1 67 68),od 70 (ld 1 69),od 71 (.bsl true 71 1 [(tm 70)]),od 72 (.app false 71 1 (tm 64) (tm 71)),om 12 72] [kp [1,2,6,12,13,14,54,55,56] [6,72]]) (.reg [om 73 13,od 74 (.bin .add (tm
 73) (ki 1)),om 13 74] [kp [1,2,6,12,13,14,54,55,56] [6,72]])) (.seq (.reg [od 76 (.bin .eql (tm 61) (ku 14)),om 75 76] [kp [1,2,6,12,13,14,54,55,56,75] [6,72]]) (.cond (tm 75) (.seq (.reg [om 77 12,om 78 1,om
 79 14,od 80 (ia 1 78 79),od 81 (ld 1 80),od 82 (.bsl true 71 1 [(tm 81)]),oz 83 (.app false 71 1 (tm 77) (tm 82)) 72,om 12 83] [kp [1,2,6,12,13,14,54,55,56] [6,72]]) (.reg [om 84 14,od 85 (.bin .add (tm 84) (ki 1)),
 om 14 85] [kp [1,2,6,12,13,14,54,55,56] [6,72]])) .skip)))))))) (.reg [od 86 (.bin .add (tm 56) (ki 1)),om 56 86] [kp [1,2,6,12,13,14,54,55,56] [6,72]])))) [kp [1,2,6,12,13,14,54,55,56] [6,72]]
def Jz:IC:=.loop q00
abbrev q01:IC:=.gh (.seq (.reg [od 91 (.bin .lss (tm 90) (tm 89))] [kp [6,12,88,89,90,91] [6,72]]) (.seq (.cond (tm 91) .skip (.exit 4)) (.seq (.block 5 (.seq (.reg [od 92 (ia 1 88 90),od 93 (ld 1 92),om 18 93] [kp [6,12,18,88,89,90]
 [6,72]]) (.reg [om 94 12,om 95 18,oz 96 (.app false 71 1 (tm 94) (tm 95)) 72,om 12 96] [kp [6,12,88,89,90] [6,72]]))) (.reg [od 97 (.bin .add (tm 90) (ki 1)),om 90 97] [kp [6,12,88,89,90] [6,72]])))) [kp [6,12,88,
 89,90] [6,72]]
def K0:IC:=.loop q01
abbrev q02:IC:=(.seq (.reg [od 3 (.box true (tm 0)),od 6 (.alloc false [(.slice none 0 0),(.slice none 0 0)]),od 7 (.mv (ki 0))] [kp [1,2,3,6] [6]]) (.seq (.seq (.reg [od 19 (lG 4 3),om 20 2,od 21 (le 0 20),od 22 (.call 67 [(tm 19),(tm
 21)]),om 8 22] [kp [1,2,3,6,8] [6]]) (.seq (.reg [om 23 8,od 24 (.bin .neq (tm 23) (ki 0))] [kp [1,2,3,6,8,24] [6]]) (.cond (tm 24) (.seq (.reg [od 25 (.build [(1,kN),(1,kN)]),om 26 8,on (.store 2 (tm 6) (tm 25)),
 om 7 26] [kp [6,7] [6]]) .ret) .skip))) (.seq (.reg [od 27 (lG 4 3),od 28 (.call 56 [(tm 27)]),od 29 (le 0 28),od 9 (.alloc false [(.int .i64 0)]),on (.store 1 (tm 9) (tm 29))] [.frz 9,kp [1,2,3,6,9] [6]]) (.seq (.reg [od
 30 (.mkf 99 [(tm 9)]),om 10 30] [kp [1,2,3,6,10] [6]]) (.seq (.reg [od 11 (.mv (.func 100))] [kp [1,2,3,6,10,11] [6]]) (.seq (.block 0 (.seq (.reg [om 32 1,od 33 (le 0 32),od 34 (lG 4 3),od 35 (.call 18 [(tm 34)]),od
 36 (le 0 35),od 37 (.bin .neq (tm 33) (tm 36)),om 38 37,oF 39 (.mv (tm 2)) 38,oF 40 (.mv (tm 10)) 38,oF 41 (.call 103 [(tm 39),(tm 40)]) 38,od 42 (.pick (tm 38) kT (tm 41)),om 31 42] [kp [1,2,3,6,11,31] [6]]) (.cond
 (tm 31) (.seq (.reg [od 43 (.build [(1,kN),(1,kN)]),on (.store 2 (tm 6) (tm 43)),od 7 (.mv (ki 8))] [kp [6,7] [6]]) .ret) (.seq (.reg [om 45 2,om 46 11,od 47 (.call 103 [(tm 45),(tm 46)]),om 48 47,oF 49 (.mv (tm 1)) 48,
 oF 50 (.call 101 [(tm 49),(.func 104)]) 48,od 51 (.pick (tm 48) kT (tm 50)),om 44 51] [kp [1,2,3,6,44] [6]]) (.cond (tm 44) (.seq (.reg [od 52 (.build [(1,kN),(1,kN)]),on (.store 2 (tm 6) (tm 52)),od 7 (.mv (ki 1))] [kp
 [6,7] [6]]) .ret) .skip))))) (.seq (.reg [od 12 (.mv kN)] [.nl 12 72 71 1,kp [1,2,3,6,12] [6,72]]) (.seq (.reg [od 13 (.mv (ki 0)),od 14 (.mv (ki 0))] [kp [1,2,3,6,12,13,14] [6,72]]) (.seq (.seq (.reg [od 53 (fa 0
 3),od 54 (ld 1 53),od 55 (le 0 54),od 56 (.mv (ki 0))] [kp [1,2,6,12,13,14,54,55,56] [6,72]]) (.block 1 Jz)) (.seq (.seq (.reg [om 87 2,od 88 (.slice 1 (tm 87) (some (ki 1)) none none),od 89 (le 0 88),
 od 90 (.mv (ki 0))] [kp [6,12,88,89,90] [6,72]]) (.gh (.block 4 K0) [.frz 72])) (.seq (.reg [om 98 12,od 99 (.call 89 [(tm 98)]),od 100 (.build [(1,(tm 99)),(1,kN)]),on (.store 2 (tm 6) (tm 100)),od 7
 (.mv (ki 0))] [kp [6,7] [6]]) .ret)))))))))))
theorem Ro (h:∀ K:St→Prop,K=run P Γ Jz Q→run P Γ q00 (As K Q) s):run P Γ Jz Q s:=Ah h
theorem Rq (h:∀ K:St→Prop,K=run P Γ K0 Q→run P Γ q01 (As K Q) s):run P Γ K0 Q s:=Ah h
def q03:List RV:=[.cell 6 2 true,.tmp 7]
/- probecard/cycles.Pattern$1 (function 99) -/
abbrev W7:IC:=(.seq (.reg [od 3 (.mv kF)] [kp [0,1] []]) (.seq (.reg [om 4 0,od 5 (le 0 4),od 6 (ld 1 1),od 7 (.bin .neq (tm 5) (tm 6)),om 3 7] [kp [3] []]) .ret))
def W8:List RV:=[.tmp 3]
/- probecard/cycles.Pattern$2 (function 100) -/
abbrev W9:IC:=(.seq (.reg [od 2 (.mv kF)] [kp [0] []]) (.seq (.reg [om 3 0,od 4 (.call 101 [(tm 3),(.func 102)]),om 2 4] [kp [2] []]) .ret))
def Wa:List RV:=[.tmp 2]
/- probecard/cycles.Pattern$2$1 (function 102) -/
abbrev Rr:IC:=(.seq (.reg [od 2 (.mv kF)] [kp [0] []]) (.seq (.reg [om 3 0,od 4 (.bin .gtr (tm 3) (ku 3)),om 2 4] [kp [2] []]) .ret))
def Rt:List RV:=[.tmp 2]
/- probecard/cycles.Pattern$3 (function 104) -/
abbrev Wb:IC:=(.seq (.reg [od 2 (.mv kF)] [kp [0] []]) (.seq (.reg [om 3 0,od 4 (.bin .gtr (tm 3) (ku 2)),om 2 4] [kp [2] []]) .ret))
def Wc:List RV:=[.tmp 2]
/- probecard/cycles.Split (function 34) -/
abbrev q04:IC:=.gh (.seq (.reg [od 28 (.bin .lss (tm 27) (tm 26))] [kp [7,9,25,26,27,28] [7,41]]) (.seq (.cond (tm 28) .skip (.exit 0)) (.seq (.block 1 (.seq (.reg [om 29 27,od 30 (ia 1 25 27),od 31 (ld 1 30),om 10 29,om 11 31] [kp [7,
 9,10,11,25,26,27] [7,41]]) (.seq (.reg [od 32 (fa 0 7),od 33 (ld 1 32),om 34 10,od 35 (ia 1 33 34),od 36 (ld 1 35),od 37 (.call 31 [(tm 36)])] [kp [7,9,11,25,26,27,37] [7,41]]) (.cond (tm 37) (.reg [om 38 9,om 39
 11,od 40 (.bsl true 3 1 [(tm 39)]),od 41 (.app false 3 1 (tm 38) (tm 40)),om 9 41] [kp [7,9,25,26,27] [7,41]]) .skip)))) (.reg [od 42 (.bin .add (tm 27) (ki 1)),om 27 42] [kp [7,9,25,26,27] [7,41]])))) [kp [7,9,25,
 26,27] [7,41]]
def K1:IC:=.loop q04
abbrev q05:IC:=(.seq (.reg [od 2 (.box true (tm 0)),od 4 (.mv kN),od 5 (.mv (ki 0))] [kp [1,2] []]) (.seq (.reg [od 13 (.ldT 4 true (tm 2)),od 14 (.ldT 4 true (tm 2)),od 15 (.callT 29 [(tm 14)]),om 16 1,od 17 (.callT 24 [(tm 13),(tm 15),
 (tm 16)]),om 12 17,od 18 (ex 12 0),od 19 (ex 12 1),od 20 (ex 12 2),od 7 (.alloc false [(.slice none 0 0),(.slice none 0 0),(.slice none 0 0)]),om 6 18,on (.stR 7 3 (tm 7) (tm 19)),om 8 20] [kp [2,7,8] [7]]) (.seq (.seq
 (.reg [om 21 8,od 22 (.bin .neq (tm 21) (ki 0))] [kp [2,7,8,22] [7]]) (.cond (tm 22) (.seq (.reg [om 23 8,od 4 (.mv kN),om 5 23] [kp [4,5] []]) .ret) .skip)) (.seq (.reg [od 9 (.mv kN)] [.nl 9 41 3 1,kp [2,7,9] [7,41]])
 (.seq (.seq (.reg [od 24 (lG 4 2),od 25 (.call 18 [(tm 24)]),od 26 (le 0 25),od 27 (.mv (ki 0))] [kp [7,9,25,26,27] [7,41]]) (.gh (.block 0 K1) [.frz 41])) (.seq (.reg [om 43 9,od 44 (.call 70 [(tm 43)]),om
 4 44,od 5 (.mv (ki 0))] [kp [4,5] []]) .ret))))))
theorem Ru (h:∀ K:St→Prop,K=run P Γ K1 Q→run P Γ q04 (As K Q) s):run P Γ K1 Q s:=Ah h
def q06:List RV:=[.tmp 4,.tmp 5]
/- probecard/probecardlaw10.example (function 77) -/
abbrev q1C:IC:=(.seq (.reg [od 0 (.alloc false [(.slice none 0 0),(.slice none 0 0),(.slice none 0 0),(.slice none 0 0)])] [kp [0] [0,6]]) (.seq (.reg [od 1 (.build [(1,(ku 0)),(1,kN),(1,(ki 0)),(1,(ki 0))]),od 2 (.bsl true 3 1 [(ki
 2)]),od 3 (.build [(1,(ku 14)),(1,(tm 2)),(1,(ki 0)),(1,(ki 0))]),od 4 (.bsl true 3 1 [(ki 0),(ki 1)]),od 5 (.build [(1,(ku 9)),(1,(tm 4)),(1,(ki 0)),(1,(ki 0))]),od 6 (.bsl false 45 4 [(tm 1),(tm 3),(tm 5)]),
 od 7 (.bsl true 9 1 [(.const (sV [97])),(.const (sV [113])),(.const (sV [120]))]),od 8 (.bsl true 3 1 [(ki 2)]),od 9 (.build [(1,(tm 6)),(1,(tm 7)),(1,kN),(1,(tm 8))]),on (.store 4 (tm 0) (tm 9))] [kp [0] [0,6]])
 .ret))
def q1D:List RV:=[.cell 0 4 true]
/- probecard/probecardlaw10.lives (function 22) -/
abbrev Yf:IC:=(.reg [od 0 (.mv kF)] [kp [] []])
abbrev Yg:IC:=(.reg [od 21 (.ncall 77 [] 21000),od 1 (.alloc false [(.slice none 0 0),(.slice none 0 0),(.slice none 0 0),(.slice none 0 0)]),on (.store 4 (tm 1) (tm 21))] [kp [1] [1,21006]])
abbrev Yh:IC:=(.reg [od 22 (.bsl true 71 1 [(ku 1)]),od 23 (.bsl true 71 1 [(ku 0)]),om 2 22,om 3 23] [kp [1,2,3] [1,21006]])
abbrev q24:IC:=(.reg [od 161 (lG 4 1),om 162 3,od 163 (.bsl true 55 1 [(tm 162)]),od 164 (.call 28 [(tm 161),(tm 163)]),om 160 164,od 165 (ex 160 0),od 166 (ex 160 1),om 19 165,om 20 166] [kp [7,11,12,17,18,19,20] [7]])
abbrev q25:IC:=(.reg [om 167 11,od 168 (.bin .eql (tm 167) (.const (sV [49,48,48]))),om 169 168,oT 170 (.mv (tm 12)) 169,oT 171 (.bin .eql (tm 170) (.const (sV [49,48,48]))) 169,od 172 (.pick (tm 169) (tm 171) kF),om 173 172,oT 174 (fa
 0 7) 173,oT 175 (fa 3 174) 173,oT 176 (ld 1 175) 173,oT 177 (.bsl true 3 1 [(ki 2),(ki 4),(ki 5),(ki 6)]) 173,oT 178 (.call 20 [(tm 176),(tm 177)]) 173,oT 179 (.bin .eql (tm 178) (ki 0)) 173,od 180 (.pick (tm 173) (tm
 179) kF),om 181 180,oT 182 (.mv (tm 18)) 181,oT 183 (.bin .eql (tm 182) (ki 0)) 181,od 184 (.pick (tm 181) (tm 183) kF),om 185 184,oT 186 (.mv (tm 20)) 185,oT 187 (.bin .eql (tm 186) (ki 0)) 185,od 188 (.pick (tm 185) (tm
 187) kF),om 189 188,oT 190 (.mv (tm 17)) 189,oT 191 (le 0 190) 189,oT 192 (.bin .eql (tm 191) (ki 0)) 189,od 193 (.pick (tm 189) (tm 192) kF),om 194 193,oT 195 (.mv (tm 19)) 194,oT 196 (.bsl true 3 1 [(ki 1)]) 194,oT 197
 (.call 20 [(tm 195),(tm 196)]) 194,oT 198 (.bin .eql (tm 197) (ki 0)) 194,od 199 (.pick (tm 194) (tm 198) kF),om 0 199] [kp [0] []])
def Yi:List RV:=[.tmp 0]
/- probecard/probecardlaw10.lives (function 22) -/
abbrev q26:IC:=.gh (.seq (.seq (.reg [om 97 13,od 98 (.bin .lss (tm 97) (ki 3))] [kp [1,2,3,4,7,11,12,13,98] [1,7,21006,1000000]]) (.cond (tm 98) .skip (.exit 0))) (.seq (.block 1 (.seq (.reg [om 101 11,om 102 4,om 103 13,od 104
 (ia 2 102 103),od 105 (fa 0 104),od 106 (ld 1 105),od 107 (.call 78 [(tm 106)]),od 108 (.bin .add (tm 101) (tm 107)),om 11 108] [kp [1,2,3,4,7,11,12,13] [1,7,21006,1000000]]) (.reg [om 109 12,om 110 4,om 111 13,od
 112 (ia 2 110 111),od 113 (fa 1 112),od 114 (ld 1 113),od 115 (.call 78 [(tm 114)]),od 116 (.bin .add (tm 109) (tm 115)),om 12 116] [kp [1,2,3,4,7,11,12,13] [1,7,21006,1000000]]))) (.reg [om 99 13,od 100 (.bin .add
 (tm 99) (ki 1)),om 13 100] [kp [1,2,3,4,7,11,12,13] [1,7,21006,1000000]]))) [kp [1,2,3,4,7,11,12,13] [1,7,21006,1000000]]
def Vk:IC:=.loop q26
abbrev q27:IC:=.gh (.seq (.seq (.reg [om 119 16,od 120 (.bin .lss (tm 119) (ki 7))] [kp [1,2,3,7,11,12,14,15,16,120] [1,7,21006,1000000]]) (.cond (tm 120) .skip (.exit 2))) (.seq (.block 3 (.seq (.reg [od 123 (fa 0 7),od 124 (fa 0
 123),od 125 (ld 1 124),om 126 16,od 127 (ia 4 125 126),od 128 (fa 0 127),od 129 (ld 1 128),om 130 14,om 131 16,od 132 (ia 1 130 131),od 133 (ld 1 132),od 134 (.bin .neq (tm 129) (tm 133)),om 135 134,oF 136 (fa 0 7) 135,
 oF 137 (fa 1 136) 135,oF 138 (ld 1 137) 135,oF 139 (.mv (tm 16)) 135,oF 140 (ia 1 138 139) 135,oF 141 (ld 1 140) 135,oF 142 (.mv (tm 15)) 135,oF 143 (.mv (tm 16)) 135,oF 144 (ia 1 142 143) 135,oF 145 (ld 1 144) 135,oF 146
 (.bin .neq (tm 141) (tm 145)) 135,od 147 (.pick (tm 135) kT (tm 146))] [kp [1,2,3,7,11,12,14,15,16,147] [1,7,21006,1000000]]) (.cond (tm 147) (.seq (.reg [od 0 (.mv kF)] [kp [0] [21006,1000000]]) .ret) .skip))) (.reg
 [om 121 16,od 122 (.bin .add (tm 121) (ki 1)),om 16 122] [kp [1,2,3,7,11,12,14,15,16] [1,7,21006,1000000]]))) [kp [1,2,3,7,11,12,14,15,16] [1,7,21006,1000000]]
def Vl:IC:=.loop q27
abbrev q28:IC:=(.reg [od 25 (lG 4 1),om 26 3,od 27 (.build [(1,(tm 26)),(1,kN),(1,kN)]),om 28 2,om 29 2,om 30 3,od 31 (.bsl true 55 1 [(tm 28),(tm 29),(tm 30)]),od 32 (.call 24 [(tm 25),(tm 27),(tm 31)]),om 24 32,od 33 (ex 24
 0),od 34 (ex 24 1),od 35 (ex 24 2),od 5 (.alloc false [(.slice none 0 0),(.slice none 0 0),(.slice none 0 0)]),om 4 33,on (.store 3 (tm 5) (tm 34)),om 6 35] [kp [1,2,3,4,5,6] [1,5,21006,1000000]])
abbrev q29:IC:=(.reg [od 37 (lG 4 1),od 38 (.call 17 [(tm 37),(ki 2)]),om 36 38,od 39 (ex 36 0),od 40 (ex 36 1),od 7 (.alloc false [(.slice none 0 0),(.slice none 0 0),(.slice none 0 0),(.slice none 0 0),(.slice none 0 0)]),on (.store
 5 (tm 7) (tm 39)),om 8 40] [kp [1,2,3,4,5,6,7,8] [1,5,7,21006,1000000]])
abbrev q2A:IC:=(.reg [od 42 (lG 4 1),om 43 3,om 44 2,om 45 2,od 46 (.bsl true 55 1 [(tm 44),(tm 45)]),od 47 (.call 32 [(tm 42),(tm 43),(tm 46)]),om 41 47,od 48 (ex 41 0),od 49 (ex 41 1),od 9 (.alloc false [(.slice none 0 0),(.slice
 none 0 0)]),on (.store 2 (tm 9) (tm 48)),om 10 49] [kp [1,2,3,4,5,6,7,8,9,10] [1,5,7,9,21006,1000000]])
abbrev q2B:IC:=(.seq (.reg [om 50 6,od 51 (.bin .neq (tm 50) (ki 0)),om 52 51,oF 53 (.mv (tm 8)) 52,oF 54 (.bin .neq (tm 53) (ki 0)) 52,od 55 (.pick (tm 52) kT (tm 54)),om 56 55,oF 57 (.mv (tm 10)) 56,oF 58 (.bin .neq (tm 57) (ki 0)) 56,
 od 59 (.pick (tm 56) kT (tm 58)),om 60 59,oF 61 (.mv (tm 4)) 60,oF 62 (le 0 61) 60,oF 63 (.bin .neq (tm 62) (ki 3)) 60,od 64 (.pick (tm 60) kT (tm 63)),om 65 64,oF 66 (fa 0 5) 65,oF 67 (ld 1 66) 65,oF 68 (.call 78 [(tm
 67)]) 65,oF 69 (.bin .neq (tm 68) (.const (sV [48]))) 65,od 70 (.pick (tm 65) kT (tm 69)),om 71 70,oF 72 (fa 0 9) 71,oF 73 (ld 1 72) 71,oF 74 (.call 78 [(tm 73)]) 71,oF 75 (.bin .neq (tm 74) (.const (sV [49,48,49]))) 71,
 od 76 (.pick (tm 71) kT (tm 75)),om 77 76,oF 78 (fa 1 9) 77,oF 79 (ld 1 78) 77,oF 80 (le 0 79) 77,oF 81 (.bin .neq (tm 80) (ki 0)) 77,od 82 (.pick (tm 77) kT (tm 81)),om 83 82,oF 84 (fa 0 7) 83,oF 85 (fa 0 84) 83,oF 86
 (ld 1 85) 83,oF 87 (le 0 86) 83,oF 88 (.bin .neq (tm 87) (ki 7)) 83,od 89 (.pick (tm 83) kT (tm 88)),om 90 89,oF 91 (fa 0 7) 90,oF 92 (fa 1 91) 90,oF 93 (ld 1 92) 90,oF 94 (le 0 93) 90,oF 95 (.bin .neq (tm 94) (ki 7)) 90,
 od 96 (.pick (tm 90) kT (tm 95))] [kp [1,2,3,4,7,96] [1,7,21006,1000000]]) (.cond (tm 96) (.seq (.reg [od 0 (.mv kF)] [kp [0] [21006,1000000]]) .ret) .skip))
abbrev q2C:IC:=(.reg [od 11 (.mv (.const (sV []))),od 12 (.mv (.const (sV [])))] [kp [1,2,3,4,7,11,12] [1,7,21006,1000000]])
abbrev q2D:IC:=(.seq (.reg [od 13 (.mv (ki 0))] [kp [1,2,3,4,7,11,12,13] [1,7,21006,1000000]]) (.block 0 Vk))
abbrev q2E:IC:=(.reg [od 117 (.bsl true 43 1 [(ku 0),(ku 0),(ku 9),(ku 0),(ku 3),(ku 9),(ku 3)]),om 14 117] [kp [1,2,3,7,11,12,14] [1,7,21006,1000000]])
abbrev q1E:IC:=(.reg [od 118 (.bsl true 9 1 [(.const (sV [48,46,48])),(.const (sV [48,46,49])),(.const (sV [48,46,50])),(.const (sV [49,46,48])),(.const (sV [49,46,49])),(.const (sV [49,46,50])),(.const (sV [50,46,49]))]),om
 15 118] [kp [1,2,3,7,11,12,14,15] [1,7,21006,1000000]])
abbrev q1F:IC:=(.seq (.reg [od 16 (.mv (ki 0))] [kp [1,2,3,7,11,12,14,15,16] [1,7,21006,1000000]]) (.block 2 Vl))
abbrev q1G:IC:=(.reg [od 149 (lG 4 1),om 150 2,om 151 2,od 152 (.bsl true 55 1 [(tm 150),(tm 151)]),od 153 (.call 28 [(tm 149),(tm 152)]),om 148 153,od 154 (ex 148 0),od 155 (ex 148 1),om 17 154,om 18 155] [kp [1,3,7,11,12,17,18]
 [1,7,21006,1000000]])
theorem Hm (h:∀ K:St→Prop,K=run P Γ Vk Q→run P Γ q26 (As K Q) s):run P Γ Vk Q s:=Ah h
theorem Cc (h:∀ K:St→Prop,K=run P Γ Vl Q→run P Γ q27 (As K Q) s):run P Γ Vl Q s:=Ah h
abbrev q4S:IC:=.gh (.seq (.seq (.reg [om 18 5,om 19 0,od 20 (le 0 19),od 21 (.bin .lss (tm 18) (tm 20))] [kp [0,1,5,21] []]) (.cond (tm 21) .skip (.exit 0))) (.seq (.block 1 (.seq (.reg [om 24 0,om 25 5,od 26 (ia 1 24 25),od 27 (ld 1
 26),om 28 1,om 29 5,od 30 (ia 1 28 29),od 31 (ld 1 30),od 32 (.bin .neq (tm 27) (tm 31))] [kp [0,1,5,32] []]) (.cond (tm 32) (.seq (.reg [od 4 (.mv (ki 1))] [kp [4] []]) .ret) .skip))) (.reg [om 22 5,od 23 (.bin .add (tm
 22) (ki 1)),om 5 23] [kp [0,1,5] []]))) [kp [0,1,5] []]
def Tz:IC:=.loop q4S
abbrev q4T:IC:=(.seq (.reg [od 4 (.mv (ki 0))] [kp [0,1] []]) (.seq (.seq (.reg [om 6 0,od 7 (le 0 6),om 8 1,od 9 (le 0 8),od 10 (.bin .neq (tm 7) (tm 9)),om 11 10,oF 12 (.mv (tm 0)) 11,oF 13 (.cap (tm 12)) 11,oF 14 (.mv (tm 0)) 11,oF
 15 (le 0 14) 11,oF 16 (.bin .gtr (tm 13) (tm 15)) 11,od 17 (.pick (tm 11) kT (tm 16))] [kp [0,1,17] []]) (.cond (tm 17) (.seq (.reg [od 4 (.mv (ki 1))] [kp [4] []]) .ret) .skip)) (.seq (.seq (.reg [od 5 (.mv (ki 0))] [kp [0,1,
 5] []]) (.block 0 Tz)) (.seq (.reg [od 4 (.mv (ki 0))] [kp [4] []]) .ret))))
theorem q07 (h:∀ K:St→Prop,K=run P Γ Tz Q→run P Γ q4S (As K Q) s):run P Γ Tz Q s:=Ah h
def q4U:List RV:=[.tmp 4]
end
end Go.Lg
namespace Go.Lg
open Go Go.Proofs
theorem q9G:Aw Tryz.prog 24 q4Q 68 3 q4R=true:=by kernel_rfl
theorem q6C:Aw Tryz.prog 83 q13 66 1 q14=true:=by kernel_rfl
theorem q7s:Aw Tryz.prog 108 q3C 6 1 q3D=true:=by kernel_rfl
theorem q75:Aw Tryz.prog 67 q22 44 2 q23=true:=by kernel_rfl
theorem q7t:Aw Tryz.prog 71 q3E 11 2 q3F=true:=by kernel_rfl
theorem q6D:Aw Tryz.prog 17 q1A 188 2 q1B=true:=by kernel_rfl
theorem q3u:Aw Tryz.prog 68 Ya 17 3 Yb=true:=by kernel_rfl
theorem q3v:Aw Tryz.prog 69 Yd 26 3 Ye=true:=by kernel_rfl
theorem q5I:Aw Tryz.prog 32 q02 101 3 q03=true:=by kernel_rfl
theorem q3G:Aw Tryz.prog 99 W7 8 2 W8=true:=by kernel_rfl
theorem q3H:Aw Tryz.prog 100 W9 5 1 Wa=true:=by kernel_rfl
theorem q1n:Aw Tryz.prog 102 Rr 5 1 Rt=true:=by kernel_rfl
theorem q3I:Aw Tryz.prog 104 Wb 5 1 Wc=true:=by kernel_rfl
theorem q5J:Aw Tryz.prog 28 q05 45 2 q06=true:=by kernel_rfl
theorem q6E:Aw Tryz.prog 77 q1C 10 0 q1D=true:=by kernel_rfl
theorem q9H:Aw Tryz.prog 20 q4T 33 2 q4U=true:=by kernel_rfl
end Go.Lg
namespace Go.Lg
open Go Go.Proofs
variable {Γ:Tables}
theorem J2.small {c:B7} {s:K3} (h:MOk c) (H:J2 c s):qMO s:=by
 have hsl:=C5 c
 have hn:=h.n
 have hcm:=h.cm
 have hw:=H.words h
 have hr:=H.reads h
 have h1:=H.d
 have h2:=H.w
 have h3:=H.r
 exact ⟨by omega,⟨by omega,fun x hx=>by have:=hr x hx; omega⟩,⟨by omega,fun x hx=>⟨by have:=(hw x hx).1; omega,fun y hy=>by have:=(hw x hx).2.2 y hy; omega⟩⟩⟩
theorem qKb.refl (s:K3):qKb (·=·) s s:=⟨⟨rfl,fun _ _=>rfl⟩,rfl,fun _ _=>⟨rfl,fun _ _=>rfl⟩,rfl,fun _ _=>⟨rfl,fun _ _=>⟨rfl,fun _ _=>rfl⟩⟩⟩
theorem Eh {f:FuncId} {as':List AV} {ts:List T} {res:T} {K:T→Prop} (h:Ae Tryz.prog Γ f ts res) (ht:Ai (as'.map toT)=some ts) (hk:K res):qAv Tryz.prog Γ f as' K ⟨⟩:=⟨ts,res,ht,.inl h,hk⟩
theorem qId (n:Nat) (h0:0<n) (hn:n≤1000000000):F9 Tryz.prog Γ 142 [] [.t (.sl [] (some 0) (some true)),.t (tI n)] (.ls 22 0 0 none) [(22,.sl 55 1 (List.replicate n [.sl [] (some 0) (some true)]))]:=by
 refine Ht Y5 rfl ?_
 have h1:(0:Int)<n:=by omega
 have h2:¬ (n:Int)<0:=by omega
 have h3:(n:Int)≤2147483648:=by omega
 simp (disch:=omega) [M3,M4,h1,h2,h3,h0,A5]
theorem q9I {Q:AX→St→Prop} (ss:List (Sl (Sl Int))) (cap:Option Nat) (nl:Option Bool) (hs:ss.length≤1000) (hl:∀ s ∈ ss,s.l.length≤1000000) (N:Nat)
  (h0:Q (.exit 0) ⟨[(0,.t (.sl (Af tW ss) cap nl)),(3,.t (tI N)),(9,.t (.sl (Af tW ss) cap nl)),(10,.t (tI ss.length)),(11,.t (tI ss.length)),(12,.t (tB false))],[]⟩) :
  ∀ (k i m:Nat),k+i=ss.length→m≤i*1000000→m+((ss.drop i).flatMap (·.l)).length=N →
  run Tryz.prog Γ Dy Q ⟨[(0,.t (.sl (Af tW ss) cap nl)),(3,.t (tI m)),(9,.t (.sl (Af tW ss) cap nl)),(10,.t (tI ss.length)),(11,.t (tI i))],[]⟩
 | 0,i,m,h,hm,hN=>by
  refine Hg fun K hK=>?_
  have h3:i=ss.length:=by omega
  subst h3
  rw [List.drop_of_length_le (Nat.le_refl _)] at hN
  simp at hN
  subst hN
  simp
  exact h0
 | k+1,i,m,h,hm,hN=>by
  refine Hg fun K hK=>?_
  have h2:i<ss.length:=by omega
  rw [List.drop_eq_getElem_cons h2] at hN
  have e:=Bw (f:=tW) ⟨[],none,none⟩ h2
  have e2:ss[i]?.getD ⟨[],none,none⟩=ss[i]:=by simp [h2]
  rw [e2] at e
  have hsl:=hl _ (List.getElem_mem h2)
  generalize ss[i]=s at *
  simp at hN
  have ih:=q9I ss cap nl hs hl N h0 k (i+1) (m+s.l.length) (by omega) (by omega) (by simp; omega)
  have e':∀ h:i<(Af tW ss).length,(Af tW ss)[i]=[tW s]:=fun h=>by rw [← e]; simp [h]
  have w1':IntKind.i64.wrap ((m:Int)+(s.l.length:Int))=(m:Int)+(s.l.length:Int):=by rw [A5] <;> omega
  have w2:¬ ((m:Int)+(s.l.length:Int))<0:=by omega
  simp only [tW] at e e'
  simp [h2,A0,A8,e,e',w1',w2]
  rw [A5 (by omega) (by omega),hK]
  simpa [tW] using ih
theorem q9J {Q:AX→St→Prop} (ss:List (Sl (Sl Int))) (cap:Option Nat) (nl:Option Bool) (hs:ss.length≤1000) (hl:∀ s ∈ ss,s.l.length≤1000000) (R:List (Sl Int))
  (h0:∀ E:List (List T),E.take R.length=Af tV R→Q (.exit 2) ⟨[(6,.ls 24022 0 R.length none),(25,.t (.sl (Af tW ss) cap nl)),(26,.t (tI ss.length)),(27,.t (tI ss.length)),(28,.t (tB false))],[(24022,.sl 55 1 E)]⟩) :
  ∀ (k i:Nat) (acc:List (Sl Int)) (E:List (List T)),k+i=ss.length→acc.length≤i*1000000→E.take acc.length=Af tV acc→acc++(ss.drop i).flatMap (·.l)=R →
  run Tryz.prog Γ Dz Q ⟨[(6,.ls 24022 0 acc.length none),(25,.t (.sl (Af tW ss) cap nl)),(26,.t (tI ss.length)),(27,.t (tI i))],[(24022,.sl 55 1 E)]⟩
 | 0,i,acc,E,h,hm,hE,hR=>by
  refine Hh fun K hK=>?_
  have h3:i=ss.length:=by omega
  subst h3
  rw [List.drop_of_length_le (Nat.le_refl _)] at hR
  simp at hR
  subst hR
  simp
  exact h0 E hE
 | k+1,i,acc,E,h,hm,hE,hR=>by
  refine Hh fun K hK=>?_
  have h2:i<ss.length:=by omega
  rw [List.drop_eq_getElem_cons h2] at hR
  have e:=Bw (f:=tW) ⟨[],none,none⟩ h2
  have e2:ss[i]?.getD ⟨[],none,none⟩=ss[i]:=by simp [h2]
  rw [e2] at e
  have hsl:=hl _ (List.getElem_mem h2)
  generalize ss[i]=s at *
  have q:Af tV acc++Af tV s.l=Af tV (acc++s.l):=q5e
  have ih:=q9J ss cap nl hs hl R h0 k (i+1) (acc++s.l) (Af tV (acc++s.l)) (by omega) (by simp; omega) An (by rw [← hR]; simp)
  have e':∀ h:i<(Af tW ss).length,(Af tW ss)[i]=[tW s]:=fun h=>by rw [← e]; simp [h]
  simp only [tW] at e e'
  have hm:min acc.length E.length=acc.length:=by have:=congrArg List.length hE; simpa [A0] using this
  simp [h2,A0,A8,e,e',hE,q,hm]
  refine ⟨by omega,?_⟩
  rw [A5 (by omega) (by omega),hK]
  simpa [tW] using ih
theorem qBD (ss:List (Sl (Sl Int))) (cap:Option Nat) (nl:Option Bool) (hs:ss.length≤1000) (hl:∀ s ∈ ss,s.l.length≤1000000) (h0:0<(ss.flatMap (·.l)).length) :
  Ae Tryz.prog Γ 80 [.sl (Af tW ss) cap nl] (.sl (Af tV (ss.flatMap (·.l))) none none):=by
 refine B1 Vg rfl ?_
 have hb:∀ l:List (Sl (Sl Int)),(∀ s ∈ l,s.l.length≤1000000)→(l.flatMap (·.l)).length≤l.length*1000000:=by
  intro l
  induction l with
  | nil=>intro _; simp
  | cons s l ih =>
   intro h
   have h1:=h s List.mem_cons_self
   have h2:=ih fun x hx=>h x (List.mem_cons_of_mem _ hx)
   simp at h2 ⊢
   omega
 have hb:=hb ss hl
 have g1:=fun Q h0=>q9I (Γ:=Γ) (Q:=Q) ss cap nl hs hl (ss.flatMap (·.l)).length h0 ss.length 0 0 (by omega) (by omega) (by simp)
 have g2:=qId (Γ:=Γ) (ss.flatMap (·.l)).length h0 (by omega)
 have g3:=fun Q h0 E hE=>q9J (Γ:=Γ) (Q:=Q) ss cap nl hs hl (ss.flatMap (·.l)) h0 ss.length 0 [] E (by omega) (by simp) hE (by simp)
 generalize ss.flatMap (·.l)=R at *
 simp [Jv,A0]
 refine g1 _ ?_
 simp
 refine ⟨_,_,g2,?_⟩
 simp [A0]
 refine g3 _ (fun E hE=>?_) _ (by simp [Af])
 simp [Jw,Aj,hE]
def NlS {α:Type} (s:Sl α):Prop:=s.nl=some true→s.l=[]
def Pm (s:Sl Int):Sl Int:=if s.nl=some true then ⟨[],some 0,some true⟩ else ⟨s.l,some s.l.length,none⟩
theorem qDs {s:Sl Int} (h:NlS s):(Pm s).l=s.l:=by
 unfold Pm
 split
 ·rename_i e; exact (h e).symm
 ·rfl
theorem q3J (s:Sl Int) (h1:NlS s) (h2:s.l.length≤1000000):Ae Tryz.prog Γ 108 [tV s] (tV (Pm s)):=by
 refine B1 q7s rfl ?_
 have e1:=qAU (Γ:=Γ) s h1 h2
 have e2:=q8z (Γ:=Γ) (Az (Vi s).l) (Vi s).cap (Vi s).nl A8
 rw [A0] at e2
 have e3:T.sl (Az (Vi s).l) (some (Vi s).l.length) (Vi s).nl=tV (Pm s):=by
  unfold Vi Pm tV
  split <;> rfl
 rw [e3] at e2
 generalize Vi s=d at *
 generalize Pm s=r at *
 simp [tV] at e1 e2
 simp [q3C,tV]
 refine Ad e1 rfl ?_
 simp
 refine Ad e2 rfl ?_
 simp [q3D]
def q7u (w:Sl (Sl Int)):Sl (Sl Int):=⟨w.l.map Pm,some w.l.length,none⟩
def Ta (s:K3):K3:=⟨Pm s.dff,⟨s.words.l.map q7u,some s.words.l.length,none⟩,⟨s.read.l.map Pm,some s.read.l.length,none⟩⟩
structure qHP (s:K3):Prop where
 d:NlS s.dff
 w:∀ w ∈ s.words.l,∀ r ∈ w.l,NlS r
 r:∀ r ∈ s.read.l,NlS r
theorem qHQ {s:K3} (h:qHP s):Y9 (Ta s) s:=by
 refine ⟨qDs h.d,?_,?_⟩
 ·unfold K3.ws Ta
  simp only [List.map_map]
  refine List.map_congr_left fun w hw=>?_
  simp only [Function.comp,q7u,List.map_map]
  exact List.map_congr_left fun r hr=>qDs (h.w w hw r hr)
 ·unfold K3.rd Ta
  simp only [List.map_map]
  exact List.map_congr_left fun r hr=>qDs (h.r r hr)
def q6F (s2:T) (d:T) (ws:List (Sl (Sl Int))) (rs:List (Sl Int)):List (Nat × Bc):=[(2,.bx [.t (.sl [] (some 0) (some true)),.t (.sl [] (some 0) (some true)),.t (.sl [] (some 0) (some true))]),(3,.bx [.t d,.ls 39 0 ws.length none,.ls 54 0 rs.length none])]
theorem qHR {Q:AX→St→Prop} (s:K3) (i:Nat) (w:Sl (Sl Int)) (hw:w.l.length≤1000000) (hn:∀ r ∈ w.l,NlS r∧r.l.length≤1000000) (d:T) (ws:List (Sl (Sl Int))) (R:List (Sl Int))
  (h0:Q (.exit 2) ⟨[(1,.t (.ip (Bg s) 0)),(2,.lp 2 0 0),(3,.lp 3 0 0),(6,.ls 32 0 w.l.length none),(16,.t (N7 s.words)),(17,.t (tI s.words.l.length)),(18,.t (tI i)),(22,.t (tW w)),(23,.t (tI w.l.length)),(24,.t (tI w.l.length)),(25,.t (tB false))],q6F d d ws []++[(32,.sl 55 1 (Af tV R)),(39,.sl 57 1 (Af tW ws)),(54,.sl 55 1 [])]⟩) :
  ∀ (k j:Nat) (out:List (Sl Int)),k+j=w.l.length→out.length=j→out++(w.l.drop j).map Pm=R →
  run Tryz.prog Γ Lh Q ⟨[(1,.t (.ip (Bg s) 0)),(2,.lp 2 0 0),(3,.lp 3 0 0),(6,.ls 32 0 j none),(16,.t (N7 s.words)),(17,.t (tI s.words.l.length)),(18,.t (tI i)),(22,.t (tW w)),(23,.t (tI w.l.length)),(24,.t (tI j))],q6F d d ws []++[(32,.sl 55 1 (Af tV out)),(39,.sl 57 1 (Af tW ws)),(54,.sl 55 1 [])]⟩
 | 0,j,out,h,ho,hR=>by
  refine Ul fun K hK=>?_
  have h2:j=w.l.length:=by omega
  subst h2
  rw [List.drop_length] at hR
  simp only [List.map_nil,List.append_nil] at hR
  subst hR
  simp [q6F,Bg,N7,tW] at h0
  simp [q6F,Bg,N7,tW]
  simpa using h0
 | k+1,j,out,h,ho,hR=>by
  refine Ul fun K hK=>?_
  have h2:j<w.l.length:=by omega
  rw [List.drop_eq_getElem_cons h2] at hR
  simp only [List.map_cons] at hR
  have e2:=gE (f:=tV) Sl.z h2
  have e2':=gE' (f:=tV) Sl.z h2
  rw [show w.l.getD j Sl.z=w.l[j] by simp [List.getD_eq_getElem?_getD,h2]] at e2 e2'
  obtain ⟨hr1,hr2⟩:=hn _ (List.getElem_mem h2)
  generalize w.l[j]=r at *
  have hc:=q3J (Γ:=Γ) r hr1 hr2
  have ih:=qHR s i w hw hn d ws R h0 k (j+1) (out++[Pm r]) (by omega) (by simp [ho]) (by rw [← hR]; simp)
  have vs:=Bz (f:=tV) (l:=out) (x:=Pm r)
  have vt:(Af tV out).take j=Af tV out:=by rw [← ho]; exact An
  generalize Pm r=q at *
  have h3:(j:Int)<w.l.length:=by omega
  have w1:=B8 (i:=j) (by omega)
  have hw1:∀ t:T,D5 1 [[t]]:=fun t e he=>by simp at he; subst he; rfl
  simp only [tV] at e2 e2' hc vs
  simp [q6F,Bg,N7,tW,tV] at ih
  simp [q6F,Bg,N7,tW,tV,A0,A8,h2,h3,e2,e2']
  refine Ad hc rfl ?_
  simp [hw1,vt,vs,ho,w1,A0]
  refine ⟨by omega,?_⟩
  rw [hK]
  simpa using ih
theorem qHS {Q:AX→St→Prop} (s:K3) (hs:s.words.l.length≤1000000) (hw:∀ w ∈ s.words.l,w.l.length≤1000000∧∀ r ∈ w.l,NlS r∧r.l.length≤1000000) (d:T) (R:List (Sl (Sl Int)))
  (h0:Q (.exit 0) ⟨[(1,.t (.ip (Bg s) 0)),(2,.lp 2 0 0),(3,.lp 3 0 0),(16,.t (N7 s.words)),(17,.t (tI s.words.l.length)),(18,.t (tI s.words.l.length)),(19,.t (tB false))],q6F d d R []++[(39,.sl 57 1 (Af tW R)),(54,.sl 55 1 [])]⟩) :
  ∀ (k i:Nat) (ws:List (Sl (Sl Int))),k+i=s.words.l.length→ws.length=i→ws++(s.words.l.drop i).map q7u=R →
  run Tryz.prog Γ Lj Q ⟨[(1,.t (.ip (Bg s) 0)),(2,.lp 2 0 0),(3,.lp 3 0 0),(16,.t (N7 s.words)),(17,.t (tI s.words.l.length)),(18,.t (tI i))],q6F d d ws []++[(39,.sl 57 1 (Af tW ws)),(54,.sl 55 1 [])]⟩
 | 0,i,ws,h,ho,hR=>by
  refine Um fun K hK=>?_
  have h2:i=s.words.l.length:=by omega
  subst h2
  rw [List.drop_length] at hR
  simp only [List.map_nil,List.append_nil] at hR
  subst hR
  simp [q6F,Bg,N7] at h0
  simp [q6F,Bg,N7]
  simpa using h0
 | k+1,i,ws,h,ho,hR=>by
  refine Um fun K hK=>?_
  have h2:i<s.words.l.length:=by omega
  rw [List.drop_eq_getElem_cons h2] at hR
  simp only [List.map_cons] at hR
  have e2:=gE (f:=tW) Sl.zz h2
  have e2':=gE' (f:=tW) Sl.zz h2
  rw [show s.words.l.getD i Sl.zz=s.words.l[i] by simp [List.getD_eq_getElem?_getD,h2]] at e2 e2'
  obtain ⟨hw1,hw2⟩:=hw _ (List.getElem_mem h2)
  generalize s.words.l[i]=w at *
  have g:=fun Q h0=>qHR (Γ:=Γ) (Q:=Q) s i w hw1 hw2 d ws (w.l.map Pm) h0 w.l.length 0 [] (by omega) rfl (by simp)
  have ih:=qHS s hs hw d R h0 k (i+1) (ws++[q7u w]) (by omega) (by simp [ho]) (by rw [← hR]; simp)
  have ml:(w.l.map Pm).length=w.l.length:=by simp
  have vtm:(Af tV (w.l.map Pm)).take w.l.length=Af tV (w.l.map Pm):=by rw [← ml]; exact An
  have hcl:=qEe (Γ:=Γ) (Af tV (w.l.map Pm)) none none A8
  rw [A0,ml] at hcl
  have vs:=Bz (f:=tW) (l:=ws) (x:=q7u w)
  unfold q7u at ih vs
  have vt:(Af tW ws).take i=Af tW ws:=by rw [← ho]; exact An
  generalize w.l.map Pm=q at *
  have h3:(i:Int)<s.words.l.length:=by omega
  have w1:=B8 (i:=i) (by omega)
  have hwd1:∀ t:T,D5 1 [[t]]:=fun t e he=>by simp at he; subst he; rfl
  simp only [tW] at e2 e2' vs
  simp [q6F,Bg,N7,tW,By] at g
  simp [q6F,Bg,N7,tW] at ih
  simp [q6F,Bg,N7,tW,A0,A8,h2,h3,e2,e2']
  refine g _ ?_
  simp [St.freeze,Bc.closed,Bi,frz1,frz0,Dq,del,Aj,vtm]
  refine Eh hcl rfl ?_
  simp [hwd1,vt,vs,ho,w1,A8,A0]
  refine ⟨by omega,?_⟩
  rw [hK]
  simpa [ho] using ih
theorem qHT {Q:AX→St→Prop} (s:K3) (hs:s.read.l.length≤1000000) (hr:∀ r ∈ s.read.l,NlS r∧r.l.length≤1000000) (d:T) (W:T) (R:List (Sl Int))
  (h0:Q (.exit 4) ⟨[(2,.lp 2 0 0),(3,.lp 3 0 0),(43,.t (tW s.read)),(44,.t (tI s.read.l.length)),(45,.t (tI s.read.l.length)),(46,.t (tB false))],[(2,.bx [.t (.sl [] (some 0) (some true)),.t (.sl [] (some 0) (some true)),.t (.sl [] (some 0) (some true))]),(3,.bx [.t d,.t W,.ls 54 0 R.length none]),(54,.sl 55 1 (Af tV R))]⟩) :
  ∀ (k i:Nat) (rs:List (Sl Int)),k+i=s.read.l.length→rs.length=i→rs++(s.read.l.drop i).map Pm=R →
  run Tryz.prog Γ Ll Q ⟨[(2,.lp 2 0 0),(3,.lp 3 0 0),(43,.t (tW s.read)),(44,.t (tI s.read.l.length)),(45,.t (tI i))],[(2,.bx [.t (.sl [] (some 0) (some true)),.t (.sl [] (some 0) (some true)),.t (.sl [] (some 0) (some true))]),(3,.bx [.t d,.t W,.ls 54 0 i none]),(54,.sl 55 1 (Af tV rs))]⟩
 | 0,i,rs,h,ho,hR=>by
  refine Un fun K hK=>?_
  have h2:i=s.read.l.length:=by omega
  subst h2
  rw [List.drop_length] at hR
  simp only [List.map_nil,List.append_nil] at hR
  subst hR
  rw [ho] at h0
  simp [tW] at h0
  simp [tW]
  simpa using h0
 | k+1,i,rs,h,ho,hR=>by
  refine Un fun K hK=>?_
  have h2:i<s.read.l.length:=by omega
  rw [List.drop_eq_getElem_cons h2] at hR
  simp only [List.map_cons] at hR
  have e2:=gE (f:=tV) Sl.z h2
  have e2':=gE' (f:=tV) Sl.z h2
  rw [show s.read.l.getD i Sl.z=s.read.l[i] by simp [List.getD_eq_getElem?_getD,h2]] at e2 e2'
  obtain ⟨hr1,hr2⟩:=hr _ (List.getElem_mem h2)
  generalize s.read.l[i]=r at *
  have hc:=q3J (Γ:=Γ) r hr1 hr2
  have ih:=qHT s hs hr d W R h0 k (i+1) (rs++[Pm r]) (by omega) (by simp [ho]) (by rw [← hR]; simp)
  have vs:=Bz (f:=tV) (l:=rs) (x:=Pm r)
  have vt:(Af tV rs).take i=Af tV rs:=by rw [← ho]; exact An
  generalize Pm r=q at *
  have h3:(i:Int)<s.read.l.length:=by omega
  have w1:=B8 (i:=i) (by omega)
  have hwd1:∀ t:T,D5 1 [[t]]:=fun t e he=>by simp at he; subst he; rfl
  simp only [tV] at e2 e2' hc vs
  simp [tW,tV] at ih
  simp [tW,tV,A0,A8,h2,h3,e2,e2']
  refine Eh hc rfl ?_
  simp [hwd1,vt,vs,ho,w1,A0]
  refine ⟨by omega,?_⟩
  rw [hK]
  simpa using ih
theorem q9n (s:K3) (hs:qMO s) (hn:qHP s):Ae Tryz.prog Γ 83 [.agg (Bg s)] (.agg (Bg (Ta s))):=by
 refine B1 q6C rfl ?_
 have e1:=q3J (Γ:=Γ) s.dff hn.d hs.d
 have g3:=fun Q d h0=>qHS (Γ:=Γ) (Q:=Q) s hs.w.1 (fun w hw=>⟨(hs.w.2 w hw).1,fun r hr=>⟨hn.w w hw r hr,(hs.w.2 w hw).2 r hr⟩⟩) d (s.words.l.map q7u) h0 s.words.l.length 0 [] (by omega) rfl (by simp)
 have g5:=fun Q d W h0=>qHT (Γ:=Γ) (Q:=Q) s hs.r.1 (fun r hr=>⟨hn.r r hr,hs.r.2 r hr⟩) d W (s.read.l.map Pm) h0 s.read.l.length 0 [] (by omega) rfl (by simp)
 have lW:(s.words.l.map q7u).length=s.words.l.length:=by simp
 have lR:(s.read.l.map Pm).length=s.read.l.length:=by simp
 have tW':(Af tW (s.words.l.map q7u)).take s.words.l.length=Af tW (s.words.l.map q7u):=by rw [← lW]; exact An
 have tR':(Af tV (s.read.l.map Pm)).take s.read.l.length=Af tV (s.read.l.map Pm):=by rw [← lR]; exact An
 have c2:=qEe (Γ:=Γ) (Af tV (s.read.l.map Pm)) none none A8
 have c3:=qHF (Γ:=Γ) (Af tW (s.words.l.map q7u)) none none A8
 rw [A0,lR] at c2
 rw [A0,lW] at c3
 unfold Ta
 generalize Pm s.dff=D at *
 generalize s.words.l.map q7u=W at *
 generalize s.read.l.map Pm=R at *
 simp [Bg,tV,tW,N7] at e1
 simp [q6F,Bg,tV,tW,N7,By,lW] at g3
 simp [Bg,tV,tW,N7,By,lR] at g5
 simp [q13,Bg,tV,tW,N7]
 refine Ad e1 rfl ?_
 simp [A0]
 refine g3 _ _ ?_
 simp [St.freeze,Bc.closed,Bi,frz1,frz0,Dq,del,Aj,tW',A0]
 refine g5 _ _ _ ?_
 simp [St.freeze,Bc.closed,Bi,frz1,frz0,Dq,del,Aj,tR',A0]
 refine Eh c3 rfl ?_
 simp
 refine Eh c2 rfl ?_
 simp [q14,Aj,Ai]
def Pi (r:List Int × List Int):List T:=[tVs r.1,tVs r.2]
def qBE (c:B7) (l:List (Sl Int)):Prop:=∀ x ∈ l,x.l.length=(Da c).length∧∀ v ∈ x.l,V4 v
theorem qBE.seq {c:B7} {l:List (Sl Int)} (h:qBE c l):qJP c (l.map (·.l)):=fun i hi=>by
 obtain ⟨x,hx,rfl⟩:=List.mem_map.1 hi
 exact h x hx
theorem qCa {Q:AX→St→Prop} (hΓ:GOk Γ) (c:B7) (h:MOk c) (s:K3) (H:J2 c s) (ins L:Sl (Sl Int)) (hL:L.l.length≤2000) (hv:qBE c L.l)
  (h0:Q (.exit 0) ⟨[(2,.t (tW ins)),(3,.t (.ip (tC c) 0)),(4,.t (.ip (Bg s) 0)),(7,.lp 7 0 0),(26,.t (tW L)),(27,.t (tI L.l.length)),(28,.t (tI L.l.length)),(29,.t (tB false))],[(7,.bx [.t Ar,.t Ar,.t Ar])]⟩) :
  ∀ (k i:Nat),k+i=L.l.length→run Tryz.prog Γ Tu Q ⟨[(2,.t (tW ins)),(3,.t (.ip (tC c) 0)),(4,.t (.ip (Bg s) 0)),(7,.lp 7 0 0),(26,.t (tW L)),(27,.t (tI L.l.length)),(28,.t (tI i))],[(7,.bx [.t Ar,.t Ar,.t Ar])]⟩
 | 0,i,hk=>by
  refine Zy fun K hK=>?_
  have h2:i=L.l.length:=by omega
  subst h2
  simp [Ar,Bg,tV,tW,N7,tC,A7,A9,Ac,B5] at h0
  simp [Ar,Bg,tV,tW,N7,tC,A7,A9,Ac,B5]
  simpa using h0
 | k+1,i,hk=>by
  refine Zy fun K hK=>?_
  have h2:i<L.l.length:=by omega
  have e2:=gE (f:=tV) Sl.z h2
  have e2':=gE' (f:=tV) Sl.z h2
  rw [show L.l.getD i Sl.z=L.l[i] by simp [List.getD_eq_getElem?_getD,h2]] at e2 e2'
  obtain ⟨hl,hv4⟩:=hv _ (List.getElem_mem h2)
  generalize L.l[i]=x at *
  have hc:=q7b hΓ c h s H x hl (fun v hv=>(hv4 v hv).2)
  have ih:=qCa hΓ c h s H ins L hL hv h0 k (i+1) (by omega)
  have h3:(i:Int)<L.l.length:=by omega
  have w1:=B8 (i:=i) (by omega)
  simp only [tV] at e2 e2'
  simp [Bg,tV,tW,N7,tC,A7,A9,Ac,B5] at hc
  simp [Ar,Bg,tV,tW,N7,tC,A7,A9,Ac,B5] at ih
  simp [Ar,Bg,tV,tW,N7,tC,A7,A9,Ac,B5,A0,A8,h2,h3,e2,e2']
  refine Ad hc rfl ?_
  simp [w1]
  rw [hK]
  simpa using ih
theorem Fz {α:Type} {f:α→T} {x:α} {l:List α}:Af f (x::l)=[f x]::Af f l:=rfl
theorem qAY {α:Type} {f:α→List T}:Ao f []=[]:=rfl
theorem qIe {α:Type} {l:List α} {n:Nat} (h:l.length=n) {x y:α} {m:List α}:(l++x::m).set n y=l++y::m:=by
 subst h
 rw [List.set_append_right (h:=Nat.le_refl _)]
 simp
theorem qFl {l:List (List Int × List Int)} {k:Nat}:D5 2 (Ao Pi l++List.replicate k [Ar,Ar]):=by
 intro e he
 rcases List.mem_append.1 he with he | he
 ·obtain ⟨x,_,rfl⟩:=List.mem_map.1 he; rfl
 ·rw [List.eq_of_mem_replicate he]; rfl
set_option maxHeartbeats 2000000 in
theorem qCb {Q:AX→St→Prop} (hΓ:GOk Γ) (c:B7) (h:MOk c) (hn:c.nodes.l.length≤19) (ins:Sl (Sl Int)) (hL:ins.l.length≤2000) (hv:qBE c ins.l) (RR:List (List Int × List Int)) (SS:K3)
  (h0:Q (.exit 2) ⟨[(3,.t (.ip (tC c) 0)),(7,.lp 7 0 0),(12,.ls 43 0 ins.l.length (some ins.l.length)),(13,.lp 13 0 0),(46,.t (tW ins)),(47,.t (tI ins.l.length)),(48,.t (tI ins.l.length)),(49,.t (tB false))],[(7,.bx [.t Ar,.t Ar,.t Ar]),(13,.bx ((Bg SS).map .t)),(43,.sl 66 2 (Ao Pi RR))]⟩) :
  ∀ (k i:Nat) (st:K3) (done:List (List Int × List Int)),k+i=ins.l.length→done.length=i→J2 c st→done++seqR c st ((ins.l.drop i).map (·.l))=RR→seqS c st ((ins.l.drop i).map (·.l))=SS →
  run Tryz.prog Γ Tv Q ⟨[(3,.t (.ip (tC c) 0)),(7,.lp 7 0 0),(12,.ls 43 0 ins.l.length (some ins.l.length)),(13,.lp 13 0 0),(46,.t (tW ins)),(47,.t (tI ins.l.length)),(48,.t (tI i))],[(7,.bx [.t Ar,.t Ar,.t Ar]),(13,.bx ((Bg st).map .t)),(43,.sl 66 2 (Ao Pi done++List.replicate k [Ar,Ar]))]⟩
 | 0,i,st,done,hk,hd,H,hR,hS=>by
  refine Zz fun K hK=>?_
  have h2:i=ins.l.length:=by omega
  subst h2
  rw [List.drop_length] at hR hS
  simp only [List.map_nil,seqR,seqS,List.append_nil] at hR hS
  subst hR
  subst hS
  simp [Ar,Bg,tV,tW,N7,tC,A7,A9,Ac,B5] at h0
  simp [Ar,Bg,tV,tW,N7,tC,A7,A9,Ac,B5]
  simpa using h0
 | k+1,i,st,done,hk,hd,H,hR,hS=>by
  refine Zz fun K hK=>?_
  have h2:i<ins.l.length:=by omega
  rw [List.drop_eq_getElem_cons h2] at hR hS
  simp only [List.map_cons,seqR,seqS] at hR hS
  have e2:=gE (f:=tV) Sl.z h2
  have e2':=gE' (f:=tV) Sl.z h2
  rw [show ins.l.getD i Sl.z=ins.l[i] by simp [List.getD_eq_getElem?_getD,h2]] at e2 e2'
  obtain ⟨hl,hv4⟩:=hv _ (List.getElem_mem h2)
  generalize ins.l[i]=x at *
  have hc:=qHN hΓ h hn H x hl hv4
  have ih:=qCb hΓ c h hn ins hL hv RR SS h0 k (i+1) (Y8 c st (Bq c st x.l)) (done++[(q0q c (Bq c st x.l),Dt c (Bq c st x.l))]) (by omega) (by simp [hd]) (qCX h H (qBC H hv4)) (by rw [← hR]; simp) hS
  have el:(Ao Pi done).length=i:=by rw [Aa,hd]
  have hset:=qIe (l:=Ao Pi done) (n:=i) el (x:=[Ar,Ar]) (y:=Pi (q0q c (Bq c st x.l),Dt c (Bq c st x.l))) (m:=List.replicate k [Ar,Ar])
  have hsn:Ao Pi done++Pi (q0q c (Bq c st x.l),Dt c (Bq c st x.l))::List.replicate k [Ar,Ar]=Ao Pi (done++[(q0q c (Bq c st x.l),Dt c (Bq c st x.l))])++List.replicate k [Ar,Ar]:=by simp [Ao]
  rw [hsn] at hset
  have hlen:(Ao Pi done++List.replicate (k+1) [Ar,Ar]).length=ins.l.length:=by simp [el]; omega
  rw [← List.replicate_succ] at hset
  have hwid:=qFl (l:=done) (k:=k+1)
  generalize Ao Pi done++List.replicate (k+1) [Ar,Ar]=E at *
  generalize Ao Pi (done++[(q0q c (Bq c st x.l),Dt c (Bq c st x.l))])++List.replicate k [Ar,Ar]=E' at *
  generalize Y8 c st (Bq c st x.l)=st' at *
  simp only [Pi] at hset
  generalize q0q c (Bq c st x.l)=O at *
  generalize Dt c (Bq c st x.l)=X at *
  generalize Bq c st x.l=N at *
  have h3:(i:Int)<ins.l.length:=by omega
  have w1:=B8 (i:=i) (by omega)
  simp only [tV] at e2 e2'
  simp only [tVs] at hset
  simp [Bg,tV,tVs,tW,N7,tC,A7,A9,Ac,B5] at hc
  simp [Ar,Bg,tV,tW,N7,tC,A7,A9,Ac,B5] at ih
  simp [Ar,Bg,tV,tW,N7,tC,A7,A9,Ac,B5,A0,A8,h2,h3,e2,e2']
  refine Ad hc rfl ?_
  simp [h2,h3,hlen,hset,w1]
  rw [hK]
  simpa using ih
set_option maxHeartbeats 2000000 in
theorem q9K (hΓ:GOk Γ) (c:B7) (h:MOk c) (hn:c.nodes.l.length≤19) (s:K3) (H:J2 c s) (hN:qHP s) (ins:Sl (Sl Int)) (hL:ins.l.length≤1000) (hv:qBE c ins.l) :
  Ae Tryz.prog Γ 24 [.agg (tC c),.agg (Bg s),tW ins] (.tup [.sl (Ao Pi (seqR c (Ta s) (ins.l.map (·.l)))) (some ins.l.length) none,.agg (Bg (seqS c (Ta s) (ins.l.map (·.l)))),tI 0]):=by
 refine B1 q9G rfl ?_
 have hil:=Sz c
 have hsl:=C5 c
 have e1:=q9B (Γ:=Γ) c h.ok (by omega) (by omega)
 have e2:=qBD (Γ:=Γ) [⟨[⟨List.replicate (Da c).length 2,none,none⟩],some 1,some false⟩,ins] (some 2) (some false) (by simp) (by simp; omega) (by simp)
 have e3:=q9n (Γ:=Γ) s (H.small h) hN
 have hE:=(qHQ hN).ok H
 have hvL:qBE c (⟨List.replicate (Da c).length 2,none,none⟩::ins.l):=fun x hx=>by
  rcases List.mem_cons.1 hx with rfl | hx
  ·exact ⟨by simp,fun v hv=>by rw [List.eq_of_mem_replicate hv]; unfold V4; omega⟩
  ·exact hv x hx
 have g1:=fun Q h0=>qCa (Γ:=Γ) (Q:=Q) hΓ c h s H ins ⟨⟨List.replicate (Da c).length 2,none,none⟩::ins.l,none,none⟩ (by simp; omega) hvL h0 (ins.l.length+1) 0 (by simp)
 have g3:=fun Q h0=>qCb (Γ:=Γ) (Q:=Q) hΓ c h hn ins (by omega) hv (seqR c (Ta s) (ins.l.map (·.l))) (seqS c (Ta s) (ins.l.map (·.l))) h0 ins.l.length 0 (Ta s) [] (by omega) rfl hE (by simp) (by simp)
 simp only [List.flatMap_cons,List.flatMap_nil,List.append_nil,List.singleton_append] at e2
 have hfl:(Ao Pi (seqR c (Ta s) (ins.l.map (·.l)))).length=ins.l.length:=by rw [Aa,qCZ,List.length_map]
 have htk:(Ao Pi (seqR c (Ta s) (ins.l.map (·.l)))).take ins.l.length=Ao Pi (seqR c (Ta s) (ins.l.map (·.l))):=List.take_of_length_le (by omega)
 generalize seqR c (Ta s) (ins.l.map (·.l))=RR at *
 generalize seqS c (Ta s) (ins.l.map (·.l))=SS at *
 generalize Ta s=s' at *
 generalize List.replicate (Da c).length (2:Int)=bl at *
 have h9:¬ 1024<(ins.l.length:Int):=by omega
 have h9':ins.l.length≤1024:=by omega
 have h9'':¬ 1024<ins.l.length:=by omega
 simp [tW,tV,Fz,By] at e2
 simp [Bg,tV,tW,N7,tC,A7,A9,Ac,B5] at e1 e3
 simp [Ar,Bg,tV,tW,N7,tC,A7,A9,Ac,B5,Fz,By] at g1
 simp [Ar,Bg,tV,tW,N7,tC,A7,A9,Ac,B5,qAY] at g3
 simp [q4Q,Bg,tV,tW,N7,tC,A7,A9,Ac,B5,A0,h9,h9']
 refine Ad e1 rfl ?_
 simp
 refine Ad e2 rfl ?_
 simp [A0]
 refine g1 _ ?_
 simp [Aa,A0]
 refine ⟨by omega,?_⟩
 refine Ad e3 rfl ?_
 simp [A0]
 refine g3 _ ?_
 simp [q4R,Aj,Ai,htk]
 done
def V2 (v:Int):Prop:=0≤v∧v≤1
theorem qIf {c:B7} (h:Ci c=0):∀ n ∈ c.outs.l,0≤n∧n<c.nodes.l.length:=by
 unfold Ci at h
 split at h
 ·cases h
 split at h
 ·cases h
 split at h
 ·rename_i h2; exact absurd h h2
 split at h
 ·rename_i h2; exact absurd h h2
 split at h
 ·rename_i h2; exact absurd h h2
 split at h
 ·cases h
 ·rename_i h2; exact q1V (by simpa using h2)
theorem V2.four {v:Int} (h:V2 v):V4 v:=by unfold V2 V4 at *; omega
theorem qEl {Q:AX→St→Prop} (l:List Int) (hl:l.length≤1000000) (c1 c2:Option Nat) (n1 n2:Option Bool)
  (h0:Q (.exit 0) ⟨[(0,.t (.sl (Ax l) c1 n1)),(1,.t (.sl (Ax l) c2 n2)),(5,.t (tI l.length)),(21,.t (tB false))],[]⟩) :
  ∀ (k i:Nat),k+i=l.length→run Tryz.prog Γ Tz Q ⟨[(0,.t (.sl (Ax l) c1 n1)),(1,.t (.sl (Ax l) c2 n2)),(5,.t (tI i))],[]⟩
 | 0,i,h=>by
  refine q07 fun K hK=>?_
  have h2:i=l.length:=by omega
  subst h2
  simp [A0]
  simpa using h0
 | k+1,i,h=>by
  refine q07 fun K hK=>?_
  have h2:i<l.length:=by omega
  have e1:=gE (f:=tI) 0 h2
  have e1':=gE' (f:=tI) 0 h2
  rw [D8 h2] at e1 e1'
  generalize l[i]=x at *
  have ih:=qEl l hl c1 c2 n1 n2 h0 k (i+1) (by omega)
  have h3:(i:Int)<l.length:=by omega
  have w1:=B8 (i:=i) (by omega)
  simp [A0,A8,h2,h3,e1,e1',w1]
  rw [hK]
  simpa using ih
theorem q3e (l:List Int) (hl:l.length≤1000000) (c2:Option Nat) (n1 n2:Option Bool) :
  A6 Tryz.prog Γ 20 [.sl (Ax l) (some l.length) n1,.sl (Ax l) c2 n2] (tI 0):=by
 refine Ab q9H rfl ?_
 have g:=fun Q h0=>qEl (Γ:=Γ) (Q:=Q) l hl (some l.length) c2 n1 n2 h0 l.length 0 (by omega)
 simp at g
 simp [q4T,A0]
 refine g _ ?_
 simp [q4U]
def q6G (ds:List Int):Nat→List Int→List Int
 | _,[]=>[]
 | i,n::ns=>if N2 (ds.getD i 0)=true then n::q6G ds (i+1) ns else q6G ds (i+1) ns
theorem qCc {ds:List Int}:∀ {ns:List Int} {i:Nat},(q6G ds i ns).length≤ns.length
 | [],_=>by simp [q6G]
 | n::ns,i=>by
  have:=qCc (ds:=ds) (ns:=ns) (i:=i+1)
  simp only [q6G]
  split <;> simp <;> omega
theorem qDt {Q:AX→St→Prop} (S:K3) (ns:List Int) (hn:ns.length≤100000) (hd:S.dff.l.length=ns.length) (R:List Int)
  (h0:Q (.exit 0) ⟨[(7,.lp 7 0 0),(9,.ls 41 0 R.length none),(25,.t (.sl (Ax ns) (some ns.length) none)),(26,.t (tI ns.length)),(27,.t (tI ns.length)),(28,.t (tB false))],[(7,.bx ((Bg S).map .t)),(41,.sl 3 1 (Ax R))]⟩) :
  ∀ (k i:Nat) (out:List Int),k+i=ns.length→out.length≤i→out++q6G S.dff.l i (ns.drop i)=R →
  run Tryz.prog Γ K1 Q ⟨[(7,.lp 7 0 0),(9,.ls 41 0 out.length none),(25,.t (.sl (Ax ns) (some ns.length) none)),(26,.t (tI ns.length)),(27,.t (tI i))],[(7,.bx ((Bg S).map .t)),(41,.sl 3 1 (Ax out))]⟩
 | 0,i,out,h,ho,hR=>by
  refine Ru fun K hK=>?_
  have h2:i=ns.length:=by omega
  subst h2
  rw [List.drop_length] at hR
  simp only [q6G,List.append_nil] at hR
  subst hR
  simp [Bg,tV,tW,N7] at h0
  simp [Bg,tV,tW,N7]
  simpa using h0
 | k+1,i,out,h,ho,hR=>by
  refine Ru fun K hK=>?_
  have h2:i<ns.length:=by omega
  have h2d:i<S.dff.l.length:=by omega
  rw [List.drop_eq_getElem_cons h2] at hR
  simp only [q6G] at hR
  have e1:=gE (f:=tI) 0 h2
  have e1':=gE' (f:=tI) 0 h2
  rw [D8 h2] at e1 e1'
  have e2:=gE (f:=tK) 0 h2d
  have e2':=gE' (f:=tK) 0 h2d
  generalize ns[i]=x at *
  generalize S.dff.l.getD i 0=d at *
  have hk:=Sv (Γ:=Γ) d
  have h3:(i:Int)<ns.length:=by omega
  have h4:(i:Int)<S.dff.l.length:=by omega
  have w1:=B8 (i:=i) (by omega)
  by_cases hd1:N2 d=true
  ·rw [if_pos hd1] at hR
   rw [hd1] at hk
   have ih:=qDt S ns hn hd R h0 k (i+1) (out++[x]) (by omega) (by simp; omega) (by rw [← hR]; simp)
   have vs:=Bz (f:=tI) (l:=out) (x:=x)
   have vt:(Ax out).take out.length=Ax out:=An
   simp [Bg,tV,tW,N7] at ih
   simp [Bg,tV,tW,N7,A0,A8,h2,h3,e1,e1',h2d,h4,e2,e2']
   refine A3 hk rfl ?_
   simp [vt,vs,w1,A0]
   refine ⟨by omega,?_⟩
   rw [hK]
   simpa using ih
  ·rw [if_neg hd1] at hR
   have hd2:N2 d=false:=by simpa using hd1
   rw [hd2] at hk
   have ih:=qDt S ns hn hd R h0 k (i+1) out (by omega) (by omega) hR
   simp [Bg,tV,tW,N7] at ih
   simp [Bg,tV,tW,N7,A0,A8,h2,h3,e1,e1',h2d,h4,e2,e2']
   refine A3 hk rfl ?_
   simp [w1]
   rw [hK]
   simpa using ih
theorem qCd {c:B7}:qHP (L0 c):=by
 refine ⟨fun h=>(nomatch h),fun w hw r hr=>?_,fun r hr=>?_⟩
 ·obtain ⟨m,_,rfl⟩:=List.mem_map.1 hw
  rw [List.eq_of_mem_replicate hr]
  exact fun h=>nomatch h
 ·obtain ⟨m,_,rfl⟩:=List.mem_map.1 hr
  exact fun h=>nomatch h
theorem qHU {n:Nat}:∀ v ∈ List.replicate n (2:Int),0≤v∧v≤2:=fun v hv=>by rw [List.eq_of_mem_replicate hv]; omega
theorem qAZ {c:B7}:J2 c (L0 c):=by
 have gm:∀ i,i<c.mems.l.length→(L0 c).words.l.getD i Sl.zz=q5F (c.mems.l.getD i Mm.d):=fun i hi=>by
  show (c.mems.l.map q5F).getD i Sl.zz=_
  simp [List.getD_eq_getElem?_getD,hi]
 have gr:∀ i,i<c.mems.l.length→(L0 c).read.l.getD i Sl.z=Qp (c.mems.l.getD i Mm.d).data.l.length:=fun i hi=>by
  show (c.mems.l.map fun m=>Qp m.data.l.length).getD i Sl.z=_
  simp [List.getD_eq_getElem?_getD,hi]
 refine ⟨by simp [L0,Qp],by simp [L0],by simp [L0],fun i hi=>by rw [gm i hi]; simp [q5F],fun i hi w hw=>?_,fun i hi=>by rw [gr i hi]; simp [Qp],qHU,fun w hw r hr=>?_,fun r hr=>?_⟩
 ·rw [gm i hi] at hw
  rw [List.eq_of_mem_replicate hw]; simp [Qp]
 ·obtain ⟨m,_,rfl⟩:=List.mem_map.1 hw
  rw [List.eq_of_mem_replicate hr]; exact qHU
 ·obtain ⟨m,_,rfl⟩:=List.mem_map.1 hr
  exact qHU
set_option maxHeartbeats 2000000 in
theorem q3K (hΓ:GOk Γ) (c:B7) (h:MOk c) (hn:c.nodes.l.length≤19) (ins:Sl (Sl Int)) (hL:ins.l.length≤1000) (hv:qBE c ins.l) :
  Ae Tryz.prog Γ 28 [.agg (tC c),tW ins] (.tup [.sl (Ax (q6G (seqS c (Ta (L0 c)) (ins.l.map (·.l))).dff.l 0 (Ag c))) (some (q6G (seqS c (Ta (L0 c)) (ins.l.map (·.l))).dff.l 0 (Ag c)).length) none,tI 0]):=by
 refine B1 q5J rfl ?_
 have hsl:=C5 c
 have e1:=qCY hΓ c h (by omega)
 have e2:=q9K hΓ c h hn (L0 c) qAZ qCd ins hL hv
 have e3:=Ek (Γ:=Γ) c h.ok
 have K:=(qEk h ((qHQ qCd).ok (qAZ (c:=c))) hv.seq).d
 generalize seqS c (Ta (L0 c)) (ins.l.map (·.l))=S at *
 generalize seqR c (Ta (L0 c)) (ins.l.map (·.l))=RR at *
 generalize L0 c=b at *
 have g:=fun Q h0=>qDt (Γ:=Γ) (Q:=Q) S (Ag c) (by omega) K (q6G S.dff.l 0 (Ag c)) h0 (Ag c).length 0 [] (by omega) (by simp) (by simp)
 have sl:=qCc (ds:=S.dff.l) (ns:=Ag c) (i:=0)
 generalize q6G S.dff.l 0 (Ag c)=R at *
 have hc:=q5i (Γ:=Γ) (Ax R) none none A8
 rw [A0] at hc
 have ht:(Ax R).take R.length=Ax R:=An
 simp [Bg,tV,tW,N7,tC,A7,A9,Ac,B5] at e1 e2 e3
 simp [Bg,tV,tW,N7,By] at g
 simp [q05,Bg,tV,tW,N7,tC,A7,A9,Ac,B5]
 refine Eh e1 rfl ?_
 simp
 refine Eh e2 rfl ?_
 simp
 refine Ad e3 rfl ?_
 simp [A0]
 refine g _ ?_
 simp [St.freeze,Bc.closed,Bi,frz1,frz0,Dq,del,Aj,ht]
 refine Ad hc rfl ?_
 simp [q06]
end Go.Lg
namespace Go.Proofs.YtnhgdofpomioeaaGreatDoor
open Go Go.Lg Go.ChangeShapes Go.WideShapes Go.ChangeAt Go.RowKit
theorem qND {n:Int} (h:(Lit.int .u8 n).wf=true):0≤n∧n≤255:=by
 simp only [Lit.wf,Bool.and_eq_true,decide_eq_true_eq] at h
 have h1:IntKind.u8.min=0:=by decide
 have h2:IntKind.u8.max=255:=by decide
 omega
end Go.Proofs.YtnhgdofpomioeaaGreatDoor
namespace Go.Lg
open Go Go.Proofs
variable {Γ:Tables}
def mvL (many:Nat) (f:Int) (l:List Int):List Int:=l.map fun k=>f*many+k
def mvS (many:Nat) (f:Int) (s:Sl Int):Sl Int:=⟨mvL many f s.l,some s.l.length,none⟩
theorem K2 {many:Nat} {f:Int} {l:List Int}:(mvL many f l).length=l.length:=by simp [mvL]
def nmU (f i:Nat):List UInt8:=Jy f++[46]++Jy i
def unN (many:Nat) (f:Nat) (x:Nd):Nd:=if x.k=14 then (if f=0 then ⟨0,⟨[],some 0,some true⟩,0,0⟩ else ⟨3,mvS many ((f:Int) - 1) x.inn,0,0⟩) else ⟨x.k,mvS many f x.inn,0,0⟩
theorem qEm {Q:AX→St→Prop} (many:Nat) (f:Int) (l:Sl Int) (hl:l.l.length≤1000000) (hf:0≤f*many∧f*many≤1000000000) (hin:∀ k ∈ l.l,0≤k∧k≤1000000) (R:List Int)
  (h0:Q (.exit 0) ⟨[(0,.t (tI f)),(2,.t (.ip [tI many] 0)),(6,.ls 22 0 l.l.length none),(9,.t (B5 l)),(10,.t (tI l.l.length)),(11,.t (tI l.l.length)),(12,.t (tB false))],[(22,.sl 3 1 (Ax R))]⟩) :
  ∀ (k i:Nat) (out:List Int),k+i=l.l.length→out.length=i→out++mvL many f (l.l.drop i)=R →
  run Tryz.prog Γ Im Q ⟨[(0,.t (tI f)),(2,.t (.ip [tI many] 0)),(6,.ls 22 0 i none),(9,.t (B5 l)),(10,.t (tI l.l.length)),(11,.t (tI i))],[(22,.sl 3 1 (Ax out))]⟩
 | 0,i,out,h,ho,hR=>by
  refine Qj fun K hK=>?_
  have h2:i=l.l.length:=by omega
  subst h2
  rw [List.drop_length] at hR
  simp only [mvL,List.map_nil,List.append_nil] at hR
  subst hR
  simp [B5] at h0
  simp [B5]
  simpa using h0
 | k+1,i,out,h,ho,hR=>by
  refine Qj fun K hK=>?_
  have h2:i<l.l.length:=by omega
  rw [List.drop_eq_getElem_cons h2] at hR
  simp only [mvL,List.map_cons] at hR
  have e1:=gE (f:=tI) 0 h2
  have e1':=gE' (f:=tI) 0 h2
  obtain ⟨q0,q1⟩:=hin _ (List.getElem_mem h2)
  rw [D8 h2] at e1 e1'
  generalize l.l[i]=q at *
  have ih:=qEm many f l hl hf hin R h0 k (i+1) (out++[f*many+q]) (by omega) (by simp [ho]) (by rw [← hR]; simp [mvL])
  have vs:=Bz (f:=tI) (l:=out) (x:=f*many+q)
  have vt:(Ax out).take i=Ax out:=by rw [← ho]; exact An
  generalize hm:f*(many:Int)=m at *
  have w1:=B8 (i:=i) (by omega)
  have w2:IntKind.i64.wrap m=m:=A5 (by omega) (by omega)
  have w3:IntKind.i64.wrap (m+q)=m+q:=A5 (by omega) (by omega)
  have h3:(i:Int)<l.l.length:=by omega
  simp [B5] at ih
  simp [B5,A0,A8,h2,h3,e1,e1',hm,w2,w3,vt,vs,ho,w1]
  refine ⟨by omega,?_⟩
  rw [hK]
  simpa using ih
theorem q1o (many:Nat) (f:Int) (l:Sl Int) (hl:l.l.length≤1000000) (hf:0≤f*many∧f*many≤1000000000) (hin:∀ k ∈ l.l,0≤k∧k≤1000000) :
  Ae Tryz.prog Γ 69 [tI f,B5 l,.ip [tI many] 0] (B5 (mvS many f l)):=by
 refine B1 q3v rfl ?_
 have g:=fun Q h0=>qEm (Γ:=Γ) (Q:=Q) many f l hl hf hin (mvL many f l.l) h0 l.l.length 0 [] (by omega) rfl (by simp)
 have ml:(mvL many f l.l).length=l.l.length:=K2
 have hc:=q5i (Γ:=Γ) (Ax (mvL many f l.l)) none none A8
 have ht:(Ax (mvL many f l.l)).take l.l.length=Ax (mvL many f l.l):=by rw [← ml]; exact An
 rw [A0,ml] at hc
 unfold mvS
 generalize mvL many f l.l=R at *
 simp [B5,By] at g
 simp [Yd,B5,A0]
 refine g _ ?_
 simp [St.freeze,Bc.closed,Bi,frz1,frz0,Dq,del,Aj,ht]
 refine Ad hc rfl ?_
 simp [Ye]
theorem q7c (f i:Nat) (hf:f<100) (hi:i<100):A6 Tryz.prog Γ 71 [tI f,tI i] (tS (nmU f i)):=by
 refine Ab q7t rfl ?_
 have e1:=Wz (Γ:=Γ) f hf
 have e2:=Wz (Γ:=Γ) i hi
 have l1:∀ j,(Jy j).length≤2:=fun j=>by unfold Jy; split <;> simp
 have l1f:=l1 f
 have l1i:=l1 i
 unfold nmU
 generalize Jy f=a at *
 generalize Jy i=b at *
 simp only [tS,sV] at e1 e2
 simp [q3E,sV]
 refine A3 e1 rfl ?_
 simp
 refine ⟨by omega,?_⟩
 refine A3 e2 rfl ?_
 simp [q3F,tS]
 refine ⟨by omega,?_⟩
 show Value.string (ByteArray.mk a.toArray++ByteArray.mk [46].toArray++ByteArray.mk b.toArray)=_
 rw [q3d,q3d]
 simp [sV]
theorem qEn (x:Nd) (s:List UInt8) (ns:List Nd) (ms:List (List UInt8)) (hl:ns.length=ms.length) (hn:ns.length≤1000000) (m o:T) :
  F9 Tryz.prog Γ 68 [(1000000,.bx [.ls 1000002 0 ns.length none,.ls 1000003 0 ms.length none,.t m,.t o]),(1000002,.sl 45 4 (Ao Bt ns)),(1000003,.sl 9 1 (Af tS ms))]
   [.ag ((Bt x).map .t),.t (tS s),.lp 1000000 0 0] (.t (.tup [])) [(9,.sl 45 4 (Ao Bt (ns++[x]))),(14,.sl 9 1 (Af tS (ms++[s]))),(1000000,.bx [.ls 9 0 (ns.length+1) none,.ls 14 0 (ms.length+1) none,.t m,.t o])]:=by
 refine Ht q3u rfl ?_
 have vs:=q0c (f:=Bt) (l:=ns) (x:=x)
 have vs2:=Bz (f:=tS) (l:=ms) (x:=s)
 simp only [Bt,B5] at vs
 simp only [tS,sV] at vs2
 have hw1:D5 4 [[tK x.k,.sl (Ax x.inn.l) x.inn.cap x.inn.nl,tI x.mem,tI x.bit]]:=fun e he=>by simp at he; subst he; rfl
 have hw2:∀ t:T,D5 1 [[t]]:=fun t e he=>by simp at he; subst he; rfl
 simp [Ya,Bt,B5,tS,sV,Aa,A0,hw1,hw2,vs,vs2]
 refine ⟨by omega,by omega,?_⟩
 simp [Yb,Bt,B5,tS,sV,hl]
 done
end Go.Lg
namespace Go.Lg
open Go
section
variable {P:Program} {Γ:Tables} {Q:AX→St→Prop} {s:St}
/- probecard/sims.Check (function 135) -/
abbrev q4V:IC:=(.seq (.reg [od 2 (.box true (tm 0)),od 3 (.box true (tm 1)),od 4 (.mv (ki 0))] [kp [2,3] []]) (.seq (.seq (.reg [od 6 (lG 4 2),od 7 (.call 19 [(tm 6)]),om 5 7] [kp [2,3,5] []]) (.seq (.reg [om 8 5,od 9 (.bin .neq (tm 8)
 (ki 0))] [kp [2,3,5,9] []]) (.cond (tm 9) (.seq (.reg [om 10 5,om 4 10] [kp [4] []]) .ret) .skip))) (.seq (.reg [od 11 (lG 4 2),od 12 (lG 2 3),od 13 (.call 105 [(tm 11),(tm 12)]),om 4 13] [kp [4] []]) .ret)))
def q4W:List RV:=[.tmp 4]
end
end Go.Lg
namespace Go.Lg
open Go Go.Proofs
theorem q9L:Aw Tryz.prog 135 q4V 14 2 q4W=true:=by kernel_rfl
end Go.Lg
namespace Go.Lg
open Go Go.Proofs
variable {Γ:Tables}
theorem qHV (hΓ:GOk Γ) (c:B7) (hc:NOk c) (p:Pat) (hp:POk c p):A6 Tryz.prog Γ 135 [.agg (tC c),.agg (tP p)] (tI 0):=by
 refine Ab q9L rfl ?_
 have hil:=Sz c
 have hsl:=C5 c
 have hn:=hc.n2
 have e1:=q1Y (Γ:=Γ) hΓ c hc.ok
 have e2:=qFb (Γ:=Γ) c hc.ok p ⟨by rw [hp.i]; omega,by rw [hp.s]; omega⟩
 have h0:=qFe hc hp
 unfold qDd at h0
 rw [if_neg (by simp [hc.lev])] at h0
 rw [h0] at e2
 rw [hc.lev] at e1
 simp [tC,A7,A9,Ac,B5,tP,tV] at e1 e2
 simp [q4V,tC,A7,A9,Ac,B5,tP,tV]
 refine A3 e1 rfl ?_
 simp
 refine A3 e2 rfl ?_
 simp [q4W]
theorem q6H (hΓ:GOk Γ) (c:B7) (hc:NOk c) (ho:c.outs.l.length≤16) (n:Nat) (h1:1≤n) (h8:n≤8):Ae Tryz.prog Γ 67 [.agg (tC c),tI n] (tI 0):=by
 refine B1 q75 rfl ?_
 have hil:=Sz c
 have hsl:=C5 c
 have hn:=hc.n2
 have e1:=q9B (Γ:=Γ) c hc.ok (by omega) (by omega)
 have e2:=qHV (Γ:=Γ) hΓ c hc ⟨⟨List.replicate (Da c).length 2,none,none⟩,⟨List.replicate (Ag c).length 2,none,none⟩⟩ ⟨by simp,by simp,fun v hv=>by rw [List.eq_of_mem_replicate hv]; unfold V4; omega,fun v hv=>by rw [List.eq_of_mem_replicate hv]; unfold V4; omega⟩
 have e3:=Ek (Γ:=Γ) c hc.ok
 have b1:n*c.nodes.l.length≤8*16:=Nat.mul_le_mul h8 hn
 have b2:n*(c.outs.l.length+(Ag c).length)≤8*32:=Nat.mul_le_mul h8 (by omega)
 have c1:((n*c.nodes.l.length:Nat):Int)=(n:Int)*c.nodes.l.length:=by simp
 have c2:((n*(c.outs.l.length+(Ag c).length):Nat):Int)=(n:Int)*((c.outs.l.length:Int)+(Ag c).length):=by simp
 have w1:IntKind.i64.wrap ((n:Int)*c.nodes.l.length)=(n:Int)*c.nodes.l.length:=by rw [← c1]; exact A5 (by omega) (by omega)
 have w2:IntKind.i64.wrap ((n:Int)*c.nodes.l.length+(Ag c).length)=(n:Int)*c.nodes.l.length+(Ag c).length:=by rw [← c1]; exact A5 (by omega) (by omega)
 have w3:IntKind.i64.wrap ((c.outs.l.length:Int)+(Ag c).length)=(c.outs.l.length:Int)+(Ag c).length:=A5 (by omega) (by omega)
 have w4:IntKind.i64.wrap ((n:Int)*((c.outs.l.length:Int)+(Ag c).length))=(n:Int)*((c.outs.l.length:Int)+(Ag c).length):=by rw [← c2]; exact A5 (by omega) (by omega)
 have k1:¬ (n:Int)<1:=by omega
 have k2:¬ 1024<(n:Int):=by omega
 have k3:¬ 16384<(n:Int)*c.nodes.l.length+(Ag c).length:=by rw [← c1]; omega
 have k4:¬ 16384<(n:Int)*((c.outs.l.length:Int)+(Ag c).length):=by rw [← c2]; omega
 simp only [tP,tV] at e2
 simp [tC,A7,A9,Ac,B5] at e1 e2 e3
 simp [q22,tC,A7,A9,Ac,B5]
 refine Ad e1 rfl ?_
 simp
 refine A3 e2 rfl ?_
 simp
 refine Ad e3 rfl ?_
 simp [A0,Aa,w1,w2,w3,w4,k1,k2,k3,k4,q23]
def unE (n:Nat) (c:B7) (S:T):List (Nat × AV):=[(1,.t (tI n)),(2,.t (.ip (tC c) 0)),(4,.lp 4 0 0),(7,.t (.ip [tI c.nodes.l.length] 0)),(8,.t S),(9,.lp 9 0 0),(10,.fn 68 [.lp 9 0 0]),(11,.t (.fn 69 [.ip [tI c.nodes.l.length] 0])),(12,.lb 38 n)]
def unH (k:Nat) (B:List AV):List (Nat × Bc):=[(4,.bx [.t Ar,.t Ar,.t Ar,.t Ar,.t Ar]),(9,.bx [.ls 96009 0 k none,.ls 96014 0 k none,.t Ar,.t Ar]),(38,.bx B)]
def unG (ns:List Nd) (ms:List (List UInt8)):List (Nat × Bc):=[(96009,.sl 45 4 (Ao Bt ns)),(96014,.sl 9 1 (Af tS ms))]
def q7d (c:B7):Prop:=∀ x ∈ c.nodes.l,x.inn.l.length≤1000000∧∀ k ∈ x.inn.l,0≤k∧k≤1000000
theorem L1 {j:Nat}:B0 j ∘ AV.t=AV.t:=rfl
theorem qAa {j:Nat} {r:Bc}:Bi j r ∘ AV.t=AV.t:=rfl
theorem qHW {φ:Nat→Option Nat}:Be φ ∘ AV.t=AV.t:=rfl
def unB (F:List T) (x:AV) (k:Nat):List AV:=F.map .t++x::List.replicate k (.t (.sl [] (some 0) (some true)))
theorem qEo {F:List T} {x:AV} {k:Nat}:(unB F x k).length=F.length+(k+1):=by simp [unB]
theorem q9M {F:List T} {x:AV} {k f:Nat} (h:F.length=f):(unB F x k).drop f=x::List.replicate k (.t (.sl [] (some 0) (some true))):=by
 unfold unB; rw [List.drop_left' (by simpa using h)]
theorem qCe {F:List T} {x:AV} {k f:Nat} (h:F.length=f):(unB F x k).take f=F.map .t:=by
 unfold unB; rw [List.take_left' (by simpa using h)]
theorem qAb {F:List T} {x:AV} {k f:Nat} (h:F.length=f):(unB F x k).drop (f+1)=List.replicate k (.t (.sl [] (some 0) (some true))):=by
 rw [← List.drop_drop,q9M h]; rfl
theorem qEp {F:List T} {x:AV} {k f:Nat} (h:F.length=f):(unB F x k)[f]? = some x:=by
 unfold unB; rw [List.getElem?_append_right (by simpa using Nat.le_of_eq h)]; simp [h]
theorem qEq {F:List T} {x y:AV} {k f:Nat} (h:F.length=f):(unB F x k).set f y=unB F y k:=by
 unfold unB; rw [List.set_append_right (h:=by simpa using Nat.le_of_eq h)]; simp [h]
theorem I3 {F:List T} {x:AV} {k j:Nat}:(unB F x k).map (B0 j)=unB F (B0 j x) k:=by
 unfold unB; simp [L1]
theorem Lr {F:List T} {x:AV} {k j:Nat} {r:Bc}:(unB F x k).map (Bi j r)=unB F (Bi j r x) k:=by
 unfold unB; simp [qAa,Bi,frz1,frz0]
theorem Ls {F:List T} {x:AV} {k:Nat} {φ:Nat→Option Nat}:(unB F x k).map (Be φ)=unB F (Be φ x) k:=by
 unfold unB; simp [qHW]
set_option maxHeartbeats 4000000 in
theorem qJQ {Q:AX→St→Prop} (c:B7) (n f:Nat) (hf:f<n) (h8:n≤8) (hm:c.nodes.l.length≤16) (hi:q7d c) (S:T) (F:List T) (hF:F.length=f)
  (CS:List Int) (NS:List Nd) (MS:List (List UInt8))
  (h0:Q (.exit 2) ⟨unE n c S++[(13,.t (tI f)),(39,.t (tI n)),(40,.t (tI f)),(44,.t (A7 c.nodes)),(45,.t (tI c.nodes.l.length)),(46,.t (tI c.nodes.l.length)),(47,.t (tB false))],unH NS.length (unB F (.ls 89 0 c.nodes.l.length none) (n - f - 1))++[(89,.sl 3 1 (Ax CS))]++unG NS MS⟩) :
  ∀ (k i:Nat) (cs:List Int) (ns:List Nd) (ms:List (List UInt8)),k+i=c.nodes.l.length→cs.length=i→ns.length=ms.length→ns.length=f*c.nodes.l.length+i →
  cs++(List.range' i k).map (fun j:Nat=>(f:Int)*c.nodes.l.length+(j:Int))=CS→ns++(c.nodes.l.drop i).map (unN c.nodes.l.length f)=NS→ms++(List.range' i k).map (nmU f)=MS →
  run Tryz.prog Γ Lm Q ⟨unE n c S++[(13,.t (tI f)),(39,.t (tI n)),(40,.t (tI f)),(44,.t (A7 c.nodes)),(45,.t (tI c.nodes.l.length)),(46,.t (tI i))],unH ns.length (unB F (.ls 89 0 i none) (n - f - 1))++[(89,.sl 3 1 (Ax cs))]++unG ns ms⟩
 | 0,i,cs,ns,ms,hk,hc,hnm,hns,hC,hN,hM=>by
  refine Uo fun K hK=>?_
  have h2:i=c.nodes.l.length:=by omega
  subst h2
  rw [List.drop_length] at hN
  simp only [List.range'_zero,List.map_nil,List.append_nil] at hC hN hM
  subst hC
  subst hN
  subst hM
  simp [unE,unH,unG,Ar,tC,A7,A9,Ac,B5] at h0
  simp [unE,unH,unG,Ar,tC,A7,A9,Ac,B5]
  simpa using h0
 | k+1,i,cs,ns,ms,hk,hc,hnm,hns,hC,hN,hM=>by
  refine Uo fun K hK=>?_
  have h2:i<c.nodes.l.length:=by omega
  rw [List.drop_eq_getElem_cons h2] at hN
  rw [List.range'_succ] at hC hM
  simp only [List.map_cons] at hC hN hM
  have e1:(Ao Bt c.nodes.l)[i]?.getD []=Bt c.nodes.l[i]:=by simp [Ao,h2]
  have e1':∀ h,(Ao Bt c.nodes.l)[i]'h=Bt c.nodes.l[i]:=fun h=>by simp [Ao]
  obtain ⟨hx1,hx2⟩:=hi _ (List.getElem_mem h2)
  have hfm:f*c.nodes.l.length≤8*16:=Nat.mul_le_mul (by omega) hm
  have hcm:((f*c.nodes.l.length:Nat):Int)=(f:Int)*c.nodes.l.length:=by simp
  have ih:=qJQ c n f hf h8 hm hi S F hF CS NS MS h0 k (i+1) (cs++[(f:Int)*c.nodes.l.length+(i:Int)]) (ns++[unN c.nodes.l.length f c.nodes.l[i]]) (ms++[nmU f i]) (by omega) (by simp [hc]) (by simp [hnm]) (by simp; omega) (by rw [← hC]; simp) (by rw [← hN]; simp) (by rw [← hM]; simp)
  have em:=q1o (Γ:=Γ) c.nodes.l.length f c.nodes.l[i].inn hx1 ⟨by rw [← hcm]; omega,by rw [← hcm]; omega⟩ hx2
  have en:=q7c (Γ:=Γ) f i (by omega) (by omega)
  have ea:=fun x=>qEn (Γ:=Γ) x (nmU f i) ns ms hnm (by omega) Ar Ar
  have w1:=B8 (i:=i) (by omega)
  have wm:IntKind.i64.wrap ((f:Int)*c.nodes.l.length)=(f:Int)*c.nodes.l.length:=by rw [← hcm]; exact A5 (by omega) (by omega)
  have wm2:IntKind.i64.wrap ((f:Int)*c.nodes.l.length+(i:Int))=(f:Int)*c.nodes.l.length+(i:Int):=by rw [← hcm]; exact A5 (by omega) (by omega)
  have h3:(i:Int)<c.nodes.l.length:=by omega
  have hfn:(f:Int)<n:=by omega
  have vs:=Bz (f:=tI) (l:=cs) (x:=(f:Int)*c.nodes.l.length+(i:Int))
  have vt:(Ax cs).take i=Ax cs:=by rw [← hc]; exact An
  have hBl:∀ x:AV,(unB F x (n - f - 1)).length=n:=fun x=>by rw [qEo]; omega
  have d1:=fun x k=>q9M (x:=x) (k:=k) hF
  have d2:=fun x k=>qCe (x:=x) (k:=k) hF
  have d3:=fun x k=>qAb (x:=x) (k:=k) hF
  have d4:=fun x k=>qEp (x:=x) (k:=k) hF
  have d5:=fun x y k=>qEq (x:=x) (y:=y) (k:=k) hF
  have hfold:∀ x:AV,F.map AV.t++x::List.replicate (n - f - 1) (AV.t (.sl [] (some 0) (some true)))=unB F x (n - f - 1):=fun x=>rfl
  generalize hr:n - f - 1=r at *
  generalize c.nodes.l[i]=x at *
  obtain ⟨xk,xin,xm,xb⟩:=x
  simp only at em ih e1 e1' hx1 hx2
  simp only [Bt] at e1 e1'
  simp only [B5] at e1 e1' em
  have q1:List.idxOf 96009 [9,141,96009,96014]=2:=by decide
  have q2:List.idxOf 96014 [9,141,96009,96014]=3:=by decide
  by_cases hk14:xk=14
  ·by_cases hf0:f=0
   ·have hun:unN c.nodes.l.length f ⟨xk,xin,xm,xb⟩=⟨0,⟨[],some 0,some true⟩,0,0⟩:=by unfold unN; rw [if_pos hk14,if_pos hf0]
    rw [hun] at ih
    have hfz:((f:Int)=0)=True:=eq_true (by omega)
    have hfz':(f=0)=True:=eq_true hf0
    clear hf0
    have ea':=ea ⟨0,⟨[],some 0,some true⟩,0,0⟩
    simp [Bt,B5,Ar,← hnm] at ea'
    simp [unE,unH,unG,Ar,tC,A7,A9,Ac,B5] at ih
    simp [unE,unH,unG,Ar,tC,A7,A9,Ac,B5,Aa,Aq,h2,h3,e1,e1',I3,Lr,Ls]
    refine Ad em rfl ?_
    simp [hk14,hfz,hfz',d1,d2,d3,d4,d5,hBl,wm,wm2,vs,vt,I3,Lr,Ls,hfold,hfn,hf,A0,Aa,hc]
    refine ⟨by omega,by omega,by omega,?_⟩
    refine q1i en rfl ?_
    simp [q1,q2]
    refine ⟨_,_,ea',?_⟩
    simp [I3,Lr,Ls,q1,q2,hc,q0a,w1]
    rw [hK]
    simpa using ih
   ·obtain ⟨f',rfl⟩:∃ f',f=f'+1:=⟨f - 1,by omega⟩
    have hfm':f'*c.nodes.l.length≤8*16:=Nat.mul_le_mul (by omega) hm
    have hcm':((f'*c.nodes.l.length:Nat):Int)=(f':Int)*c.nodes.l.length:=by simp
    have em2:=q1o (Γ:=Γ) c.nodes.l.length f' xin hx1 ⟨by rw [← hcm']; omega,by rw [← hcm']; omega⟩ hx2
    have hun:unN c.nodes.l.length (f'+1) ⟨xk,xin,xm,xb⟩=⟨3,mvS c.nodes.l.length f' xin,0,0⟩:=by
     unfold unN; rw [if_pos hk14,if_neg hf0,show (((f'+1:Nat):Int) - 1)=(f':Int) by omega]
    rw [hun] at ih
    have hw2:IntKind.i64.wrap (((f'+1:Nat):Int) - 1)=(f':Int):=by rw [show (((f'+1:Nat):Int) - 1)=(f':Int) by omega]; exact A5 (by omega) (by omega)
    have hz:((((f'+1:Nat):Int))=0)=False:=eq_false (by omega)
    generalize hff:f'+1=f at *
    have hz':(f=0)=False:=eq_false (by omega)
    simp only [B5] at em2
    have ea':=ea ⟨3,mvS c.nodes.l.length f' xin,0,0⟩
    simp [Bt,B5,Ar,← hnm] at ea'
    simp [unE,unH,unG,Ar,tC,A7,A9,Ac,B5] at ih
    simp [unE,unH,unG,Ar,tC,A7,A9,Ac,B5,Aa,Aq,h2,h3,e1,e1',I3,Lr,Ls]
    refine Ad em rfl ?_
    simp [hk14,hz,hz',hw2,d1,d2,d3,d4,d5,hBl,wm,wm2,vs,vt,I3,Lr,Ls,hfold,hfn,hf,A0,Aa,hc]
    refine Ad em2 rfl ?_
    simp [hk14,hz,hz',hw2,d1,d2,d3,d4,d5,hBl,wm,wm2,vs,vt,I3,Lr,Ls,hfold,hfn,hf,A0,Aa,hc]
    refine ⟨by omega,by omega,by omega,?_⟩
    refine q1i en rfl ?_
    simp [q1,q2]
    refine ⟨_,_,ea',?_⟩
    simp [I3,Lr,Ls,q1,q2,hc,q0a,w1]
    rw [hK]
    simpa using ih
  ·have hun:unN c.nodes.l.length f ⟨xk,xin,xm,xb⟩=⟨xk,mvS c.nodes.l.length f xin,0,0⟩:=by unfold unN; rw [if_neg hk14]
   rw [hun] at ih
   have ea':=ea ⟨xk,mvS c.nodes.l.length f xin,0,0⟩
   simp [Bt,B5,Ar,← hnm] at ea'
   simp [unE,unH,unG,Ar,tC,A7,A9,Ac,B5] at ih
   simp [unE,unH,unG,Ar,tC,A7,A9,Ac,B5,Aa,Aq,h2,h3,e1,e1',I3,Lr,Ls]
   refine Ad em rfl ?_
   simp [hk14,d1,d2,d3,d4,d5,hBl,wm,wm2,vs,vt,I3,Lr,Ls,hfold,hfn,hf,A0,Aa,hc]
   refine ⟨by omega,by omega,by omega,?_⟩
   refine q1i en rfl ?_
   simp [q1,q2]
   refine ⟨_,_,ea',?_⟩
   simp [I3,Lr,Ls,q1,q2,hc,q0a,w1]
   rw [hK]
   simpa using ih
def frU (many f:Nat):List Int:=(List.range many).map fun j:Nat=>(f:Int)*many+(j:Int)
theorem qBF {many f:Nat}:(frU many f).length=many:=by simp [frU]
def frT (many f:Nat):T:=.sl (Ax (frU many f)) (some many) none
def Oo (many n:Nat):List T:=(List.range n).map (frT many)
theorem q3L {many n:Nat}:(Oo many n).length=n:=by simp [Oo]
theorem qFm {many n:Nat}:Oo many (n+1)=Oo many n++[frT many n]:=by simp [Oo,List.range_succ]
def q1p (c:B7) (n:Nat):List Nd:=(List.range n).flatMap fun f=>c.nodes.l.map (unN c.nodes.l.length f)
def q2P (many n:Nat):List (List UInt8):=(List.range n).flatMap fun f=>(List.range many).map (nmU f)
theorem qAc {c:B7} {n:Nat}:q1p c (n+1)=q1p c n++c.nodes.l.map (unN c.nodes.l.length n):=by simp [q1p,List.range_succ]
theorem q76 {many n:Nat}:q2P many (n+1)=q2P many n++(List.range many).map (nmU n):=by simp [q2P,List.range_succ]
theorem J3 {c:B7}:∀ {n:Nat},(q1p c n).length=n*c.nodes.l.length
 | 0=>by simp [q1p]
 | n+1=>by rw [qAc,List.length_append,J3 (n:=n),List.length_map,Nat.succ_mul]
theorem Yj {many:Nat}:∀ {n:Nat},(q2P many n).length=n*many
 | 0=>by simp [q2P]
 | n+1=>by rw [q76,List.length_append,Yj (n:=n),List.length_map,List.length_range,Nat.succ_mul]
theorem qHX {F:List T} {k:Nat}:unB F (.t (.sl [] (some 0) (some true))) k=F.map .t++List.replicate (k+1) (.t (.sl [] (some 0) (some true))):=by simp [unB,List.replicate_succ]
theorem qHY {F:List T} {t:T} {k:Nat}:unB F (.t t) k=(F++[t]).map .t++List.replicate k (.t (.sl [] (some 0) (some true))):=by simp [unB]
set_option maxHeartbeats 4000000 in
theorem qJR {Q:AX→St→Prop} (c:B7) (n:Nat) (h8:n≤8) (hm:c.nodes.l.length≤16) (hi:q7d c) (S:T)
  (h0:Q (.exit 0) ⟨unE n c S++[(39,.t (tI n)),(40,.t (tI n)),(41,.t (tB false))],unH (n*c.nodes.l.length) ((Oo c.nodes.l.length n).map .t)++unG (q1p c n) (q2P c.nodes.l.length n)⟩) :
  ∀ (k f:Nat),k+f=n →
  run Tryz.prog Γ Ln Q ⟨unE n c S++[(39,.t (tI n)),(40,.t (tI f))],unH (f*c.nodes.l.length) ((Oo c.nodes.l.length f).map .t++List.replicate k (.t (.sl [] (some 0) (some true))))++unG (q1p c f) (q2P c.nodes.l.length f)⟩
 | 0,f,hk=>by
  refine Up fun K hK=>?_
  have h2:f=n:=by omega
  subst h2
  simp [unE,unH,unG,Ar,tC,A7,A9,Ac,B5] at h0
  simp [unE,unH,unG,Ar,tC,A7,A9,Ac,B5]
  simpa using h0
 | k+1,f,hk=>by
  refine Up fun K hK=>?_
  have hf:f<n:=by omega
  have hfn:(f:Int)<n:=by omega
  have hF:(Oo c.nodes.l.length f).length=f:=q3L
  have hr:n - f - 1=k:=by omega
  have g:=fun Q h0=>qJQ (Γ:=Γ) (Q:=Q) c n f hf h8 hm hi S (Oo c.nodes.l.length f) hF (frU c.nodes.l.length f) (q1p c (f+1)) (q2P c.nodes.l.length (f+1)) h0 c.nodes.l.length 0 [] (q1p c f) (q2P c.nodes.l.length f) (by omega) rfl (by rw [J3,Yj]) (by rw [J3]; rfl) (by simp [frU,List.range_eq_range']) (by rw [qAc]; simp) (by rw [q76,List.range_eq_range'])
  have ih:=qJR c n h8 hm hi S h0 k (f+1) (by omega)
  rw [hr] at g
  rw [qFm] at ih
  have l1:(q1p c (f+1)).length=(f+1)*c.nodes.l.length:=J3
  have l0:(q1p c f).length=f*c.nodes.l.length:=J3
  have hcl:=q5i (Γ:=Γ) (Ax (frU c.nodes.l.length f)) none none A8
  rw [A0,qBF] at hcl
  have ht:(Ax (frU c.nodes.l.length f)).take c.nodes.l.length=Ax (frU c.nodes.l.length f):=List.take_of_length_le (by rw [A0,qBF]; omega)
  have d1:=fun x k=>q9M (x:=x) (k:=k) hF
  have d2:=fun x k=>qCe (x:=x) (k:=k) hF
  have d3:=fun x k=>qAb (x:=x) (k:=k) hF
  have d4:=fun x k=>qEp (x:=x) (k:=k) hF
  have d5:=fun x y k=>qEq (x:=x) (y:=y) (k:=k) hF
  have d6:∀ x k (h:f<(unB (Oo c.nodes.l.length f) x k).length),(unB (Oo c.nodes.l.length f) x k)[f]'h=x:=fun x k h=>by have:=d4 x k; rw [List.getElem?_eq_getElem h] at this; exact Option.some.inj this
  have hBl:∀ x:AV,(unB (Oo c.nodes.l.length f) x k).length=n:=fun x=>by rw [qEo,hF]; omega
  have w1:=B8 (i:=f) (by omega)
  rw [l1,l0] at g
  unfold frT at ih
  generalize frU c.nodes.l.length f=FR at *
  generalize Oo c.nodes.l.length f=F at *
  generalize q1p c (f+1)=NS at *
  generalize q2P c.nodes.l.length (f+1)=MS at *
  generalize q1p c f=ns at *
  generalize q2P c.nodes.l.length f=ms at *
  rw [← qHY] at ih
  rw [← qHX]
  have hfold:∀ x:AV,F.map AV.t++x::List.replicate k (AV.t (.sl [] (some 0) (some true)))=unB F x k:=fun x=>rfl
  simp [unE,unH,unG,Ar,tC,A7,A9,Ac,B5,By] at g
  simp [unE,unH,unG,Ar,tC,A7,A9,Ac,B5] at ih
  simp [unE,unH,unG,Ar,tC,A7,A9,Ac,B5,hfn,hf,d1,d2,d3,d4,d5,d6,hBl,I3,Lr,Ls,hfold,Aa]
  refine g _ ?_
  simp [St.freeze,Bc.closed,Bi,frz1,frz0,Dq,del,Aj,ht,hfn,hf,d1,d2,d3,d4,d5,d6,hBl,I3,Lr,Ls,hfold,Aa]
  refine ⟨by omega,?_⟩
  refine Ad hcl rfl ?_
  simp [hfn,hf,d1,d2,d3,d4,d5,d6,hBl,I3,Lr,Ls,hfold,Aa,w1]
  refine ⟨by omega,?_⟩
  rw [hK]
  simpa using ih
def q4X (c:B7) (n:Nat) (i:Nat):Nd:=⟨3,mvS c.nodes.l.length ((n:Int) - 1) (c.nodes.l.getD i ⟨0,⟨[],none,none⟩,0,0⟩).inn,0,0⟩
set_option maxHeartbeats 4000000 in
theorem qJS {Q:AX→St→Prop} (c:B7) (n:Nat) (h1:1≤n) (h8:n≤8) (hm:c.nodes.l.length≤16) (hi:q7d c) (L:List Nat) (cap:Option Nat) (nl:Option Bool) (hL:∀ i ∈ L,i<c.nodes.l.length) (hLl:L.length≤16) (F:List T)
  (NS:List Nd) (MS:List (List UInt8))
  (h0:Q (.exit 4) ⟨unE n c (.sl (Ax (L.map fun i:Nat=>(i:Int))) cap nl)++[(107,.t (.sl (Ax (L.map fun i:Nat=>(i:Int))) cap nl)),(108,.t (tI L.length)),(109,.t (tI L.length)),(110,.t (tB false))],unH NS.length (F.map .t)++unG NS MS⟩) :
  ∀ (k j:Nat) (ns:List Nd) (ms:List (List UInt8)),k+j=L.length→ns.length=ms.length→ns.length≤1000+j →
  ns++(L.drop j).map (q4X c n)=NS→ms++(L.drop j).map (nmU n)=MS →
  run Tryz.prog Γ Lo Q ⟨unE n c (.sl (Ax (L.map fun i:Nat=>(i:Int))) cap nl)++[(107,.t (.sl (Ax (L.map fun i:Nat=>(i:Int))) cap nl)),(108,.t (tI L.length)),(109,.t (tI j))],unH ns.length (F.map .t)++unG ns ms⟩
 | 0,j,ns,ms,hk,hnm,hns,hN,hM=>by
  refine Ur fun K hK=>?_
  have h2:j=L.length:=by omega
  subst h2
  rw [List.drop_length] at hN hM
  simp only [List.map_nil,List.append_nil] at hN hM
  subst hN
  subst hM
  simp [unE,unH,unG,Ar,tC,A7,A9,Ac,B5] at h0
  simp [unE,unH,unG,Ar,tC,A7,A9,Ac,B5]
  simpa using h0
 | k+1,j,ns,ms,hk,hnm,hns,hN,hM=>by
  refine Ur fun K hK=>?_
  have h2:j<L.length:=by omega
  rw [List.drop_eq_getElem_cons h2] at hN hM
  simp only [List.map_cons] at hN hM
  have h2':j<(L.map fun i:Nat=>(i:Int)).length:=by simpa using h2
  have e2:=gE (f:=tI) 0 h2'
  have e2':=gE' (f:=tI) 0 h2'
  rw [show (L.map fun i:Nat=>(i:Int)).getD j 0=(L[j]:Int) by simp [List.getD_eq_getElem?_getD,h2]] at e2 e2'
  have hlt:=hL _ (List.getElem_mem h2)
  generalize L[j]=i at *
  have e1:(Ao Bt c.nodes.l)[i]?.getD []=Bt c.nodes.l[i]:=by simp [Ao,hlt]
  have e1':∀ h,(Ao Bt c.nodes.l)[i]'h=Bt c.nodes.l[i]:=fun h=>by simp [Ao]
  obtain ⟨hx1,hx2⟩:=hi _ (List.getElem_mem hlt)
  obtain ⟨m,rfl⟩:∃ m,n=m+1:=⟨n - 1,by omega⟩
  have hcc:(((m+1:Nat):Int) - 1)=(m:Int):=by omega
  have hfm:m*c.nodes.l.length≤8*16:=Nat.mul_le_mul (by omega) hm
  have hcm:((m*c.nodes.l.length:Nat):Int)=(m:Int)*c.nodes.l.length:=by simp
  have ih:=qJS c (m+1) h1 h8 hm hi L cap nl hL hLl F NS MS h0 k (j+1) (ns++[q4X c (m+1) i]) (ms++[nmU (m+1) i]) (by omega) (by simp [hnm]) (by simp; omega) (by rw [← hN]; simp) (by rw [← hM]; simp)
  have em:=q1o (Γ:=Γ) c.nodes.l.length m c.nodes.l[i].inn hx1 ⟨by rw [← hcm]; omega,by rw [← hcm]; omega⟩ hx2
  have en:=q7c (Γ:=Γ) (m+1) i (by omega) (by omega)
  have hlU:q4X c (m+1) i=⟨3,mvS c.nodes.l.length m c.nodes.l[i].inn,0,0⟩:=by
   unfold q4X; rw [hcc,show c.nodes.l.getD i ⟨0,⟨[],none,none⟩,0,0⟩=c.nodes.l[i] by simp [List.getD_eq_getElem?_getD,hlt]]
  have ea:=qEn (Γ:=Γ) (q4X c (m+1) i) (nmU (m+1) i) ns ms hnm (by omega) Ar Ar
  rw [hlU] at ih ea
  have w1:=B8 (i:=j) (by omega)
  have w2:IntKind.i64.wrap (((m+1:Nat):Int) - 1)=(m:Int):=by rw [hcc]; exact A5 (by omega) (by omega)
  have h3:(j:Int)<L.length:=by omega
  have h4:(i:Int)<c.nodes.l.length:=by omega
  generalize c.nodes.l[i]=x at *
  obtain ⟨xk,xin,xm,xb⟩:=x
  simp only at em ih e1 e1' hx1 hx2 ea
  simp only [Bt] at e1 e1'
  simp only [B5] at e1 e1' em
  have q1:List.idxOf 96009 [9,141,96009,96014]=2:=by decide
  have q2:List.idxOf 96014 [9,141,96009,96014]=3:=by decide
  simp [Bt,B5,Ar,← hnm] at ea
  simp [unE,unH,unG,Ar,tC,A7,A9,Ac,B5] at ih
  simp at w2 en
  simp [unE,unH,unG,Ar,tC,A7,A9,Ac,B5,Aa,A0,A8,Aq,h2,h3,hlt,h4,e1,e1',e2,e2',w2]
  refine Ad em rfl ?_
  simp
  refine A3 en rfl ?_
  simp [q1,q2]
  refine ⟨_,_,ea,?_⟩
  simp [q1,q2,q0a,w1,L1,qHW]
  rw [hK]
  simpa [L1,qHW] using ih
def q77 (many n f:Nat):Nat→List Nat→List Int
 | _,[]=>[]
 | k,i::is=>(if f+1=n then (n:Int)*many+(k:Int) else ((f:Int)+1)*many+(i:Int))::q77 many n f (k+1) is
theorem q6I {many n f:Nat}:∀ {L:List Nat} {k:Nat},(q77 many n f k L).length=L.length
 | [],_=>rfl
 | i::is,k=>by simp [q77,q6I (L:=is)]
def q7e (c:B7) (n:Nat) (L:List Nat) (f:Nat):List Int:=mvL c.nodes.l.length f c.outs.l++q77 c.nodes.l.length n f 0 L
def Nu (c:B7) (n:Nat) (L:List Nat) (f:Nat):List Int:=(List.range f).flatMap (q7e c n L)
theorem q9N {c:B7} {n:Nat} {L:List Nat} {f:Nat}:Nu c n L (f+1)=Nu c n L f++q7e c n L f:=by simp [Nu,List.range_succ]
theorem q78 {c:B7} {n:Nat} {L:List Nat}:∀ {f:Nat},(Nu c n L f).length=f*(c.outs.l.length+L.length)
 | 0=>by simp [Nu]
 | f+1=>by rw [q9N,List.length_append,q78 (f:=f),Nat.succ_mul]; simp [q7e,K2,q6I]
def Uu (L:List Nat):List Int:=L.map fun i:Nat=>(i:Int)
theorem q3f {L:List Nat}:(Uu L).length=L.length:=by simp [Uu]
def q3w (n:Nat) (c:B7) (S:T):List (Nat × AV):=[(1,.t (tI n)),(2,.t (.ip (tC c) 0)),(4,.lp 4 0 0),(7,.t (.ip [tI c.nodes.l.length] 0)),(8,.t S),(9,.lp 9 0 0),(11,.t (.fn 69 [.ip [tI c.nodes.l.length] 0])),(12,.lb 38 n)]
def q3x (k m:Nat) (F:List T) (OS:List Int) (NS:List Nd) (MS:List (List UInt8)):List (Nat × Bc):=[(4,.bx [.t Ar,.t Ar,.t Ar,.t Ar,.t Ar]),(9,.bx [.ls 96009 0 k none,.ls 96014 0 k none,.t Ar,.ls 141 0 m none]),(38,.bx (F.map .t)),(141,.sl 3 1 (Ax OS)),(96009,.sl 45 4 (Ao Bt NS)),(96014,.sl 9 1 (Af tS MS))]
set_option maxHeartbeats 4000000 in
theorem qHZ {Q:AX→St→Prop} (c:B7) (n f:Nat) (hf:f<n) (h8:n≤8) (hm:c.nodes.l.length≤16) (L:List Nat) (cap:Option Nat) (nl:Option Bool) (S:T) (hL:∀ i ∈ L,i<16) (hLl:L.length≤16) (F:List T) (kk:Nat) (NS:List Nd) (MS:List (List UInt8)) (OS:List Int)
  (h0:Q (.exit 8) ⟨q3w n c S++[(19,.t (tI f)),(130,.t (tI n)),(131,.t (tI f)),(143,.t (.sl (Ax (Uu L)) cap nl)),(144,.t (tI L.length)),(145,.t (tI L.length)),(146,.t (tB false))],q3x kk OS.length F OS NS MS⟩) :
  ∀ (q j:Nat) (os:List Int),q+j=L.length→os.length≤100000+j→os++q77 c.nodes.l.length n f j (L.drop j)=OS →
  run Tryz.prog Γ Lp Q ⟨q3w n c S++[(19,.t (tI f)),(130,.t (tI n)),(131,.t (tI f)),(143,.t (.sl (Ax (Uu L)) cap nl)),(144,.t (tI L.length)),(145,.t (tI j))],q3x kk os.length F os NS MS⟩
 | 0,j,os,hk,ho,hO=>by
  refine Us fun K hK=>?_
  have h2:j=L.length:=by omega
  subst h2
  rw [List.drop_length] at hO
  simp only [q77,List.append_nil] at hO
  subst hO
  simp [q3w,q3x,Ar,tC,A7,A9,Ac,B5] at h0
  simp [q3w,q3x,Ar,tC,A7,A9,Ac,B5]
  simpa using h0
 | q+1,j,os,hk,ho,hO=>by
  refine Us fun K hK=>?_
  have h2:j<L.length:=by omega
  rw [List.drop_eq_getElem_cons h2] at hO
  simp only [q77] at hO
  have h2':j<(Uu L).length:=by rw [q3f]; exact h2
  have e2:=gE (f:=tI) 0 h2'
  have e2':=gE' (f:=tI) 0 h2'
  rw [show (Uu L).getD j 0=(L[j]:Int) by simp [Uu,List.getD_eq_getElem?_getD,h2]] at e2 e2'
  have hlt:=hL _ (List.getElem_mem h2)
  generalize L[j]=i at *
  have hfm:(f+1)*c.nodes.l.length≤8*16:=Nat.mul_le_mul (by omega) hm
  have hnm:n*c.nodes.l.length≤8*16:=Nat.mul_le_mul (by omega) hm
  have c1:(((f+1)*c.nodes.l.length:Nat):Int)=((f:Int)+1)*c.nodes.l.length:=by simp
  have c2:((n*c.nodes.l.length:Nat):Int)=(n:Int)*c.nodes.l.length:=by simp
  have w1:=B8 (i:=j) (by omega)
  have wf:=B8 (i:=f) (by omega)
  have w2:IntKind.i64.wrap (((f:Int)+1)*c.nodes.l.length)=((f:Int)+1)*c.nodes.l.length:=by rw [← c1]; exact A5 (by omega) (by omega)
  have w3:IntKind.i64.wrap (((f:Int)+1)*c.nodes.l.length+(i:Int))=((f:Int)+1)*c.nodes.l.length+(i:Int):=by rw [← c1]; exact A5 (by omega) (by omega)
  have w4:IntKind.i64.wrap ((n:Int) - 1)=(n:Int) - 1:=A5 (by omega) (by omega)
  have w5:IntKind.i64.wrap ((n:Int)*c.nodes.l.length)=(n:Int)*c.nodes.l.length:=by rw [← c2]; exact A5 (by omega) (by omega)
  have w6:IntKind.i64.wrap ((n:Int)*c.nodes.l.length+(j:Int))=(n:Int)*c.nodes.l.length+(j:Int):=by rw [← c2]; exact A5 (by omega) (by omega)
  have h3:(j:Int)<L.length:=by omega
  have hl1:(Uu L).length=L.length:=q3f
  have vt:(Ax os).take os.length=Ax os:=An
  by_cases hfn:f+1=n
  ·rw [if_pos hfn] at hO
   have ih:=qHZ c n f hf h8 hm L cap nl S hL hLl F kk NS MS OS h0 q (j+1) (os++[(n:Int)*c.nodes.l.length+(j:Int)]) (by omega) (by simp; omega) (by rw [← hO]; simp)
   have vs:=Bz (f:=tI) (l:=os) (x:=(n:Int)*c.nodes.l.length+(j:Int))
   have hz:((f:Int)=(n:Int) - 1)=True:=eq_true (by omega)
   clear hfn
   simp [q3w,q3x,Ar,tC,A7,A9,Ac,B5] at ih
   simp [q3w,q3x,Ar,tC,A7,A9,Ac,B5,A0,A8,hl1,h2,h3,e2,e2',w1,wf,w2,w3,w4,w5,w6,hz,vt,vs]
   refine ⟨by omega,?_⟩
   rw [hK]
   simpa [L1] using ih
  ·rw [if_neg hfn] at hO
   have ih:=qHZ c n f hf h8 hm L cap nl S hL hLl F kk NS MS OS h0 q (j+1) (os++[((f:Int)+1)*c.nodes.l.length+(i:Int)]) (by omega) (by simp; omega) (by rw [← hO]; simp)
   have vs:=Bz (f:=tI) (l:=os) (x:=((f:Int)+1)*c.nodes.l.length+(i:Int))
   have hz:((f:Int)=(n:Int) - 1)=False:=eq_false (by omega)
   clear hfn
   simp [q3w,q3x,Ar,tC,A7,A9,Ac,B5] at ih
   simp [q3w,q3x,Ar,tC,A7,A9,Ac,B5,A0,A8,hl1,h2,h3,e2,e2',w1,wf,w2,w3,w4,w5,w6,hz,vt,vs]
   refine ⟨by omega,?_⟩
   rw [hK]
   simpa [L1] using ih
set_option maxHeartbeats 4000000 in
theorem qJT {Q:AX→St→Prop} (c:B7) (n:Nat) (h8:n≤8) (hm:c.nodes.l.length≤16) (hO1:c.outs.l.length≤1000) (hO2:∀ k ∈ c.outs.l,0≤k∧k≤1000000) (L:List Nat) (cap:Option Nat) (nl:Option Bool) (hL:∀ i ∈ L,i<16) (hLl:L.length≤16) (F:List T) (kk:Nat) (NS:List Nd) (MS:List (List UInt8))
  (h0:Q (.exit 6) ⟨q3w n c (.sl (Ax (Uu L)) cap nl)++[(130,.t (tI n)),(131,.t (tI n)),(132,.t (tB false))],q3x kk (Nu c n L n).length F (Nu c n L n) NS MS⟩) :
  ∀ (q f:Nat),q+f=n →
  run Tryz.prog Γ Lq Q ⟨q3w n c (.sl (Ax (Uu L)) cap nl)++[(130,.t (tI n)),(131,.t (tI f))],q3x kk (Nu c n L f).length F (Nu c n L f) NS MS⟩
 | 0,f,hk=>by
  refine Ut fun K hK=>?_
  have h2:f=n:=by omega
  subst h2
  simp [q3w,q3x,Ar,tC,A7,A9,Ac,B5] at h0
  simp [q3w,q3x,Ar,tC,A7,A9,Ac,B5]
  simpa using h0
 | q+1,f,hk=>by
  refine Ut fun K hK=>?_
  have hf:f<n:=by omega
  have hfn:(f:Int)<n:=by omega
  have hfm:f*c.nodes.l.length≤8*16:=Nat.mul_le_mul (by omega) hm
  have hcm:((f*c.nodes.l.length:Nat):Int)=(f:Int)*c.nodes.l.length:=by simp
  have em:=q1o (Γ:=Γ) c.nodes.l.length f c.outs (by omega) ⟨by rw [← hcm]; omega,by rw [← hcm]; omega⟩ hO2
  have hol:(Nu c n L f).length≤8*1016:=by rw [q78]; exact Nat.mul_le_mul (by omega) (by omega)
  have hml:(mvL c.nodes.l.length f c.outs.l).length≤1000:=by rw [K2]; exact hO1
  have g:=fun Q h0=>qHZ (Γ:=Γ) (Q:=Q) c n f hf h8 hm L cap nl (.sl (Ax (Uu L)) cap nl) hL hLl F kk NS MS (Nu c n L (f+1)) h0 L.length 0 (Nu c n L f++mvL c.nodes.l.length f c.outs.l) (by omega) (by simp; omega) (by rw [q9N]; simp [q7e])
  have ih:=qJT c n h8 hm hO1 hO2 L cap nl hL hLl F kk NS MS h0 q (f+1) (by omega)
  have w1:=B8 (i:=f) (by omega)
  have vs:Ax (Nu c n L f)++Ax (mvL c.nodes.l.length f c.outs.l)=Ax (Nu c n L f++mvL c.nodes.l.length f c.outs.l):=q5e
  unfold mvS at em
  generalize Nu c n L (f+1)=O2 at *
  generalize Nu c n L f=O1 at *
  generalize mvL c.nodes.l.length f c.outs.l=M at *
  have vt:(Ax O1).take O1.length=Ax O1:=An
  have hl1:(Uu L).length=L.length:=q3f
  simp [B5] at em
  simp [q3w,q3x,Ar,tC,A7,A9,Ac,B5] at g
  simp [q3w,q3x,Ar,tC,A7,A9,Ac,B5] at ih
  simp [q3w,q3x,Ar,tC,A7,A9,Ac,B5,hfn,hf,A0,A8]
  refine Ad em rfl ?_
  simp [hfn,hf,A0,A8,vt,vs,hl1]
  refine ⟨by omega,?_⟩
  refine g _ ?_
  simp [w1]
  rw [hK]
  simpa using ih
theorem qIg {hp:List (Nat × Bc)} {n:Nat}:Aj hp (n+1) ∘ AV.t=some:=rfl
theorem qAd {α:Type}:∀ {l:List α},Ai (l.map some)=some l
 | []=>rfl
 | a::l=>by simp [Ai,qAd (l:=l)]
def stN (c:B7):List Nat:=(Ag c).map Int.toNat
theorem qKc {c:B7} (h:∀ x ∈ Ag c,0≤x∧x<c.nodes.l.length):Uu (stN c)=Ag c:=by
 unfold Uu stN
 rw [List.map_map]
 conv=>rhs; rw [← List.map_id (Ag c)]
 refine List.map_congr_left fun x hx=>?_
 have:=h x hx
 simp; omega
theorem Qk {c:B7}:(stN c).length=(Ag c).length:=by simp [stN]
theorem qKd {c:B7} (h:∀ x ∈ Ag c,0≤x∧x<c.nodes.l.length):∀ i ∈ stN c,i<c.nodes.l.length:=fun i hi=>by
 obtain ⟨x,hx,rfl⟩:=List.mem_map.1 hi
 have:=h x hx
 omega
def Fe (c:B7) (n:Nat):List Nd:=q1p c n++(stN c).map (q4X c n)
def J4 (c:B7) (n:Nat):List (List UInt8):=q2P c.nodes.l.length n++(stN c).map (nmU n)
def Gf (c:B7) (n:Nat):List Int:=Nu c n (stN c) n
theorem L2 {c:B7} {n:Nat}:(Fe c n).length=n*c.nodes.l.length+(Ag c).length:=by simp [Fe,J3,Qk]
theorem q1H {c:B7} {n:Nat}:(J4 c n).length=n*c.nodes.l.length+(Ag c).length:=by simp [J4,Yj,Qk]
theorem q1I {c:B7} {n:Nat}:(Gf c n).length=n*(c.outs.l.length+(Ag c).length):=by simp [Gf,q78,Qk]
def tFr (c:B7) (n:Nat):List T:=[.sl (Ao Bt (Fe c n)) (some (Fe c n).length) none,.sl (Af tS (J4 c n)) (some (J4 c n).length) none,Ar,.sl (Ax (Gf c n)) (some (Gf c n).length) none,.sl ((Oo c.nodes.l.length n).map fun t=>[t]) (some n) none]
set_option maxHeartbeats 4000000 in
theorem q7f (hΓ:GOk Γ) (c:B7) (hc:NOk c) (hi:q7d c) (ho:c.outs.l.length≤16) (hO2:∀ k ∈ c.outs.l,0≤k∧k≤1000000) (hs:∀ x ∈ Ag c,0≤x∧x<c.nodes.l.length) (n:Nat) (h1:1≤n) (h8:n≤8) :
  Ae Tryz.prog Γ 17 [.agg (tC c),tI n] (.tup [.agg (tFr c n),tI 0]):=by
 refine B1 q6D rfl ?_
 have hsl:=C5 c
 have hm:=hc.n2
 have e1:=q6H hΓ c hc ho n h1 h8
 have e2:=Ek (Γ:=Γ) c hc.ok
 have hsN:=qKc hs
 have hL:=qKd hs
 have hLl:(stN c).length≤16:=by rw [Qk]; omega
 have hnl:n*c.nodes.l.length≤8*16:=Nat.mul_le_mul h8 hm
 have g3:=fun Q S h0=>qJR (Γ:=Γ) (Q:=Q) c n h8 hm hi S h0 n 0 (by omega)
 have g5:=fun Q cap nl h0=>qJS (Γ:=Γ) (Q:=Q) c n h1 h8 hm hi (stN c) cap nl hL hLl (Oo c.nodes.l.length n) (Fe c n) (J4 c n) h0 (stN c).length 0 (q1p c n) (q2P c.nodes.l.length n) (by omega) (by rw [J3,Yj]) (by rw [J3]; omega) (by simp [Fe]) (by simp [J4])
 have g9:=fun Q cap nl kk h0=>qJT (Γ:=Γ) (Q:=Q) c n h8 hm (by omega) hO2 (stN c) cap nl (fun i hi=>by have:=hL i hi; omega) hLl (Oo c.nodes.l.length n) kk (Fe c n) (J4 c n) h0 n 0 (by omega)
 have lF:(Oo c.nodes.l.length n).length=n:=q3L
 have lN:(q1p c n).length=n*c.nodes.l.length:=J3
 have lNX:=L2 (c:=c) (n:=n)
 have lMX:=q1H (c:=c) (n:=n)
 have k1:=qFg (Γ:=Γ) (Ao Bt (Fe c n)) none none Aq
 have k2:=qCO (Γ:=Γ) (Af tS (J4 c n)) none none A8
 have k3:=q5i (Γ:=Γ) (Ax (Gf c n)) none none A8
 rw [Aa] at k1
 rw [A0] at k2 k3
 rw [← hsN] at e2
 unfold tFr
 have z0:q1p c 0=[]:=rfl
 have z1:q2P c.nodes.l.length 0=[]:=rfl
 have z2:Oo c.nodes.l.length 0=[]:=rfl
 have z3:Nu c n (stN c) 0=[]:=rfl
 have fo:Nu c n (stN c) n=Gf c n:=rfl
 rw [fo,z3] at g9
 rw [z0,z1,z2] at g3
 rw [lN] at g5
 have hce:(List.map (fun i:Nat=>(i:Int)) (stN c))=Uu (stN c):=rfl
 rw [hce] at g5
 have ht1:(Ao Bt (Fe c n)).take (n*c.nodes.l.length+(Ag c).length)=Ao Bt (Fe c n):=by rw [← lNX]; exact q9Y
 have ht2:(Af tS (J4 c n)).take (n*c.nodes.l.length+(Ag c).length)=Af tS (J4 c n):=by rw [← lMX]; exact An
 have ht3:(Ax (Gf c n)).take (Gf c n).length=Ax (Gf c n):=An
 rw [lNX] at g5
 have lXX:(Fe c n).length=(J4 c n).length:=by rw [lNX,lMX]
 have hSl:(Uu (stN c)).length=(stN c).length:=q3f
 generalize Fe c n=NX at *
 generalize J4 c n=MX at *
 generalize Gf c n=OX at *
 generalize q1p c n=N0 at *
 generalize q2P c.nodes.l.length n=M0 at *
 generalize Oo c.nodes.l.length n=F at *
 generalize Uu (stN c)=SL at *
 simp [tC,A7,A9,Ac,B5] at e1 e2
 simp [unE,unH,unG,Ar,tC,A7,A9,Ac,B5,By,qAY] at g3
 simp [unE,unH,unG,Ar,tC,A7,A9,Ac,B5] at g5
 simp [q3w,q3x,Ar,tC,A7,A9,Ac,B5,By] at g9
 simp [q1A,tC,A7,A9,Ac,B5]
 refine Ad e1 rfl ?_
 simp
 refine Eh e2 rfl ?_
 simp [Aa,St.freeze,Bc.closed,Bi,frz1,frz0,Dq,del,Aj]
 refine ⟨by omega,?_⟩
 refine g3 _ _ ?_
 simp [A0,hSl]
 refine g5 _ _ _ ?_
 simp
 refine g9 _ _ _ _ ?_
 simp [St.freeze,Bc.closed,Bi,frz1,frz0,Dq,del,Aj,ht1,ht2,ht3,L1,qAa,Aa,A0]
 refine Eh k1 rfl ?_
 simp
 refine Eh k2 rfl ?_
 simp
 refine Eh k3 rfl ?_
 have hF2:∀ hp:List (Nat × Bc),Ai (F.map (Aj hp 2 ∘ B0 9 ∘ AV.t))=some F:=fun hp=>by
  rw [L1,qIg]; exact qAd
 simp [q1B,lF,Ar,hF2,Ai]
end Go.Lg
namespace Go.Lg
open Go Go.Proofs
theorem qHa {α:Type} {g:Nat→List α} {m:Nat}:∀ {n:Nat},(∀ f,f<n→(g f).length=m)→((List.range n).flatMap g).length=n*m
 | 0,_=>by simp
 | n+1,h=>by
  rw [List.range_succ,List.flatMap_append,List.length_append,qHa (n:=n) fun f hf=>h f (by omega),Nat.succ_mul]
  simp [h n (by omega)]
theorem q9O {α:Type} {g:Nat→List α} {m:Nat}:∀ {n:Nat},(∀ f,f<n→(g f).length=m)→∀ {f i:Nat},f<n→i<m→((List.range n).flatMap g)[f*m+i]? = (g f)[i]?
 | 0,_,f,i,hf,hi=>by omega
 | n+1,h,f,i,hf,hi=>by
  have hl:=qHa (n:=n) fun f hf=>h f (by omega)
  rw [List.range_succ,List.flatMap_append]
  by_cases e:f<n
  ·have:f*m+i<n*m:=by
    have:=Nat.mul_le_mul_right m (show f+1≤n by omega)
    rw [Nat.succ_mul] at this
    omega
   rw [List.getElem?_append_left (by rw [hl]; exact this)]
   exact q9O (n:=n) (fun f hf=>h f (by omega)) e hi
  ·have e':f=n:=by omega
   subst e'
   rw [List.getElem?_append_right (by rw [hl]; omega),hl]
   simp
theorem qBG {c:B7} {n f i:Nat} (hf:f<n) (hi:i<c.nodes.l.length):(Fe c n)[f*c.nodes.l.length+i]? = some (unN c.nodes.l.length f c.nodes.l[i]):=by
 have hj:f*c.nodes.l.length+i<n*c.nodes.l.length:=by
  have:=Nat.mul_le_mul_right c.nodes.l.length (show f+1≤n by omega)
  rw [Nat.succ_mul] at this
  omega
 unfold Fe
 rw [List.getElem?_append_left (by rw [J3]; exact hj)]
 unfold q1p
 rw [q9O (m:=c.nodes.l.length) (fun f _=>by simp) hf hi]
 simp [hi]
theorem qAe {c:B7} {n k:Nat} (hk:k<(stN c).length):(Fe c n)[n*c.nodes.l.length+k]? = some (q4X c n (stN c)[k]):=by
 unfold Fe
 rw [List.getElem?_append_right (by rw [J3]; omega),J3]
 simp [hk]
theorem qIh {c:B7} {n f i:Nat} (hf:f<n) (hi:i<c.nodes.l.length):(J4 c n)[f*c.nodes.l.length+i]? = some (nmU f i):=by
 have hj:f*c.nodes.l.length+i<n*c.nodes.l.length:=by
  have:=Nat.mul_le_mul_right c.nodes.l.length (show f+1≤n by omega)
  rw [Nat.succ_mul] at this
  omega
 unfold J4
 rw [List.getElem?_append_left (by rw [Yj]; exact hj)]
 unfold q2P
 rw [q9O (m:=c.nodes.l.length) (fun f _=>by simp) hf hi]
 simp [hi]
theorem qFn {c:B7} {n k:Nat} (hk:k<(stN c).length):(J4 c n)[n*c.nodes.l.length+k]? = some (nmU n (stN c)[k]):=by
 unfold J4
 rw [List.getElem?_append_right (by rw [Yj]; omega),Yj]
 simp [hk]
theorem qCf {many n f:Nat}:∀ {L:List Nat} {k q:Nat},q<L.length→(q77 many n f k L)[q]? = some (if f+1=n then (n:Int)*many+((k+q:Nat):Int) else ((f:Int)+1)*many+((L.getD q 0:Nat):Int))
 | [],_,_,h=>by simp at h
 | i::is,k,0,_=>by simp [q77]
 | i::is,k,q+1,h=>by
  simp only [q77,List.getElem?_cons_succ]
  rw [qCf (L:=is) (k:=k+1) (by simpa using h)]
  simp only [List.getD_cons_succ]
  rw [show k+1+q=k+(q+1) by omega]
theorem qHb {c:B7} {n f i:Nat} (hf:f<n) (hi:i<c.outs.l.length):(Gf c n)[f*(c.outs.l.length+(Ag c).length)+i]? = some ((f:Int)*c.nodes.l.length+c.outs.l[i]):=by
 unfold Gf Nu
 rw [q9O (m:=c.outs.l.length+(Ag c).length) (fun f _=>by simp [q7e,K2,q6I,Qk]) hf (by omega)]
 unfold q7e
 rw [List.getElem?_append_left (by rw [K2]; exact hi)]
 simp [mvL,hi]
theorem qFo {c:B7} {n f k:Nat} (hf:f<n) (hk:k<(Ag c).length):(Gf c n)[f*(c.outs.l.length+(Ag c).length)+(c.outs.l.length+k)]? = some (if f+1=n then (n:Int)*c.nodes.l.length+(k:Int) else ((f:Int)+1)*c.nodes.l.length+(((stN c).getD k 0:Nat):Int)):=by
 unfold Gf Nu
 rw [q9O (m:=c.outs.l.length+(Ag c).length) (fun f _=>by simp [q7e,K2,q6I,Qk]) hf (by omega)]
 unfold q7e
 rw [List.getElem?_append_right (by rw [K2]; omega),K2,show c.outs.l.length+k - c.outs.l.length=k by omega,qCf (by rw [Qk]; exact hk)]
 simp
theorem qDu {c:B7} {n j:Nat} (hj:j<(Fe c n).length):(∃ f i,f<n∧i<c.nodes.l.length∧j=f*c.nodes.l.length+i)∨∃ k,k<(stN c).length∧j=n*c.nodes.l.length+k:=by
 rw [L2] at hj
 by_cases h:j<n*c.nodes.l.length
 ·have hm:0<c.nodes.l.length:=Nat.pos_of_ne_zero fun e=>by rw [e] at h; omega
  refine .inl ⟨j / c.nodes.l.length,j % c.nodes.l.length,(Nat.div_lt_iff_lt_mul hm).2 h,Nat.mod_lt _ hm,?_⟩
  rw [Nat.mul_comm]; exact (Nat.div_add_mod j c.nodes.l.length).symm
 ·exact .inr ⟨j - n*c.nodes.l.length,by rw [Qk]; omega,by omega⟩
theorem q85 {many:Nat} {f:Int} {s:Sl Int} {p:Int}:p ∈ (mvS many f s).l↔∃ q ∈ s.l,p=f*many+q:=by
 simp only [mvS,mvL,List.mem_map]
 exact ⟨fun ⟨q,h1,h2⟩=>⟨q,h1,h2.symm⟩,fun ⟨q,h1,h2⟩=>⟨q,h1,h2.symm⟩⟩
theorem qEr {many:Nat} {f:Int} {s:Sl Int}:(mvS many f s).l.length=s.l.length:=by simp [mvS,mvL]
theorem qBH {f n m i:Nat} (hf:f<n) (hi:i<m):f*m+i<n*m:=by
 have:=Nat.mul_le_mul_right m (show f+1≤n by omega)
 rw [Nat.succ_mul] at this
 omega
theorem Yk {c:B7} {i:Nat} (h:i ∈ stN c):i<c.nodes.l.length∧C2 c i=14:=by
 obtain ⟨x,hx,rfl⟩:=List.mem_map.1 h
 obtain ⟨h1,h2,h3⟩:=Ph x hx
 exact ⟨by omega,h3⟩
theorem qHc {c:B7} (hg:GNs false c.nodes.l) {n f i j:Nat} (hf:f<n) (hi:i<c.nodes.l.length) (hk:c.nodes.l[i].k=14) (hj:(f+1)*c.nodes.l.length≤j):NG false (Fe c n) j ⟨3,mvS c.nodes.l.length (f:Int) c.nodes.l[i].inn,0,0⟩:=by
 have h:=hg i hi
 have hfan:=h.f
 rw [hk] at hfan
 have fb:∀ p ∈ (mvS c.nodes.l.length (f:Int) c.nodes.l[i].inn).l,0≤p∧p<(((f+1)*c.nodes.l.length:Nat):Int):=fun p hp=>by
  obtain ⟨q,hq,rfl⟩:=q85.1 hp
  have:=h.inn q hq
  have e:((f*c.nodes.l.length:Nat):Int)=(f:Int)*c.nodes.l.length:=by simp
  rw [Nat.succ_mul,← e]
  omega
 have hlen:=L2 (c:=c) (n:=n)
 have hle:(f+1)*c.nodes.l.length≤n*c.nodes.l.length:=Nat.mul_le_mul_right _ (by omega)
 refine ⟨⟨by show (0:Int)≤3; decide,by show (3:Int)≤15; decide⟩,?_,fun p hp=>?_,fun _ p hp=>?_,fun e=>?_,fun _=>⟨rfl,rfl⟩,fun e=>?_⟩
 ·rw [qEr]; exact hfan
 ·have:=fb p hp; omega
 ·have:=fb p hp; omega
 ·simp at e
 ·simp at e
theorem qAf {c:B7} (hg:GNs false c.nodes.l) {n:Nat} (h1:1≤n):GNs false (Fe c n):=by
 intro j hj
 have hlen:=L2 (c:=c) (n:=n)
 have hget:∀ y,(Fe c n)[j]? = some y→(Fe c n)[j]=y:=fun y h=>by rw [List.getElem?_eq_getElem hj] at h; exact Option.some.inj h
 rcases qDu hj with ⟨f,i,hf,hi,rfl⟩ | ⟨k,hk,rfl⟩
 ·rw [hget _ (qBG hf hi)]
  have h:=hg i hi
  have ef:((f*c.nodes.l.length:Nat):Int)=(f:Int)*c.nodes.l.length:=by simp
  have hrow:=fun q (hq:q<c.nodes.l.length)=>qBH hf hq
  unfold unN
  by_cases hk:c.nodes.l[i].k=14
  ·rw [if_pos hk]
   by_cases h0:f=0
   ·rw [if_pos h0]
    exact ⟨by decide,by decide,fun p hp=>by simp at hp,fun _ p hp=>by simp at hp,fun e=>by simp at e,fun _=>⟨rfl,rfl⟩,fun e=>by simp at e⟩
   ·rw [if_neg h0]
    obtain ⟨g,rfl⟩:∃ g,f=g+1:=⟨f - 1,by omega⟩
    rw [show (((g+1:Nat):Int) - 1)=(g:Int) by omega]
    exact qHc hg (by omega) hi hk (by omega)
  ·rw [if_neg hk]
   refine ⟨h.k,?_,fun p hp=>?_,fun hc p hp=>?_,fun hb p hp=>?_,fun _=>⟨rfl,rfl⟩,fun e=>?_⟩
   ·rw [qEr]; exact h.f
   ·obtain ⟨q,hq,rfl⟩:=q85.1 hp
    have h2:=h.inn q hq
    have h3:=hrow q.toNat (by omega)
    omega
   ·obtain ⟨q,hq,rfl⟩:=q85.1 hp
    have h2:=h.top hc q hq
    omega
   ·obtain ⟨q,hq,rfl⟩:=q85.1 hp
    have h2:=h.inn q hq
    have h3:=h.bus hb q hq
    have hq':q.toNat<c.nodes.l.length:=by omega
    have e:((f:Int)*c.nodes.l.length+q).toNat=f*c.nodes.l.length+q.toNat:=by omega
    rw [e,List.getD_eq_getElem?_getD,qBG hf hq']
    rw [List.getD_eq_getElem?_getD,List.getElem?_eq_getElem hq'] at h3
    simp only [Option.getD_some] at h3 ⊢
    unfold unN
    rw [if_neg (by omega)]
    exact h3
   ·have:=(h.mm.2 e).1
    cases this
 ·rw [hget _ (qAe hk)]
  obtain ⟨hi,hk14⟩:=Yk (List.getElem_mem hk)
  have e:c.nodes.l.getD (stN c)[k] ⟨0,⟨[],none,none⟩,0,0⟩=c.nodes.l[(stN c)[k]]:=by simp [List.getD_eq_getElem?_getD,hi]
  have hk':c.nodes.l[(stN c)[k]].k=14:=by
   have:=hk14
   simp only [C2,List.getD_eq_getElem?_getD,List.getElem?_eq_getElem hi,Option.getD_some] at this
   exact this
  obtain ⟨m,rfl⟩:∃ m,n=m+1:=⟨n - 1,by omega⟩
  unfold q4X
  rw [e,show (((m+1:Nat):Int) - 1)=(m:Int) by omega]
  exact qHc hg (by omega) hi hk' (by omega)
theorem qCg:∀ f,f<9→∀ i,i<16→q0H (nmU f i)=true∧∀ b ∈ nmU f i,b<128:=by decide +kernel
theorem qHd:∀ a,a<144→∀ b,b<144→nmU (a / 16) (a % 16)=nmU (b / 16) (b % 16)→a=b:=by decide +kernel
theorem qBI:∀ f,f<9→∀ i,i<16→∀ g,g<9→∀ j,j<16→nmU f i=nmU g j→f=g∧i=j:=by
 intro f hf i hi g hg j hj e
 have a1:(f*16+i) / 16=f:=by omega
 have a2:(f*16+i) % 16=i:=by omega
 have b1:(g*16+j) / 16=g:=by omega
 have b2:(g*16+j) % 16=j:=by omega
 have:=qHd (f*16+i) (by omega) (g*16+j) (by omega) (by rw [a1,a2,b1,b2]; exact e)
 omega
theorem q9P {many:Nat} (hm:0<many):∀ n,q2P many n=(List.range' 0 (n*many)).map fun j=>nmU (j / many) (j % many)
 | 0=>by simp [q2P]
 | n+1=>by
  rw [q76,q9P hm n,Nat.succ_mul,List.range'_append_1.symm,List.map_append]
  congr 1
  rw [Nat.zero_add,List.range_eq_range']
  refine List.ext_getElem (by simp) fun i h1 h2=>?_
  have hi:i<many:=by simpa using h1
  simp
  rw [Nat.add_comm,Nat.add_mul_div_right _ _ hm,Nat.div_eq_of_lt hi,Nat.mod_eq_of_lt hi,Nat.zero_add]
theorem qFp {c:B7}:(stN c).Nodup:=by
 have h:=(qAE [14] c.nodes.l 0).2
 unfold stN
 rw [List.nodup_iff_pairwise_ne,List.pairwise_map]
 refine List.Pairwise.imp_of_mem ?_ (List.nodup_iff_pairwise_ne.1 h)
 intro a b ha hb hab e
 have h1:=Ph a ha
 have h2:=Ph b hb
 omega
theorem qDv {c:B7} {n:Nat} (hm:0<c.nodes.l.length) (h16:c.nodes.l.length≤16) (h8:n≤8):(J4 c n).Nodup:=by
 unfold J4
 rw [q9P hm]
 have hd:∀ j,j<n*c.nodes.l.length→j / c.nodes.l.length<n:=fun j hj=>(Nat.div_lt_iff_lt_mul hm).2 hj
 have hmd:∀ j,j % c.nodes.l.length<c.nodes.l.length:=fun j=>Nat.mod_lt _ hm
 refine List.nodup_append.2 ⟨qFh fun i hi j hj e=>?_,?_,?_⟩
 ·have a1:=hd i hi
  have a2:=hd j hj
  have a3:=hmd i
  have a4:=hmd j
  obtain ⟨b1,b2⟩:=qBI _ (by omega) _ (by omega) _ (by omega) _ (by omega) e
  have c1:=Nat.div_add_mod i c.nodes.l.length
  have c2:=Nat.div_add_mod j c.nodes.l.length
  rw [b1,b2] at c1
  omega
 ·rw [List.nodup_iff_pairwise_ne,List.pairwise_map]
  refine List.Pairwise.imp_of_mem ?_ (List.nodup_iff_pairwise_ne.1 qFp)
  intro a b ha hb hab e
  have h1:=(Yk ha).1
  have h2:=(Yk hb).1
  exact hab (qBI _ (by omega) _ (by omega) _ (by omega) _ (by omega) e).2
 ·intro a ha b hb e
  obtain ⟨j,hj,rfl⟩:=List.mem_map.1 ha
  obtain ⟨i,hi,rfl⟩:=List.mem_map.1 hb
  simp at hj
  have a1:=hd j hj
  have a3:=hmd j
  have h2:=(Yk hi).1
  have:=(qBI _ (by omega) _ (by omega) _ (by omega) _ (by omega) e).1
  omega
theorem qAg {c:B7} {n:Nat} (hm:0<c.nodes.l.length) (h16:c.nodes.l.length≤16) (h8:n≤8):∀ s ∈ J4 c n,q0H s=true∧∀ b ∈ s,b<128:=by
 intro s hs
 unfold J4 at hs
 rw [q9P hm] at hs
 rcases List.mem_append.1 hs with hs | hs
 ·obtain ⟨j,hj,rfl⟩:=List.mem_map.1 hs
  simp at hj
  have a1:j / c.nodes.l.length<n:=(Nat.div_lt_iff_lt_mul hm).2 hj
  have a2:=Nat.mod_lt j hm
  exact qCg _ (by omega) _ (by omega)
 ·obtain ⟨i,hi,rfl⟩:=List.mem_map.1 hs
  have h2:=(Yk hi).1
  exact qCg _ (by omega) _ (by omega)
theorem qCh {many n f:Nat}:∀ {L:List Nat} {k:Nat} {p:Int},p ∈ q77 many n f k L→∃ q,q<L.length∧p=(if f+1=n then (n:Int)*many+((k+q:Nat):Int) else ((f:Int)+1)*many+((L.getD q 0:Nat):Int))
 | [],_,_,h=>by simp [q77] at h
 | i::is,k,p,h=>by
  simp only [q77,List.mem_cons] at h
  rcases h with rfl | h
  ·exact ⟨0,by simp,by simp⟩
  ·obtain ⟨q,h1,h2⟩:=qCh h
   refine ⟨q+1,by simpa using h1,?_⟩
   rw [h2,show k+1+q=k+(q+1) by omega]
   simp
theorem qHe {c:B7} {n:Nat} (ho:∀ p ∈ c.outs.l,0≤p∧p<c.nodes.l.length):∀ p ∈ Gf c n,0≤p∧p<(Fe c n).length:=by
 intro p hp
 obtain ⟨f,hf,hp⟩:=List.mem_flatMap.1 hp
 have hf:f<n:=by simpa using hf
 rw [L2]
 have hle:=Nat.mul_le_mul_right c.nodes.l.length (show f+1≤n by omega)
 have e0:((f*c.nodes.l.length:Nat):Int)=(f:Int)*c.nodes.l.length:=by simp
 have e1:(((f+1)*c.nodes.l.length:Nat):Int)=((f:Int)+1)*c.nodes.l.length:=by simp
 have e2:((n*c.nodes.l.length:Nat):Int)=(n:Int)*c.nodes.l.length:=by simp
 rw [Nat.succ_mul] at hle
 rcases List.mem_append.1 hp with hp | hp
 ·obtain ⟨q,hq,rfl⟩:=List.mem_map.1 hp
  have:=ho q hq
  omega
 ·obtain ⟨q,hq,rfl⟩:=qCh hp
  rw [Qk] at hq
  by_cases h:f+1=n
  ·rw [if_pos h]; omega
  ·rw [if_neg h]
   have hqs:q<(stN c).length:=by rw [Qk]; exact hq
   have hm:(stN c).getD q 0 ∈ stN c:=by rw [List.getD_eq_getElem?_getD,List.getElem?_eq_getElem hqs]; exact List.getElem_mem hqs
   have h2:=(Yk hm).1
   have hle2:=Nat.mul_le_mul_right c.nodes.l.length (show f+1+1≤n by omega)
   rw [Nat.succ_mul] at hle2
   omega
def Yl (c:B7) (n:Nat):B7:=⟨⟨Fe c n,some (Fe c n).length,none⟩,⟨J4 c n,some (J4 c n).length,none⟩,⟨[],some 0,some true⟩,⟨Gf c n,some (Gf c n).length,none⟩⟩
theorem qHf {c:B7} (hg:GNs false c.nodes.l) (ho:∀ p ∈ c.outs.l,0≤p∧p<c.nodes.l.length) (hol:c.outs.l.length≤16) {n:Nat} (h1:1≤n) (h8:n≤8) (hm:0<c.nodes.l.length) (h16:c.nodes.l.length≤16):Eb (Yl c n)=0:=by
 have hsl:=C5 c
 have b1:n*c.nodes.l.length≤8*16:=Nat.mul_le_mul h8 h16
 have b2:n*(c.outs.l.length+(Ag c).length)≤8*32:=Nat.mul_le_mul h8 (by omega)
 refine qH6 (c:=Yl c n) (qAf hg h1) rfl ?_ ⟨?_,qHe ho⟩ ?_ ?_
 ·show (Fe c n).length≤_
  rw [L2]; omega
 ·show (Gf c n).length≤_
  rw [q1I]; omega
 ·show (J4 c n).length=(Fe c n).length
  rw [q1H,L2]
 ·exact q4N _ _ (fun s hs=>(qAg hm h16 h8 s hs).1) (by rw [List.nil_append]; exact qDv hm h16 h8)
theorem qIi {c:B7} (hg:GNs false c.nodes.l) (hol:c.outs.l.length≤16) {n:Nat} (h1:1≤n) (h8:n≤8) (hm:0<c.nodes.l.length) (h16:c.nodes.l.length≤16):COk (Yl c n):=by
 have hsl:=C5 c
 have b1:n*c.nodes.l.length≤8*16:=Nat.mul_le_mul h8 h16
 have b2:n*(c.outs.l.length+(Ag c).length)≤8*32:=Nat.mul_le_mul h8 (by omega)
 have hG:=qAf hg h1
 have hall:∀ x ∈ Fe c n,(0≤x.k∧x.k≤255)∧x.inn.l.length≤1000000000:=fun x hx=>by
  obtain ⟨i,hi,rfl⟩:=List.getElem_of_mem hx
  have h:=hG i hi
  have h2:=qDV (Fe c n)[i].k
  have h3:=h.f
  have h4:=h.k
  exact ⟨by omega,by omega⟩
 refine ⟨⟨?_,?_,by simp [Yl],?_,fun x hx=>(hall x hx).1,fun x hx=>(hall x hx).2,fun m hm=>by simp [Yl] at hm⟩,fun s hs=>(qAg hm h16 h8 s hs).2⟩
 ·show (Fe c n).length≤_
  rw [L2]; omega
 ·show (J4 c n).length≤_
  rw [q1H]; omega
 ·show (Gf c n).length≤_
  rw [q1I]; omega
end Go.Lg
namespace Go.Lg
open Go
section
variable {P:Program} {Γ:Tables} {w0:World} {B:Nat} {κ:Df} {X0:Nat→Prop} {N:Nat} {a:Act} {w:World}
def q3M:List IC→IC→IC
 | [],r=>r
 | a::l,r=>.seq a (q3M l r)
theorem qEs {x y:IC} {d:Code} (h:M8 P N (.seq x y) d=true):∃ d1 d2,d=.seq d1 d2∧M8 P N x d1=true∧M8 P N y d2=true:=by
 cases d <;> simp [M8] at h
 rename_i d1 d2
 exact ⟨d1,d2,rfl,h.1,h.2⟩
def q7g:Nat→Code→Option Bool
 | 0,.seq (.region _ _ dr) _=>some dr
 | n+1,.seq _ d=>q7g n d
 | _,_=>none
theorem q5K (hN:N≤1000000) (hm:P.follows .mixedOrders=true) {Qw:Exit→Act→World→Prop} {rest:IC} {sE:St}:∀ {ms:List IC} {d:Code} {s:St} {a:Act} {w:World},M8 P N (q3M ms rest) d=true→Wy Γ w0 B κ X0 N s a w →
  awp P Γ (q3M ms .skip) (fun e s'=>e=.normal∧s'=sE) s→(∀ d2 a' w',M8 P N rest d2=true→(∀ k,q7g k d2=q7g (k+ms.length) d)→Wy Γ w0 B κ X0 N sE a' w'→d2.wp P Qw a' w')→d.wp P Qw a w
 | [],d,s,a,w,h,hI,ha,hk=>by
  obtain ⟨_,rfl⟩:=ha
  exact hk d a w h (fun _=>rfl) hI
 | m::ms,d,s,a,w,h,hI,ha,hk=>by
  obtain ⟨d1,d2,rfl,h1,h2⟩:=qEs h
  refine wp_seq (wp_mono (E9 hN hm h1 hI ha) ?_)
  rintro e a' w' ⟨x,s1,rfl,hI1,hq⟩
  cases x with
  | normal=>exact q5K hN hm h2 hI1 hq fun d3 a' w' h3 hr hI3=>hk d3 a' w' h3 (fun k=>(hr k).trans rfl) hI3
  | exit i=>exact absurd hq.1 (by simp)
  | ret=>exact absurd hq.1 (by simp)
theorem q9Q {f:FuncId} {ic:IC} {n:Nat} {rvs:List RV} {args:List T} {res:T} (hc:Aw P f ic N n rvs=true) (hn:args.length=n)
  (h:∀ (w:World) (X:Nat→Prop) (c:Code) (a:Act),N≤1000000→P.follows .mixedOrders=true→Gl Γ w X→(∀ b,X b→b<w.heap.size)→M8 P N ic c=true→(P.funcs[f]?).bind (·.body)=some c→Wy Γ w w.heap.size (fun _=>none) X N ⟨params 0 args,[]⟩ a w→∀ Qw:Exit→Act→World→Prop,
   (∀ rest d2 s' a' w',M8 P N rest d2=true→Wy Γ w w.heap.size (fun _=>none) X N s' a' w'→awp P Γ rest (qFE rvs res) s'→d2.wp P Qw a' w')→c.wp P Qw a w):Ae P Γ f args res:=by
 intro w X vs hg hx hts
 refine .inl ⟨q2e hc vs.toArray,?_⟩
 unfold Aw at hc
 split at hc
 case h_2=>cases hc
 rename_i fn hf
 simp only [Bool.and_eq_true,Bool.not_eq_true',decide_eq_true_eq,beq_iff_eq] at hc
 obtain ⟨⟨⟨⟨⟨⟨h1,h2⟩,h3⟩,h4⟩,h5⟩,h6⟩,h7⟩:=hc
 cases hb:fn.body with
 | none=>rw [hb] at h1; cases h1
 | some c =>
  rw [hb] at h1
  subst h3
  refine calls_of_wp hf hb ?_
  have hI:=Wy.start (N:=fn.ntmps) hg hx hts (by rw [← hts.1,hn]; exact h5)
  refine h w X c _ h4 h7 hg hx h1 (by rw [hf]; exact hb) hI _ fun rest d2 s' a' w' hr hI' hq=>?_
  refine wp_mono (E9 h4 h7 hr hI' hq) ?_
  rintro e a w' ⟨x,s,rfl,⟨X',μ,hsim,hg',h0,hbd,hsz,hds⟩,hq⟩
  have fin:∀ c,q0b s rvs=some (c,res)→c→a.defers=[]∧∃ v,(results fn a.tmps).run P w'=.ok v w'∧∃ u,Ending.returned v=.returned u∧RowKit.Below w.heap.size w w'∧TR w' (fun b=>X b∨(w.heap.size≤b∧b<w'.heap.size)) res u:=by
   intro c hr hcc
   obtain ⟨v,h8,h9⟩:=q8X hsim h6 hr hcc
   refine ⟨hds,v,h8,v,rfl,⟨hsim.os,hsim.tape,hsim.output,hsim.size,fun k hk=>hsim.fr k hk (fun id n h=>by cases h)⟩,h9.mono (fun _ _=>rfl) fun b hb=>?_⟩
   rcases hb with hb | ⟨id,n,hi,hm⟩
   ·rcases hbd b hb with h | h | ⟨_,_,h⟩
    ·exact .inl h
    ·exact .inr ⟨h,hsim.xlt b hb⟩
    ·cases h
   ·obtain ⟨_,h10,h11⟩:=hsim.loc id b n hi hm
    refine .inr ⟨?_,h10⟩
    rcases Nat.lt_or_ge b w.heap.size with h | h
    ·obtain ⟨_,_,h⟩:=h11 h; cases h
    ·exact h
  cases x with
  | normal=>obtain ⟨c,hr,hcc⟩:=hq; exact fin c hr hcc
  | ret=>obtain ⟨c,hr,hcc⟩:=hq; exact fin c hr hcc
  | exit i=>exact hq.elim
theorem qHg {c:IC} {rvs:List RV} {res:T} {s:St} (h:run P Γ c (ret false rvs fun r=>r=res) s):awp P Γ c (qFE rvs res) s:=by
 refine Bn (J7 h) fun e s h=>?_
 obtain ⟨r,hr,hq⟩:=qGX h
 subst hr
 exact hq
end
end Go.Lg
namespace Go.Lg
open Go
section
variable {P:Program} {N:Nat} {a:Act} {w:World} {Q K:Exit→Act→World→Prop}
def q9o (b:Int):List RO:=[⟨some 156,.fadr 0 (.tmp 1),none,none⟩,⟨some 157,.load 1 false (.tmp 156),none,none⟩,⟨some 158,.iadr 4 (.tmp 157) (.const (.int .i64 2)),none,none⟩,⟨some 159,.fadr 0 (.tmp 158),none,none⟩,⟨none,.store 1 (.tmp 159) (.const (.int .u8 b)),none,none⟩]
theorem q3N {ops:List Oper} {ro:RO} {o:Oper} (h:q8P P N ops ro o=true) (hg:ro.guard=none):ro.dst=o.dst∧Pj P ro.op o.op=true∧o.guard=none∧∀ d,ro.dst=some d→d<N:=by
 simp only [q8P,Bool.and_eq_true,decide_eq_true_eq,hg] at h
 obtain ⟨⟨⟨⟨⟨h1,h2⟩,_⟩,h3⟩,_⟩,h4⟩:=h
 refine ⟨h1,h2,?_,fun d hd=>by rw [hd] at h3; simpa using h3⟩
 cases hg:o.guard with
 | none=>rfl
 | some x=>rw [hg] at h4; cases h4
theorem q7h {o:Oper} {m:Nat→Option Bool} (h:o.guard=none):Region.wanted o m=true:=by simp [Region.wanted,h]
theorem q6J {o:Oper} {ops:Array Oper} {os:List Oper} {v:Value} (hg:o.guard=none) (hr:(execOp a.eval o).run P w=.ok (.value v) w) (hK:wpList P ops Q os (a.put o.dst v) w):wpList P ops Q (o::os) a w:=by
 unfold wpList
 rw [q7h hg,if_pos rfl]
 left
 unfold Oper.wp
 rw [hr,Oper.upon_value]
 exact hK
theorem qFq {o:Oper} {ops:Array Oper} {os:List Oper} {w':World} (hg:o.guard=none) (hr:(execOp a.eval o).run P w=.ok .skip w') (hK:wpList P ops Q os (a.put o.dst undef) w'):wpList P ops Q (o::os) a w:=by
 unfold wpList
 rw [q7h hg,if_pos rfl]
 left
 unfold Oper.wp
 rw [hr,Oper.upon_skip]
 exact hK
theorem q86 {d:Nat} {v:Value} (h:d<a.tmps.size):(a.put (some d) v).tmps.getD d undef=v:=by
 simp [Act.put,Array.getD,h]
theorem q1q {d t:Nat} {v:Value} (h:t ≠ d):(a.put (some d) v).tmps.getD t undef=a.tmps.getD t undef:=by
 simp only [Act.put]
 rw [Array.getD_eq_getD_getElem?,Array.getD_eq_getD_getElem?,Array.getElem?_setIfInBounds_ne (fun e=>h e.symm)]
theorem L6 {d:Option Nat} {v:Value}:(a.put d v).tmps.size=a.tmps.size:=by cases d <;> simp [Act.put]
theorem Ym {d:Option Nat} {v:Value}:(a.put d v).defers=a.defers:=by cases d <;> rfl
theorem q6K {t:Nat}:a.eval (.tmp t)=a.tmps.getD t undef:=rfl
theorem qDw {gs:List Gh} {d:Code} {b:Int} {g1 gR c ty1 ty:Nat} {vs:List Value} {arr:Array Value} (hc:M8 P N (.reg (q9o b) gs) d=true) (hdr:∀ id ops dr,d=.region id ops dr→dr=false)
  (hsz:a.tmps.size=N) (h1:a.tmps.getD 1 undef=.pointer (some ⟨g1,0,none⟩)) (hh1:w.heap[g1]? = some (.cells ((.slice (some ⟨gR,0,none⟩) 3 c)::vs).toArray ty1 (0,0))) (hhR:w.heap[gR]? = some (.cells arr ty (0,0))) (hl:9≤arr.size)
  (hK:∀ a',a'.tmps.size=N→a'.defers=a.defers→(∀ t,t<156→a'.tmps.getD t undef=a.tmps.getD t undef)→Q .normal a' (w.setRow gR (arr.toList.take 8++[Value.int .u8 b]++arr.toList.drop 9).toArray)):d.wp P Q a w:=by
 cases d <;> simp only [M8,Bool.false_eq_true] at hc
 rename_i id ops dr
 have:=hdr id ops dr rfl
 subst this
 simp only [Bool.and_eq_true] at hc
 refine wp_region_list ?_
 have hc:=hc.1
 generalize hos:ops.toList=os at hc ⊢
 match os,hc with
 | [],hc=>simp [q9o,Qr] at hc
 | [_],hc=>simp [q9o,Qr] at hc
 | [_,_],hc=>simp [q9o,Qr] at hc
 | [_,_,_],hc=>simp [q9o,Qr] at hc
 | [_,_,_,_],hc=>simp [q9o,Qr] at hc
 | _::_::_::_::_::_::_,hc=>simp [q9o,Qr] at hc
 | [o1,o2,o3,o4,o5],hc =>
  simp only [q9o,Qr,Bool.and_eq_true,and_true] at hc
  obtain ⟨c1,c2,c3,c4,c5⟩:=hc
  obtain ⟨d1,k1,g1',n1⟩:=q3N c1 rfl
  obtain ⟨d2,k2,g2',n2⟩:=q3N c2 rfl
  obtain ⟨d3,k3,g3',n3⟩:=q3N c3 rfl
  obtain ⟨d4,k4,g4',n4⟩:=q3N c4 rfl
  obtain ⟨d5,k5,g5',_⟩:=q3N c5 rfl
  have n1:=n1 156 rfl
  have n2:=n2 157 rfl
  have n3:=n3 158 rfl
  have n4:=n4 159 rfl
  simp only at d1 d2 d3 d4 d5 k1 k2 k3 k4 k5
  -- the address of the field
  have r1:∀ {o:Oper} {t g q:Nat} {a:Act},Pj P (.fadr 0 (.tmp t)) o.op=true→a.tmps.getD t undef=.pointer (some ⟨g,q,none⟩)→(execOp a.eval o).run P w=.ok (.value (.pointer (some ⟨g,q,none⟩))) w:=fun {o t g q a} hk ha=>by
   generalize hop:o.op=op at hk
   simp only [Pj] at hk
   split at hk
   case h_2=>cases hk
   rename_i ty b' i
   simp only [Bool.and_eq_true] at hk
   obtain ⟨hb,hk⟩:=hk
   have:=Ak hb; subst this
   split at hk
   case h_2=>cases hk
   rename_i fs hu
   split at hk
   case h_2=>cases hk
   rename_i f hf
   simp only [Bool.and_eq_true,beq_iff_eq] at hk
   obtain ⟨ho,hs⟩:=hk
   split at hs
   case h_2=>cases hs
   rename_i s hs'
   have hp:0<s:=by simpa using hs
   simp [execOp,hop,q6K,ha,Yq hu hf ho hs' hp]
  refine q6J g1' (r1 k1 h1) ?_
  rw [← d1]
  -- the load
  have e2:(a.put (some 156) (.pointer (some ⟨g1,0,none⟩))).tmps.getD 156 undef=.pointer (some ⟨g1,0,none⟩):=q86 (by omega)
  have r2:(execOp (a.put (some 156) (.pointer (some ⟨g1,0,none⟩))).eval o2).run P w=.ok (.value (.slice (some ⟨gR,0,none⟩) 3 c)) w:=by
   generalize hop:o2.op=op at k2
   simp only [Pj] at k2
   split at k2
   case h_2=>cases k2
   rename_i ty b'
   simp only [Bool.and_eq_true,beq_iff_eq] at k2
   obtain ⟨⟨⟨hb,hz⟩,ha⟩,_⟩:=k2
   have:=Ak hb; subst this
   have hl:=X6 (P:=P) (w:=w) (b:=g1) (off:=0) (xs:=[.slice (some ⟨gR,0,none⟩) 3 c]) hz ha rfl rfl (fun j x hj=>by
    match j,hj with
    | 0,hj=>cases hj; simp [World.cell?,hh1]
    | j+1,hj=>simp at hj)
   simp [execOp,hop,q6K,e2,hl]
  refine q6J g2' r2 ?_
  rw [← d2]
  -- the element's address
  generalize hA2:(a.put (some 156) (.pointer (some ⟨g1,0,none⟩))).put (some 157) (.slice (some ⟨gR,0,none⟩) 3 c)=a2
  have e3:a2.tmps.getD 157 undef=.slice (some ⟨gR,0,none⟩) 3 c:=by rw [← hA2]; exact q86 (by rw [L6]; omega)
  have r3:(execOp a2.eval o3).run P w=.ok (.value (.pointer (some ⟨gR,8,none⟩))) w:=by
   generalize hop:o3.op=op at k3
   simp only [Pj] at k3
   split at k3
   case h_2=>cases k3
   rename_i ty y j
   simp only [Bool.and_eq_true] at k3
   obtain ⟨⟨hb,hj⟩,hk⟩:=k3
   have:=Ak hb; subst this
   have:=Ak hj; subst this
   split at hk
   case h_2=>cases hk
   rename_i e hu
   have hz:O6 P e=some 4:=by simpa using hk
   have e4:a2.eval (.const (.int .i64 2))=.int .i64 2:=rfl
   simp [execOp,hop,q6K,e3,e4,Instr.indexAt,asIntOf,run_underlying (C4 hu),Dl hz,Addr.add_lit]
  refine q6J g3' r3 ?_
  rw [← d3]
  have e5:(a2.put (some 158) (.pointer (some ⟨gR,8,none⟩))).tmps.getD 158 undef=.pointer (some ⟨gR,8,none⟩):=q86 (by rw [← hA2,L6,L6]; omega)
  refine q6J g4' (r1 k4 e5) ?_
  rw [← d4]
  generalize hA4:(a2.put (some 158) (.pointer (some ⟨gR,8,none⟩))).put (some 159) (.pointer (some ⟨gR,8,none⟩))=a4
  have e6:a4.tmps.getD 159 undef=.pointer (some ⟨gR,8,none⟩):=by rw [← hA4]; exact q86 (by rw [L6,← hA2,L6,L6]; omega)
  -- the store
  have r5:(execOp a4.eval o5).run P w=.ok .skip (w.setRow gR (arr.toList.take 8++[Value.int .u8 b]++arr.toList.drop 9).toArray):=by
   generalize hop:o5.op=op at k5
   simp only [Pj] at k5
   split at k5
   case h_2=>cases k5
   rename_i ty y z
   simp only [Bool.and_eq_true,beq_iff_eq] at k5
   obtain ⟨⟨hb,hx⟩,hz⟩:=k5
   have:=Ak hb; subst this
   have:=Ak hx; subst this
   have hst:=q2W (P:=P) (w:=w) (v:=.int .u8 b) (o:=8) hz rfl (fun x hx=>by simp [Value.cells] at hx; subst hx; rfl) hhR hl
   have e7:a4.eval (.const (.int .u8 b))=.int .u8 b:=rfl
   simp only [execOp,hop,q6K,e6,e7,Sem.run_bind,hst]
   rfl
  refine qFq g5' r5 ?_
  rw [← d5]
  unfold wpList
  refine hK _ ?_ ?_ fun t ht=>?_
  ·rw [L6,← hA4,L6,L6,← hA2,L6,L6,hsz]
  ·rw [Ym,← hA4,Ym,Ym,← hA2,Ym,Ym]
  ·show (a4.put none undef).tmps.getD t undef=_
   show a4.tmps.getD t undef=_
   rw [← hA4,q1q (by omega),q1q (by omega),← hA2,q1q (by omega),q1q (by omega)]
end
end Go.Lg
namespace Go.Lg
open Go
section
variable {P:Program} {Γ:Tables} {N:Nat}
def qDx (ty:Nat) (nE:List (List T)) (nm mm ou o z:T):St:=⟨[(1,.lp 1 0 0),(2,.t o),(3,.t z)],[(1,.bx [.ls 21006 0 3 none,.t nm,.t mm,.t ou]),(21006,.sl ty 4 nE)]⟩
def thM (nE:List (List T)) (nm mm ou o z:T) (vN v1 v2 v3 vz:Value):St:=⟨[(1,.lp 1000000 0 0),(2,.t o),(3,.t (.pin z vz))],[(1000000,.bx [.t (.pin (.sl nE none none) vN),.t (.pin nm v1),.t (.pin mm v2),.t (.pin ou v3)])]⟩
def thE (nE:List (List T)) (nm mm ou z:T) (vN v1 v2 v3 vz:Value) (f0 f1 f2 f3 f4 s11 s12 s17 s18:T):St :=
 ⟨[(1,.lp 1000000 0 0),(3,.t (.pin z vz)),(7,.lp 7 0 0),(11,.t s11),(12,.t s12),(17,.t s17),(18,.t s18)],[(7,.bx [.t f0,.t f1,.t f2,.t f3,.t f4]),(1000000,.bx [.t (.pin (.sl nE none none) vN),.t (.pin nm v1),.t (.pin mm v2),.t (.pin ou v3)])]⟩
def thS (nE:List (List T)) (nm mm ou z:T) (y0 y1 y2 y4:Value) (f3 s11 s12 s17 s18:T):St :=
 ⟨[(1,.t (.ip [.sl nE none none,nm,mm,ou] 0)),(3,.t z),(7,.t (.ip [.v y0,.v y1,.v y2,f3,.v y4] 0)),(11,.t s11),(12,.t s12),(17,.t s17),(18,.t s18)],[]⟩
theorem qMQ {arr:Array Value} (h:arr.size=4):∃ a b c d,arr=#[a,b,c,d]:=by
 obtain ⟨l⟩:=arr
 match l,h with
 | [a,b,c,d],_=>exact ⟨a,b,c,d,rfl⟩
theorem qNE {arr:Array Value} (h:arr.size=5):∃ a b c d e,arr=#[a,b,c,d,e]:=by
 obtain ⟨l⟩:=arr
 match l,h with
 | [a,b,c,d,e],_=>exact ⟨a,b,c,d,e,rfl⟩
theorem q87 {w:World} {g j ty:Nat} {arr:Array Value} {q:Nat × Nat} {x:Value} (h:w.heap[g]? = some (.cells arr ty q)) (hj:arr[j]? = some x):w.cell? ⟨g,j,none⟩=some x:=by
 simp [World.cell?,h,hj]
theorem q88 {w w':World} {X Y:Nat→Prop} {t:T} {x:Value} (h:TR w X t x) (hf:Hq t=true):TR w' Y t x:=by
 cases h with
 | v x=>exact .v x
 | nil cap nl a c hc hn hz=>exact .nil cap nl a c hc hn hz
 | sl es cap nl s b off c f hcell hlen hrel hone hx hle hc hn =>
  cases es with
  | nil=>exact .nil cap nl _ c hc (fun q hq=>by rw [hn q hq]; rfl) (fun e=>by cases e)
  | cons e es=>simp [Hq] at hf
 | agg=>simp [Hq] at hf
 | tup=>simp [Hq] at hf
 | ip=>simp [Hq] at hf
 | fn=>simp [Hq] at hf
 | mpnil=>simp [Hq] at hf
 | mp=>simp [Hq] at hf
 | pin=>simp [Hq] at hf
theorem qFr {w w':World} {X Y:Nat→Prop} {l:List Int} {cap:Option Nat} {nl:Option Bool} {v:Value} {g j:Nat} {b:Int} (h:TR w X (.sl (l.map fun n=>[.v (.int .i64 n)]) cap nl) v) (hg:w.cell? ⟨g,j,none⟩=some (.int .u8 b))
  (hs:∀ k i,X k→¬ (k=g∧i=j)→w'.cell? ⟨k,i,none⟩=w.cell? ⟨k,i,none⟩) (hxy:∀ k,X k→Y k):TR w' Y (.sl (l.map fun n=>[.v (.int .i64 n)]) cap nl) v:=by
 generalize he:l.map (fun n=>[T.v (.int .i64 n)])=es at h
 cases h with
 | nil cap nl a c hc hn hz=>exact .nil cap nl a c hc hn hz
 | sl es cap nl s bb off c f hcell hlen hrel hone hx hle hc hn =>
  by_cases hes:es=[]
  ·subst hes
   exact .nil cap nl _ c hc (fun q hq=>by rw [hn q hq]; rfl) (fun e=>by cases e)
  have s1:s=1:=by
   cases es with
   | nil=>exact absurd rfl hes
   | cons e es =>
    have:=hlen 0 e rfl
    cases l with
    | nil=>cases he
    | cons n l=>simp only [List.map_cons,List.cons.injEq] at he; rw [← he.1] at this; exact this.symm
  subst s1
  have hrow:∀ i,i<es.length→∃ n,es[i]? = some [T.v (.int .i64 n)]:=fun i hi=>by
   rw [← he] at hi ⊢
   simp only [List.length_map] at hi
   exact ⟨l[i],by simp [hi]⟩
  refine .sl es cap nl 1 bb off c f (fun i k hi hk=>?_) hlen (fun i k e t h1 h2=>?_) hone (hxy _ hx) hle hc hn
  ·rw [hs _ _ hx ?_]
   ·exact hcell i k hi hk
   ·rintro ⟨rfl,rfl⟩
    have h1:=hcell i k hi hk
    rw [hg] at h1
    obtain ⟨n,hn'⟩:=hrow i hi
    have k0:k=0:=by omega
    subst k0
    have h2:=(hrel i 0 _ _ hn' rfl).v_inv
    rw [h2] at h1
    cases h1
  ·have hi:=(List.getElem?_eq_some_iff.1 h1).1
   obtain ⟨n,hn'⟩:=hrow i hi
   rw [hn'] at h1
   cases h1
   have h3:=(hrel i k _ t hn' h2)
   have hk:=(List.getElem?_eq_some_iff.1 h2).1
   have k0:k=0:=by simpa using hk
   subst k0
   simp at h2
   subst h2
   rw [h3.v_inv]
   exact .v _
def Ql {α:Type} (e0 e1 e2 e3 e4 e5 e6 e7 e8 e9 e10 e11:α):List (List α):=[[e0,e1,e2,e3],[e4,e5,e6,e7],[e8,e9,e10,e11]]
theorem q9R {α:Type} {e0 e1 e2 e3 e4 e5 e6 e7 e8 e9 e10 e11:α} {i k:Nat} {e:List α} {t:α} (h1:(Ql e0 e1 e2 e3 e4 e5 e6 e7 e8 e9 e10 e11)[i]? = some e) (h2:e[k]? = some t) :
  i<3∧k<4∧[e0,e1,e2,e3,e4,e5,e6,e7,e8,e9,e10,e11][i*4+k]? = some t:=by
 unfold Ql at h1
 match i,h1 with
 | 0,h1=>cases h1; match k,h2 with
  | 0,h2=>exact ⟨by omega,by omega,h2⟩
  | 1,h2=>exact ⟨by omega,by omega,h2⟩
  | 2,h2=>exact ⟨by omega,by omega,h2⟩
  | 3,h2=>exact ⟨by omega,by omega,h2⟩
  | k+4,h2=>simp at h2
 | 1,h1=>cases h1; match k,h2 with
  | 0,h2=>exact ⟨by omega,by omega,h2⟩
  | 1,h2=>exact ⟨by omega,by omega,h2⟩
  | 2,h2=>exact ⟨by omega,by omega,h2⟩
  | 3,h2=>exact ⟨by omega,by omega,h2⟩
  | k+4,h2=>simp at h2
 | 2,h1=>cases h1; match k,h2 with
  | 0,h2=>exact ⟨by omega,by omega,h2⟩
  | 1,h2=>exact ⟨by omega,by omega,h2⟩
  | 2,h2=>exact ⟨by omega,by omega,h2⟩
  | 3,h2=>exact ⟨by omega,by omega,h2⟩
  | k+4,h2=>simp at h2
 | i+3,h1=>simp at h1
set_option maxHeartbeats 4000000 in
theorem qMR (hN:N≤1000000) (hmx:P.follows .mixedOrders=true) {w:World} {X:Nat→Prop} (hX:∀ b,X b→b<w.heap.size) (hg:Gl Γ w X) {a1:Act} {w1:World} {ty:Nat} {e0 e1 e2 e3 e4 e5 e6 e7 e9 e10 e11 nm mm ou o z:T} {b8 b8':Int}
  {ms:List IC} {gs:List Gh} {rest:IC} {d:Code} {f0 f1 f2 f4 s11 s12 s17 s18:T} {lo:List Int} {co:Option Nat} {no:Option Bool} {rvs:List RV} {res:T} {Qw:Exit→Act→World→Prop}
  (hI:Wy Γ w w.heap.size (fun _=>none) X N (qDx ty (Ql e0 e1 e2 e3 e4 e5 e6 e7 (.v (.int .u8 b8)) e9 e10 e11) nm mm ou o z) a1 w1)
  (hd:M8 P N (q3M ms (.seq (.reg (q9o b8') gs) rest)) d=true) (hdr:q7g ms.length d=some false)
  (hz:∀ (w:World) (X:Nat→Prop) (v:Value),TR w X z v→∃ a n m,v=Value.slice a n m) (hM:∀ vN v1 v2 v3 vz,(∃ a n m,vz=Value.slice a n m)→awp P Γ (q3M ms .skip) (fun e s'=>e=.normal∧s'=thE (Ql e0 e1 e2 e3 e4 e5 e6 e7 (.v (.int .u8 b8)) e9 e10 e11) nm mm ou z vN v1 v2 v3 vz f0 f1 f2 (.sl (lo.map fun n=>[.v (.int .i64 n)]) co no) f4 s11 s12 s17 s18) (thM (Ql e0 e1 e2 e3 e4 e5 e6 e7 (.v (.int .u8 b8)) e9 e10 e11) nm mm ou o z vN v1 v2 v3 vz))
  (hfl:Hq s11=true∧Hq s12=true∧Hq s17=true∧Hq s18=true)
  (hS:∀ y0 y1 y2 y4,awp P Γ rest (qFE rvs res) (thS (Ql e0 e1 e2 e3 e4 e5 e6 e7 (.v (.int .u8 b8')) e9 e10 e11) nm mm ou z y0 y1 y2 y4 (.sl (lo.map fun n=>[.v (.int .i64 n)]) co no) s11 s12 s17 s18))
  (fin:∀ rest d2 s' a' w',M8 P N rest d2=true→Wy Γ w w.heap.size (fun _=>none) X N s' a' w'→awp P Γ rest (qFE rvs res) s'→d2.wp P Qw a' w'):d.wp P Qw a1 w1:=by
 obtain ⟨X1,μ1,S,hg1,h01,hb1,hsz1,hds1⟩:=hI
 have hX1:∀ b,X1 b→X b∨w.heap.size≤b:=fun b hb=>by
  rcases hb1 b hb with h | h | ⟨_,_,h⟩
  ·exact .inl h
  ·exact .inr h
  ·cases h
 -- the two regions
 obtain ⟨one1,g1,arr1,ty1,hm1,hh1,hs1,hr1⟩:=S.reg 1 _ rfl
 obtain ⟨vN,v1,v2,v3,rfl⟩:=qMQ hs1.symm
 have tN:=hr1 0 _ _ rfl rfl
 have t1:=(hr1 1 _ _ rfl rfl).t_inv
 have t2:=(hr1 2 _ _ rfl rfl).t_inv
 have t3:=(hr1 3 _ _ rfl rfl).t_inv
 have o1:v1.oneCell'=true:=t1.one (one1 1 _ rfl)
 have o2:v2.oneCell'=true:=t2.one (one1 2 _ rfl)
 have o3:v3.oneCell'=true:=t3.one (one1 3 _ rfl)
 obtain ⟨rows,hR⟩:=S.reg 21006 _ rfl
 obtain ⟨gR,arr,hmR,hhR,hlR,hrR⟩:∃ g arr,μ1 21006=some (g,arr.size)∧w1.heap[g]? = some (.cells arr ty (0,0))∧3*4≤arr.size∧∀ (i k:Nat) (e:List T) (t:T) (x:Value),(Ql e0 e1 e2 e3 e4 e5 e6 e7 (.v (.int .u8 b8)) e9 e10 e11)[i]? = some e→e[k]? = some t→arr[i*4+k]? = some x→TR w1 X1 t x:=by
  rcases hR with ⟨h,_⟩ | h
  ·simp [Ql] at h
  ·exact h
 have h1R:g1 ≠ gR:=fun e=>by
  have:=S.inj 1 21006 g1 _ _ (by simp [St.sh,qDx,A4]) (by simp [St.sh,qDx,A4]) hm1 (e ▸ hmR)
  omega
 obtain ⟨l1a,l1b,l1c⟩:=S.loc 1 g1 _ (by simp [St.sh,qDx,A4]) hm1
 obtain ⟨lRa,lRb,lRc⟩:=S.loc 21006 gR _ (by simp [St.sh,qDx,A4]) hmR
 have l1d:w.heap.size≤g1:=by
  rcases Nat.lt_or_ge g1 w.heap.size with h | h
  ·obtain ⟨_,_,h⟩:=l1c h; cases h
  ·exact h
 have lRd:w.heap.size≤gR:=by
  rcases Nat.lt_or_ge gR w.heap.size with h | h
  ·obtain ⟨_,_,h⟩:=lRc h; cases h
  ·exact h
 obtain ⟨sN,nN,hshN,hN1⟩:=tN.ls_inv
 have hsN:sN=4∧nN=3:=by
  have:some (Sh.sl 4 3)=some (Sh.sl sN nN):=by rw [← hshN]; rfl
  cases this; exact ⟨rfl,rfl⟩
 obtain ⟨rfl,rfl⟩:=hsN
 obtain ⟨c,hvN,hc3',hcm,hcf⟩:∃ c,vN=.slice (some ⟨gR,0,none⟩) 3 c∧3≤c∧c≤maxLen∧c*4=arr.size:=by
  rcases hN1 with ⟨_,_,_,h,_⟩ | ⟨g,m,c,ad,hm,hv,hle,hlc,hcm,hfit,hfull,hcap,had⟩
  ·cases h
  ·rw [hmR] at hm
   cases hm
   have:=hfull rfl
   rw [had (.inr rfl)] at hv
   exact ⟨c,by simpa using hv,hlc,hcm,by omega⟩
 have p1:a1.tmps.getD 1 undef=.pointer (some ⟨g1,0,none⟩):=by
  obtain ⟨g,m,hm,h⟩:=(S.env 1 _ rfl).lp_inv
  rw [hm1] at hm
  cases hm
  rcases h with ⟨s,n,h,_⟩ | ⟨_,_,h⟩
  ·cases (show some Sh.bx=some (Sh.sl s n) from h)
  ·exact h
 have to:=(S.env 2 _ rfl).t_inv
 have tz:=(S.env 3 _ rfl).t_inv
 -- the nodes as a tree
 let X1':Nat→Prop:=fun b=>X1 b∨b=gR
 let κ1:Df:=fun id=>if id=1000000 then some (g1,4) else none
 have same1:Rw X1 w1 w1:=fun _ _=>rfl
 have tNt:TR w1 X1' (.sl (Ql e0 e1 e2 e3 e4 e5 e6 e7 (.v (.int .u8 b8)) e9 e10 e11) none none) vN:=by
  rw [hvN]
  refine .sl _ none none 4 gR 0 c (fun i k=>arr.getD (i*4+k) undef) (fun i k hi hk=>?_) (fun i e he=>(rows i e he).1) (fun i k e t h1 h2=>?_) (fun i k e t h1 h2=>(rows i e h1).2 k t h2) (.inr rfl) hc3' (fun _ h=>by cases h) (fun _ h=>by cases h)
  ·have hi':i<3:=hi
   have hj:i*4+k<arr.size:=by omega
   refine (q87 (x:=arr[i*4+k]) hhR (by simp [hj])).trans ?_ |> fun h=>by simpa using h
   simp [Array.getD,hj]
  ·obtain ⟨hi,hk,_⟩:=q9R h1 h2
   have hj:i*4+k<arr.size:=by omega
   have:=hrR i k e t arr[i*4+k] h1 h2 (by simp [hj])
   simpa [Array.getD,hj] using this.mono same1 (fun _ h=>.inl h)
 have IM:Wy Γ w1 w1.heap.size κ1 X1' N (thM (Ql e0 e1 e2 e3 e4 e5 e6 e7 (.v (.int .u8 b8)) e9 e10 e11) nm mm ou o z vN v1 v2 v3 (a1.tmps.getD 3 undef)) a1 w1:=by
  refine ⟨X1',κ1,⟨fun t a ht=>?_,fun id r hr=>?_,fun id id' g n n' hi hi' hm hm'=>?_,fun id g n hi hm=>?_,fun _ _ _=>rfl,fun id l h=>?_,fun b hb=>?_,rfl,rfl,rfl,Nat.le_refl _,fun _ _ _=>rfl⟩,hg1.mono same1 (fun _ h=>.inl h),fun _ h=>h,fun _ h=>.inl h,hsz1,hds1⟩
  ·simp only [thM,A4] at ht
   split at ht
   ·rename_i e; subst e; cases ht
    rw [p1]; exact .lpbx 1000000 0 g1 4 rfl (by simp [κ1])
   split at ht
   ·rename_i e; subst e; cases ht; exact .t _ _ (to.mono same1 fun _ h=>.inl h)
   split at ht
   ·rename_i e; subst e; cases ht; exact .t _ _ (.pin _ _ (tz.mono same1 fun _ h=>.inl h))
   ·cases ht
  ·simp only [thM,A4] at hr
   split at hr
   ·rename_i e; subst e; cases hr
    refine ⟨fun k a hk=>?_,g1,_,ty1,by simp [κ1],hh1,rfl,fun k a x hk hx=>?_⟩
    ·match k,hk with
     | 0,hk=>cases hk; rw [hvN]; rfl
     | 1,hk=>cases hk; exact o1
     | 2,hk=>cases hk; exact o2
     | 3,hk=>cases hk; exact o3
     | k+4,hk=>simp at hk
    ·match k,hk,hx with
     | 0,hk,hx=>cases hk; cases hx; exact .t _ _ (.pin _ _ tNt)
     | 1,hk,hx=>cases hk; cases hx; exact .t _ _ (.pin _ _ (t1.mono same1 fun _ h=>.inl h))
     | 2,hk,hx=>cases hk; cases hx; exact .t _ _ (.pin _ _ (t2.mono same1 fun _ h=>.inl h))
     | 3,hk,hx=>cases hk; cases hx; exact .t _ _ (.pin _ _ (t3.mono same1 fun _ h=>.inl h))
     | k+4,hk,hx=>simp at hk
   ·cases hr
  ·have key:∀ j,St.sh (thM (Ql e0 e1 e2 e3 e4 e5 e6 e7 (.v (.int .u8 b8)) e9 e10 e11) nm mm ou o z vN v1 v2 v3 (a1.tmps.getD 3 undef)) j ≠ none→j=1000000:=fun j hj=>by
    simp only [St.sh,thM,A4] at hj
    split at hj
    ·rename_i e; exact e.symm
    ·simp at hj
   rw [key _ hi,key _ hi']
  ·have key:id=1000000:=by
    simp only [St.sh,thM,A4] at hi
    split at hi
    ·rename_i e; exact e.symm
    ·simp at hi
   subst key
   simp [κ1] at hm
   obtain ⟨rfl,rfl⟩:=hm
   refine ⟨fun h=>?_,l1b,fun _=>⟨1000000,4,by simp [κ1]⟩⟩
   rcases h with h | h
   ·exact l1a h
   ·exact h1R h
  ·simp only [κ1] at h
   split at h
   ·omega
   ·cases h
  ·rcases hb with hb | rfl
   ·exact S.xlt b hb
   ·exact lRb
 refine q5K hN hmx hd IM (hM _ _ _ _ _ (hz _ _ _ tz)) fun d2 a2 w2 hd2 hr2' hI2=>?_
 obtain ⟨X2,μ2,S2,hg2,h02,hb2,hsz2,hds2⟩:=hI2
 have k1:μ2 1000000=some (g1,4):=(S2.kap 1000000 (Nat.le_refl _) (by simp [St.sh,thE,A4])).trans (by simp [κ1])
 obtain ⟨q1,g1',arr2,ty2,hm2,hh2,hs2,hr2⟩:=S2.reg 1000000 _ rfl
 obtain ⟨u0,u1,u2,u3,rfl⟩:=qMQ hs2.symm
 rw [k1] at hm2
 have hg1':g1'=g1:=by cases hm2; rfl
 subst hg1'
 have pin:∀ {t:T} {x y:Value} {w:World} {X:Nat→Prop},TR w X (.pin t x) y→y=x:=fun h=>by cases h; rfl
 have w0':=(pin (hr2 0 _ _ rfl rfl).t_inv).symm
 have w1':=(pin (hr2 1 _ _ rfl rfl).t_inv).symm
 have w2':=(pin (hr2 2 _ _ rfl rfl).t_inv).symm
 have w3':=(pin (hr2 3 _ _ rfl rfl).t_inv).symm
 subst w0'; subst w1'; subst w2'; subst w3'
 obtain ⟨q7,g7,arr7,ty7,hm7,hh7,hs7,hr7⟩:=S2.reg 7 _ rfl
 obtain ⟨y0,y1,y2,y3,y4,rfl⟩:=qNE hs7.symm
 have t7:=(hr7 3 _ _ rfl rfl).t_inv
 have oy:∀ (j:Nat) (a:T) (x:Value),([f0,f1,f2,(.sl (lo.map fun n=>[.v (.int .i64 n)]) co no),f4]:List T)[j]? = some a→(#[y0,y1,y2,y3,y4]:Array Value)[j]? = some x→x.oneCell'=true:=fun j a x h1 h2 =>
  ((hr7 j (.t a) x (by rw [show ([.t f0,.t f1,.t f2,.t (.sl (lo.map fun n=>[.v (.int .i64 n)]) co no),.t f4]:List AV)=([f0,f1,f2,(.sl (lo.map fun n=>[.v (.int .i64 n)]) co no),f4]:List T).map .t from rfl,List.getElem?_map,h1]; rfl) h2).t_inv).one
   (q7 j (.t a) (by rw [show ([.t f0,.t f1,.t f2,.t (.sl (lo.map fun n=>[.v (.int .i64 n)]) co no),.t f4]:List AV)=([f0,f1,f2,(.sl (lo.map fun n=>[.v (.int .i64 n)]) co no),f4]:List T).map .t from rfl,List.getElem?_map,h1]; rfl))
 have p1':a2.tmps.getD 1 undef=.pointer (some ⟨g1',0,none⟩):=by
  obtain ⟨g,m,hm,h⟩:=(S2.env 1 _ rfl).lp_inv
  rw [k1] at hm
  cases hm
  rcases h with ⟨s,n,h,_⟩ | ⟨_,_,h⟩
  ·cases (show some Sh.bx=some (Sh.sl s n) from h)
  ·exact h
 have p3':=pin (S2.env 3 _ rfl).t_inv
 have p7':a2.tmps.getD 7 undef=.pointer (some ⟨g7,0,none⟩):=by
  obtain ⟨g,m,hm,h⟩:=(S2.env 7 _ rfl).lp_inv
  rw [hm7] at hm
  cases hm
  rcases h with ⟨s,n,h,_⟩ | ⟨_,_,h⟩
  ·cases (show some Sh.bx=some (Sh.sl s n) from h)
  ·exact h
 have z11:=(S2.env 11 _ rfl).t_inv
 have z12:=(S2.env 12 _ rfl).t_inv
 have z17:=(S2.env 17 _ rfl).t_inv
 have z18:=(S2.env 18 _ rfl).t_inv
 have h71:g7 ≠ g1':=fun e=>by
  have:=S2.inj 7 1000000 g7 _ _ (by simp [St.sh,thE,A4]) (by simp [St.sh,thE,A4]) hm7 (e ▸ k1)
  omega
 obtain ⟨l7a,l7b,l7c⟩:=S2.loc 7 g7 _ (by simp [St.sh,thE,A4]) hm7
 have l7d:w1.heap.size≤g7:=by
  rcases Nat.lt_or_ge g7 w1.heap.size with h | h
  ·obtain ⟨id,n,h⟩:=l7c h
   simp only [κ1] at h
   split at h
   ·cases h; exact absurd rfl h71
   ·cases h
  ·exact h
 have fr2:∀ k,k<w1.heap.size→k ≠ g1'→w2.heap[k]? = w1.heap[k]? := fun k hk hne=>S2.fr k hk fun id n h=>by
  simp only [κ1] at h
  split at h
  ·cases h; exact hne rfl
  ·cases h
 have hhR2:=(fr2 gR lRb (Ne.symm h1R)).trans hhR
 have sz2:=S2.size
 -- the store
 let xs:Nat→Value:=fun j=>arr.getD j undef
 have hxs:∀ j,j<arr.size→arr[j]? = some (xs j):=fun j hj=>by simp [xs,Array.getD,hj]
 have x8:xs 8=.int .u8 b8:=(hrR 2 0 _ _ _ rfl rfl (hxs 8 (by omega))).v_inv
 have frX:∀ k,k<w.heap.size→w2.heap[k]? = w.heap[k]? := fun k hk=>(fr2 k (Nat.lt_of_lt_of_le hk S.size) (by omega)).trans (S.fr k hk fun _ _ h=>by cases h)
 obtain ⟨d3,d4,rfl,hc3,hc4⟩:=qEs hd2
 have hdr':q7g 0 (.seq d3 d4)=some false:=by rw [hr2',Nat.zero_add]; exact hdr
 refine wp_seq (qDw (Q:=fun e a w=>Exit.then (d4.wp P Qw) Qw e a w) hc3 (fun id ops dr e=>?_) hsz2 p1' (vs:=[v1,v2,v3]) (by rw [hh2,hvN]) hhR2 (by omega) fun a3 z3 z4 z5=>?_)
 ·subst e
  simpa [q7g] using hdr'
 -- what stands behind the store
 generalize hA:(arr.toList.take 8++[Value.int .u8 b8']++arr.toList.drop 9).toArray=arr3
 have hsz3:arr3.size=arr.size:=by rw [← hA]; simp; omega
 have hget3:∀ j,j ≠ 8→arr3[j]? = arr[j]? := fun j hj=>by
  rw [← hA]
  simp only [List.getElem?_toArray,List.append_assoc]
  by_cases h:j<8
  ·rw [List.getElem?_append_left (by simp; omega),List.getElem?_take,if_pos h]; simp
  ·have e8:(arr.toList.take 8).length=8:=by simp; omega
   rw [List.getElem?_append_right (by omega),e8]
   obtain ⟨q,rfl⟩:∃ q,j=q+9:=⟨j - 9,by omega⟩
   rw [show q+9 - 8=q+1 by omega]
   simp only [List.singleton_append,List.getElem?_cons_succ,List.getElem?_drop]
   rw [show 9+q=q+9 by omega]
   simp
 have hget8:arr3[8]? = some (.int .u8 b8'):=by
  rw [← hA]
  simp only [List.getElem?_toArray,List.append_assoc]
  have e8:(arr.toList.take 8).length=8:=by simp; omega
  rw [List.getElem?_append_right (by omega),e8]
  simp
 have hw3R:(w2.setRow gR arr3).heap[gR]? = some (.cells arr3 ty (0,0)):=setRow_heap w2 gR arr _ ty _ hhR2
 have hw3:∀ j,j ≠ gR→(w2.setRow gR arr3).heap[j]? = w2.heap[j]? := fun j hj=>setRow_other w2 gR j _ hj
 have sz3:(w2.setRow gR arr3).heap.size=w2.heap.size:=by simp [World.setRow]
 have o3':(w2.setRow gR arr3).os=w2.os∧(w2.setRow gR arr3).tape=w2.tape∧(w2.setRow gR arr3).output=w2.output:=⟨rfl,rfl,rfl⟩
 generalize hW:w2.setRow gR arr3=w3 at *
 show d4.wp P Qw a3 w3
 have X1w3:Rw X1 w1 w3:=fun b hb=>by
  have h1:=S.xlt b hb
  rw [hw3 b (fun e=>lRa (e ▸ hb)),fr2 b h1 (fun e=>l1a (e ▸ hb))]
 let X4:Nat→Prop:=fun b=>b<w3.heap.size∧(X b∨w.heap.size≤b)
 have X14:∀ b,X1 b→X4 b:=fun b hb=>⟨by have:=S.xlt b hb; omega,hX1 b hb⟩
 have X24:∀ b,X2 b→X4 b:=fun b hb=>by
  refine ⟨by have:=S2.xlt b hb; omega,?_⟩
  rcases hb2 b hb with h | h | ⟨id,n,h⟩
  ·rcases h with h | rfl
   ·exact hX1 b h
   ·exact .inr lRd
  ·exact .inr (Nat.le_trans S.size h)
  ·simp only [κ1] at h
   split at h
   ·cases h; exact .inr l1d
   ·cases h
 have tN3:TR w3 X4 (.sl (Ql e0 e1 e2 e3 e4 e5 e6 e7 (.v (.int .u8 b8')) e9 e10 e11) none none) (.slice (some ⟨gR,0,none⟩) 3 c):=by
  have rows':∀ i k e t,(Ql e0 e1 e2 e3 e4 e5 e6 e7 (.v (.int .u8 b8')) e9 e10 e11)[i]? = some e→e[k]? = some t→(i*4+k=8∧t=.v (.int .u8 b8'))∨(i*4+k ≠ 8∧∃ e',(Ql e0 e1 e2 e3 e4 e5 e6 e7 (.v (.int .u8 b8)) e9 e10 e11)[i]? = some e'∧e'[k]? = some t):=by
   intro i k e t h1 h2
   obtain ⟨hi,hk,_⟩:=q9R h1 h2
   match i,hi,k,hk,h1,h2 with
   | 0,_,0,_,h1,h2 | 0,_,1,_,h1,h2 | 0,_,2,_,h1,h2 | 0,_,3,_,h1,h2 | 1,_,0,_,h1,h2 | 1,_,1,_,h1,h2 | 1,_,2,_,h1,h2 | 1,_,3,_,h1,h2 | 2,_,1,_,h1,h2 | 2,_,2,_,h1,h2 | 2,_,3,_,h1,h2 =>
    cases h1; cases h2; exact .inr ⟨by omega,_,rfl,rfl⟩
   | 2,_,0,_,h1,h2=>cases h1; cases h2; exact .inl ⟨rfl,rfl⟩
  refine .sl _ none none 4 gR 0 c (fun i k=>arr3.getD (i*4+k) undef) (fun i k hi hk=>?_) (fun i e he=>?_) (fun i k e t h1 h2=>?_) (fun i k e t h1 h2=>?_) ⟨by omega,.inr lRd⟩ hc3' (fun _ h=>by cases h) (fun _ h=>by cases h)
  ·have hi':i<3:=hi
   have hj:i*4+k<arr3.size:=by omega
   rw [Nat.zero_add]
   exact q87 hw3R (by rw [Array.getD_eq_getD_getElem?,Array.getElem?_eq_getElem hj]; rfl)
  ·match i,he with
   | 0,he=>cases he; rfl
   | 1,he=>cases he; rfl
   | 2,he=>cases he; rfl
   | i+3,he=>simp [Ql] at he
  ·obtain ⟨hi,hk,_⟩:=q9R h1 h2
   have hj:i*4+k<arr.size:=by omega
   rcases rows' i k e t h1 h2 with ⟨h8,rfl⟩ | ⟨h8,e',h3,h4⟩
   ·rw [h8]
    have:arr3.getD 8 undef=.int .u8 b8':=by simp [Array.getD_eq_getD_getElem?,hget8]
    rw [this]; exact .v _
   ·have:arr3.getD (i*4+k) undef=arr[i*4+k]:=by rw [Array.getD_eq_getD_getElem?,hget3 _ h8]; simp [hj]
    rw [this]
    exact (hrR i k e' t arr[i*4+k] h3 h4 (by simp [hj])).mono X1w3 X14
  ·rcases rows' i k e t h1 h2 with ⟨h8,rfl⟩ | ⟨h8,e',h3,h4⟩
   ·rfl
   ·exact (rows i e' h3).2 k t h4
 have cell3:∀ k i,X2 k→¬ (k=gR∧i=8)→w3.cell? ⟨k,i,none⟩=w2.cell? ⟨k,i,none⟩:=fun k i hk hne=>by
  by_cases hkR:k=gR
  ·subst hkR
   simp only [World.cell?,hw3R,hhR2]
   have h8:i ≠ 8:=fun e=>hne ⟨rfl,e⟩
   simpa using hget3 i h8
  ·simp only [World.cell?,hw3 k hkR]
 have t7':=qFr (Y:=X4) t7 (show w2.cell? ⟨gR,8,none⟩=some (.int .u8 b8) by simp [World.cell?,hhR2,hxs 8 (by omega),x8]) cell3 X24
 have h7R:g7 ≠ gR:=by omega
 have hh73:=(hw3 g7 h7R).trans hh7
 have hh13:=(hw3 g1' h1R).trans hh2
 have kt:∀ {t:Nat},t<156→a3.tmps.getD t undef=a2.tmps.getD t undef:=fun {t} ht=>z5 t ht
 refine fin rest d4 (thS (Ql e0 e1 e2 e3 e4 e5 e6 e7 (.v (.int .u8 b8')) e9 e10 e11) nm mm ou z y0 y1 y2 y4 (.sl (lo.map fun n=>[.v (.int .i64 n)]) co no) s11 s12 s17 s18) a3 w3 hc4 ⟨X4,fun _=>none,⟨fun t a ht=>?_,fun id r hr=>by simp [thS,A4] at hr,fun _ _ _ _ _ _ _ h=>(by cases h),fun _ _ _ _ h=>(by cases h),fun _ _ _=>rfl,fun _ _ h=>(by cases h),fun b hb=>hb.1,?_,?_,?_,by rw [sz3]; have:=S.size; omega,fun k hk _=>?_⟩,?_,fun b hb=>⟨by have:=hX b hb; have:=S.size; omega,.inl hb⟩,fun b hb=>?_,z3,z4.trans hds2⟩ (hS _ _ _ _)
 ·simp only [thS,A4] at ht
  split at ht
  ·rename_i e; subst e; cases ht
   rw [kt (by omega),p1']
   refine .t _ _ (.ip _ 0 g1' 0 (fun j=>[(.slice (some ⟨gR,0,none⟩) 3 c:Value),v1,v2,v3].getD j undef) (fun j hj=>?_) (fun j t ht=>?_) (fun j t ht=>?_) ⟨by omega,.inr l1d⟩)
   ·have hj4:j<4:=hj
    match j,hj4 with
    | 0,_ | 1,_ | 2,_ | 3,_=>exact q87 hh13 (by rw [hvN]; rfl)
   ·match j,ht with
    | 0,ht=>cases ht; exact tN3
    | 1,ht=>cases ht; exact t1.mono X1w3 X14
    | 2,ht=>cases ht; exact t2.mono X1w3 X14
    | 3,ht=>cases ht; exact t3.mono X1w3 X14
    | j+4,ht=>simp at ht
   ·match j,ht with
    | 0,ht=>cases ht; rfl
    | 1,ht=>cases ht; exact one1 1 _ rfl
    | 2,ht=>cases ht; exact one1 2 _ rfl
    | 3,ht=>cases ht; exact one1 3 _ rfl
    | j+4,ht=>simp at ht
  split at ht
  ·rename_i e; subst e; cases ht
   rw [kt (by omega),p3']; exact .t _ _ (tz.mono X1w3 X14)
  split at ht
  ·rename_i e; subst e; cases ht
   rw [kt (by omega),p7']
   refine .t _ _ (.ip _ 0 g7 0 (fun j=>[y0,y1,y2,y3,y4].getD j undef) (fun j hj=>?_) (fun j t ht=>?_) (fun j t ht=>?_) ⟨by omega,.inr (by have:=S.size; omega)⟩)
   ·have hj5:j<5:=hj
    match j,hj5 with
    | 0,_ | 1,_ | 2,_ | 3,_ | 4,_=>exact q87 hh73 rfl
   ·match j,ht with
    | 0,ht=>cases ht; exact .v _
    | 1,ht=>cases ht; exact .v _
    | 2,ht=>cases ht; exact .v _
    | 3,ht=>cases ht; exact t7'
    | 4,ht=>cases ht; exact .v _
    | j+5,ht=>simp at ht
   ·match j,ht with
    | 0,ht=>cases ht; exact oy 0 _ _ rfl rfl
    | 1,ht=>cases ht; exact oy 1 _ _ rfl rfl
    | 2,ht=>cases ht; exact oy 2 _ _ rfl rfl
    | 3,ht=>cases ht; rfl
    | 4,ht=>cases ht; exact oy 4 _ _ rfl rfl
    | j+5,ht=>simp at ht
  split at ht
  ·rename_i e; subst e; cases ht; rw [kt (by omega)]; exact .t _ _ (q88 z11 hfl.1)
  split at ht
  ·rename_i e; subst e; cases ht; rw [kt (by omega)]; exact .t _ _ (q88 z12 hfl.2.1)
  split at ht
  ·rename_i e; subst e; cases ht; rw [kt (by omega)]; exact .t _ _ (q88 z17 hfl.2.2.1)
  split at ht
  ·rename_i e; subst e; cases ht; rw [kt (by omega)]; exact .t _ _ (q88 z18 hfl.2.2.2)
  ·cases ht
 ·exact o3'.1.trans (S2.os.trans S.os)
 ·exact o3'.2.1.trans (S2.tape.trans S.tape)
 ·exact o3'.2.2.trans (S2.output.trans S.output)
 ·rw [hw3 k (by omega)]; exact frX k hk
 ·refine hg.mono (fun b hb=>?_) fun b hb=>⟨by have:=hX b hb; have:=S.size; omega,.inl hb⟩
  have:=hX b hb
  rw [hw3 b (by omega)]; exact frX b this
 ·rcases hb.2 with h | h
  ·exact .inl h
  ·exact .inr (.inl h)
end
end Go.Lg
namespace Go.Lg
open Go
section
variable {P:Program} {Γ:Tables}
def Imp (t' t:T):Prop:=∀ (w:World) (X:Nat→Prop) (v:Value),TR w X t' v→TR w X t v
theorem Imp.refl (t:T):Imp t t:=fun _ _ _ h=>h
theorem Imp.pin (t:T) (x:Value):Imp (.pin t x) t:=fun _ _ _ h=>by cases h; assumption
inductive q3O:List T→List T→Prop
 | nil:q3O [] []
 | cons {t' t:T} {ts' ts:List T} (h:Imp t' t) (hs:q3O ts' ts):q3O (t'::ts') (t::ts)
theorem q3O.refl:∀ (ts:List T),q3O ts ts
 | []=>.nil
 | t::ts=>.cons (.refl t) (q3O.refl ts)
theorem q3O.len {ts' ts:List T} (h:q3O ts' ts):ts'.length=ts.length:=by induction h <;> simp_all
theorem q3O.get {ts' ts:List T} (h:q3O ts' ts):∀ {k:Nat} {t:T},ts[k]? = some t→∃ t',ts'[k]? = some t'∧Imp t' t:=by
 induction h with
 | nil=>intro k t h; simp at h
 | cons h hs ih =>
  intro k t hk
  cases k with
  | zero=>simp at hk; subst hk; exact ⟨_,rfl,h⟩
  | succ k=>simp at hk; simpa using ih hk
theorem q3O.trs {ts' ts:List T} (h:q3O ts' ts) {w:World} {X:Nat→Prop} {vs:List Value} (ht:F5 w X ts' vs):F5 w X ts vs :=
 ⟨by rw [← h.len]; exact ht.1,fun k t x hk hx=>by
  obtain ⟨t',h1,h2⟩:=h.get hk
  exact h2 w X x (ht.2 k t' x h1 hx)⟩
theorem Imp.agg {ts' ts:List T} (h:q3O ts' ts) (ho:Cb ts=true):Imp (.agg ts') (.agg ts):=fun w X v hv=>by
 obtain ⟨xs,rfl,_,hr⟩:=hv.agg_inv
 exact TR.mk_agg ho (h.trs hr)
inductive q7i:List (List T)→List (List T)→Prop
 | nil:q7i [] []
 | cons {t' t:List T} {ts' ts:List (List T)} (h:q3O t' t) (hs:q7i ts' ts):q7i (t'::ts') (t::ts)
theorem q7i.len {ts' ts:List (List T)} (h:q7i ts' ts):ts'.length=ts.length:=by induction h <;> simp_all
theorem q7i.get {ts' ts:List (List T)} (h:q7i ts' ts):∀ {k:Nat} {t:List T},ts[k]? = some t→∃ t',ts'[k]? = some t'∧q3O t' t:=by
 induction h with
 | nil=>intro k t h; simp at h
 | cons h hs ih =>
  intro k t hk
  cases k with
  | zero=>simp at hk; subst hk; exact ⟨_,rfl,h⟩
  | succ k=>simp at hk; simpa using ih hk
theorem Imp.sl {es' es:List (List T)} {cap:Option Nat} {nl:Option Bool} (h:q7i es' es) (ho:∀ e ∈ es,Cb e=true):Imp (.sl es' cap nl) (.sl es cap nl):=fun w X v hv=>by
 cases hv with
 | nil cap nl a c hc hn hz =>
  have:es=[]:=by cases h; rfl
  subst this
  exact .nil cap nl a c hc hn hz
 | sl es' cap nl s b off c f hcell hlen hrel hone hx hle hc hn =>
  rw [h.len]
  refine .sl es cap nl s b off c f (fun i k hi hk=>hcell i k (by rw [h.len]; exact hi) hk) (fun i e he=>?_) (fun i k e t he ht=>?_) (fun i k e t he ht=>?_) hx (by rw [← h.len]; exact hle) hc hn
  ·obtain ⟨e',h1,h2⟩:=h.get he
   rw [← h2.len]; exact hlen i e' h1
  ·obtain ⟨e',h1,h2⟩:=h.get he
   obtain ⟨t',h3,h4⟩:=h2.get ht
   exact h4 w X _ (hrel i k e' t' h1 h3)
  ·exact List.all_eq_true.1 (ho e (List.mem_of_getElem? he)) t (List.mem_of_getElem? ht)
theorem Ae.imp {f:FuncId} {ts' ts:List T} {res:T} (h:Ae P Γ f ts res) (hi:q3O ts' ts):Ae P Γ f ts' res:=fun w X vs hg hx hr=>h w X vs hg hx (hi.trs hr)
theorem A6.imp {f:FuncId} {ts' ts:List T} {res:T} (h:A6 P Γ f ts res) (hi:q3O ts' ts):A6 P Γ f ts' res:=fun w X vs hg hx hr=>h w X vs hg hx (hi.trs hr)
end
end Go.Lg
namespace Go.Lg
open Go Go.Proofs
variable {Γ:Tables}
def U0 (k:Int):B7:=⟨⟨[⟨0,⟨[],some 0,some true⟩,0,0⟩,⟨14,⟨[2],some 1,some false⟩,0,0⟩,⟨k,⟨[0,1],some 2,some false⟩,0,0⟩],none,none⟩,⟨[[97],[113],[120]],some 3,some false⟩,⟨[],some 0,some true⟩,⟨[2],some 1,some false⟩⟩
theorem qDy (k:Int) (hk:0≤k∧k≤255):COk (U0 k):=by
 refine ⟨⟨by simp [U0],by simp [U0],by simp [U0],by simp [U0],?_,?_,?_⟩,?_⟩
 ·intro x hx; simp [U0] at hx; rcases hx with rfl | rfl | rfl <;> simp [hk]
 ·intro x hx; simp [U0] at hx; rcases hx with rfl | rfl | rfl <;> simp [hk]
 ·intro m hm; simp [U0] at hm
 ·intro s hs b hb; simp [U0] at hs; rcases hs with rfl | rfl | rfl <;> simp at hb <;> subst hb <;> decide
theorem qHh:MOk (U0 9):=⟨qDy 9 (by omega),by decide +kernel,by decide⟩
theorem qKe:MOk (U0 5):=⟨qDy 5 (by omega),by decide +kernel,by decide⟩
def q5L:K3:=⟨⟨[0],some 1,some false⟩,⟨[],some 0,some true⟩,⟨[],some 0,some true⟩⟩
theorem qIj:J2 (U0 9) q5L:=⟨by decide,rfl,rfl,fun i hi=>absurd hi (by simp [U0]),fun i hi=>absurd hi (by simp [U0]),fun i hi=>absurd hi (by simp [U0]),by intro v hv; simp [q5L] at hv; subst hv; omega,by intro w hw; simp [q5L] at hw,by intro w hw; simp [q5L] at hw⟩
theorem qKf:qHP q5L:=⟨fun h=>by simp [q5L] at h,by intro w hw; simp [q5L] at hw,by intro w hw; simp [q5L] at hw⟩
theorem qBJ (k:Int) (l:List (Sl Int)) (h:∀ x ∈ l,x.l=[0]∨x.l=[1]) (hk:(Da (U0 k)).length=1):qBE (U0 k) l:=fun x hx=>by
 rcases h x hx with e | e <;> rw [e] <;> refine ⟨hk.symm,fun v hv=>?_⟩ <;> simp at hv <;> subst hv <;> unfold V4 <;> omega
theorem qIk (hΓ:GOk Γ):Ae Tryz.prog Γ 24 [.agg (tC (U0 9)),.agg (Bg q5L),tW ⟨[⟨[1],some 1,some false⟩,⟨[1],some 1,some false⟩,⟨[0],some 1,some false⟩],some 3,some false⟩]
  (.tup [.sl (Ao Pi [([1],[1]),([0],[0]),([0],[0])]) (some 3) none,.agg (Bg (seqS (U0 9) (Ta q5L) [[1],[1],[0]])),tI 0]):=by
 have h:=q9K hΓ (U0 9) qHh (by decide) q5L qIj qKf ⟨[⟨[1],some 1,some false⟩,⟨[1],some 1,some false⟩,⟨[0],some 1,some false⟩],some 3,some false⟩ (by decide) (qBJ 9 _ (by simp) (by decide +kernel))
 have e:seqR (U0 9) (Ta q5L) [[1],[1],[0]]=[([1],[1]),([0],[0]),([0],[0])]:=by decide +kernel
 simp only [List.map_cons,List.map_nil] at h
 rw [e] at h
 exact h
theorem qIl:(seqS (U0 9) (Ta q5L) [[1],[1],[0]]).dff.l=[0]:=by decide +kernel
theorem qHi (hΓ:GOk Γ):Ae Tryz.prog Γ 28 [.agg (tC (U0 9)),tW ⟨[⟨[1],some 1,some false⟩,⟨[1],some 1,some false⟩],some 2,some false⟩] (.tup [.sl [] (some 0) none,tI 0]):=by
 have h:=q3K hΓ (U0 9) qHh (by decide) ⟨[⟨[1],some 1,some false⟩,⟨[1],some 1,some false⟩],some 2,some false⟩ (by decide) (qBJ 9 _ (by simp) (by decide +kernel))
 have e:q6G (seqS (U0 9) (Ta (L0 (U0 9))) [[1],[1]]).dff.l 0 (Ag (U0 9))=[]:=by decide +kernel
 simp only [List.map_cons,List.map_nil] at h
 rw [e] at h
 exact h
theorem qHj (hΓ:GOk Γ):Ae Tryz.prog Γ 28 [.agg (tC (U0 5)),tW ⟨[⟨[0],some 1,some false⟩],some 1,some false⟩] (.tup [.sl (Ax [1]) (some 1) none,tI 0]):=by
 have h:=q3K hΓ (U0 5) qKe (by decide) ⟨[⟨[0],some 1,some false⟩],some 1,some false⟩ (by decide) (qBJ 5 _ (by simp) (by decide +kernel))
 have e:q6G (seqS (U0 5) (Ta (L0 (U0 5))) [[0]]).dff.l 0 (Ag (U0 5))=[1]:=by decide +kernel
 simp only [List.map_cons,List.map_nil] at h
 rw [e] at h
 exact h
theorem qCi:F9 Tryz.prog Γ 77 [] [] (.ag [.ls 6 0 3 none,.t (.sl (Af tS [[97],[113],[120]]) (some 3) (some false)),.t (.sl [] (some 0) (some true)),.t (.sl (Ax [2]) (some 1) (some false))]) [(0,.bx [.ls 6 0 3 none,.t (.sl (Af tS [[97],[113],[120]]) (some 3) (some false)),.t (.sl [] (some 0) (some true)),.t (.sl (Ax [2]) (some 1) (some false))]),(6,.sl 45 4 (Ao Bt (U0 9).nodes.l))]:=by
 refine Ht q6E rfl ?_
 simp [q1C,q1D,U0,Ao,Af,Bt,B5,tS,sV,D5]
def qKg:List IC:=[q28,q29,q2A,q2B,q2C,q2D,q2E,q1E,q1F,q1G]
def qDz:IC:=.seq q24 (.seq q25 .ret)
def qNF:IC:=q3M [Yf,Yg,Yh] (q3M qKg (.seq (.reg (q9o 5) []) qDz))
theorem qKh:Aw Tryz.prog 22 qNF 200 0 Yi=true:=by kernel_rfl
theorem qKi:((Tryz.prog.funcs[(22:Nat)]?).bind (·.body)).bind (q7g 13)=some false:=by kernel_rfl
def q3P (k:Int):List (List T):=Ql (tK 0) (.sl [] (some 0) (some true)) (tI 0) (tI 0) (tK 14) (.sl [[tI 2]] (some 1) (some false)) (tI 0) (tI 0) (.v (.int .u8 k)) (.sl [[tI 0],[tI 1]] (some 2) (some false)) (tI 0) (tI 0)
def qCj:T:=.sl [[tS [97]],[tS [113]],[tS [120]]] (some 3) (some false)
def qCk:T:=.sl [] (some 0) (some true)
def qCl:T:=.sl [[tI 2]] (some 1) (some false)
def lvO:T:=.sl [[tK 1]] (some 1) (some false)
def lvZ:T:=.sl [[tK 0]] (some 1) (some false)
theorem qMS:run Tryz.prog Γ (q3M [Yf,Yg,Yh] .skip) (fun e s'=>e=.normal∧s'=qDx 45 (q3P 9) qCj qCk qCl lvO lvZ) ⟨params 0 [],[]⟩:=by
 have e1:=qCi (Γ:=Γ)
 simp [U0,Ao,Af,Bt,B5] at e1
 simp [q3M,Yf,Yg,Yh]
 refine ⟨_,_,e1,?_⟩
 simp [qDx,q3P,Ql,qCj,qCk,qCl,lvO,lvZ]
theorem qNG (hΓ:GOk Γ) (y0 y1 y2 y4:Value):run Tryz.prog Γ qDz (ret false Yi fun r=>r=tB true) (thS (q3P 5) qCj qCk qCl lvZ y0 y1 y2 y4 (.sl (Ax [2,4,5,6]) (some 4) none) (tS [49,48,48]) (tS [49,48,48]) (.sl [] (some 0) none) (tI 0)):=by
 have e1:=qHj hΓ
 simp [U0,tC,A7,A9,Ac,tW,tV,Ao,Af,Bt,B5] at e1
 have e2:=q3e (Γ:=Γ) [2,4,5,6] (by decide) (some 4) none (some false)
 have e3:=q3e (Γ:=Γ) [1] (by decide) (some 1) none (some false)
 simp [Af] at e2 e3
 simp [qDz,q24,q25,thS,q3P,Ql,qCj,qCk,qCl,lvO,lvZ,Af]
 refine Ad e1 rfl ?_
 simp [tS,sV]
 refine A3 e2 rfl ?_
 simp
 refine A3 e3 rfl ?_
 simp [Yi]
def q7v (a st:List Int):Nat→Nat→List Nd→List Int
 | _,_,[]=>[]
 | i,k,x::xs=>if x.k=0 then a.getD i 0::q7v a st (i+1) k xs else if x.k=14 then st.getD k 0::q7v a st i (k+1) xs else q7v a st i k xs
def q2Q (q:Int):List Nd→Nat
 | []=>0
 | x::xs=>(if x.k=q then 1 else 0)+q2Q q xs
theorem qBK {q:Int}:∀ {l:List Nd} {i:Nat},(ofL [q] l i).length=q2Q q l
 | [],_=>rfl
 | x::xs,i=>by
  simp only [ofL,q2Q]
  have ih:=qBK (q:=q) (l:=xs) (i:=i+1)
  by_cases h:x.k=q
  ·simp [h,ih]; omega
  ·have:[q].contains x.k=false:=by simpa using h
   simp [h,this,ih]
theorem q6L {a st:List Int}:∀ {l:List Nd} {i k:Nat},(q7v a st i k l).length=q2Q 0 l+q2Q 14 l
 | [],_,_=>rfl
 | x::xs,i,k=>by
  simp only [q7v,q2Q]
  by_cases h0:x.k=0
  ·have h14:¬ (0:Int)=14:=by omega
   simp [h0,q6L (l:=xs)]; omega
  ·by_cases h14:x.k=14
   ·simp [h0,h14,q6L (l:=xs)]; omega
   ·simp [h0,h14,q6L (l:=xs)]
theorem qBL {Q:AX→St→Prop} (c:B7) (hm:c.nodes.l.length≤16) (st:Sl Int) (a:Sl Int) (ins:List (Sl Int)) (ic:Option Nat) (il:Option Bool) (R:List Int)
  (ha:a.l.length=q2Q 0 c.nodes.l) (hs:st.l.length=q2Q 14 c.nodes.l)
  (h0:∀ i k:Nat,Q (.exit 1) ⟨[(1,.t (tV st)),(2,.t (.sl (Af tV (a::ins)) ic il)),(6,.lp 6 0 0),(12,.ls 72 0 R.length none),(13,.t (tI i)),(14,.t (tI k)),(54,.t (A7 c.nodes)),(55,.t (tI c.nodes.l.length)),(56,.t (tI c.nodes.l.length)),(57,.t (tB false))],[(6,.bx [.t Ar,.t Ar]),(72,.sl 71 1 (Az R))]⟩) :
  ∀ (q j i k:Nat) (out:List Int),q+j=c.nodes.l.length→out.length=i+k→i+q2Q 0 (c.nodes.l.drop j)=a.l.length→k+q2Q 14 (c.nodes.l.drop j)=st.l.length→out++q7v a.l st.l i k (c.nodes.l.drop j)=R →
  run Tryz.prog Γ Jz Q ⟨[(1,.t (tV st)),(2,.t (.sl (Af tV (a::ins)) ic il)),(6,.lp 6 0 0),(12,.ls 72 0 out.length none),(13,.t (tI i)),(14,.t (tI k)),(54,.t (A7 c.nodes)),(55,.t (tI c.nodes.l.length)),(56,.t (tI j))],[(6,.bx [.t Ar,.t Ar]),(72,.sl 71 1 (Az out))]⟩
 | 0,j,i,k,out,h,ho,hi,hk,hR=>by
  refine Ro fun K hK=>?_
  have h2:j=c.nodes.l.length:=by omega
  subst h2
  rw [List.drop_length] at hR
  simp only [q7v,List.append_nil] at hR
  subst hR
  have:=h0 i k
  simp [Ar,tV,A7] at this
  simp [Ar,tV,A7]
  simpa using this
 | q+1,j,i,k,out,h,ho,hi,hk,hR=>by
  refine Ro fun K hK=>?_
  have h2:j<c.nodes.l.length:=by omega
  rw [List.drop_eq_getElem_cons h2] at hi hk hR
  simp only [q2Q,q7v] at hi hk hR
  have e1:(Ao Bt c.nodes.l)[j]?.getD []=Bt c.nodes.l[j]:=by simp [Ao,h2]
  have e1':∀ h,(Ao Bt c.nodes.l)[j]'h=Bt c.nodes.l[j]:=fun h=>by simp [Ao]
  generalize c.nodes.l[j]=x at *
  obtain ⟨xk,xin,xm,xb⟩:=x
  simp only at hi hk hR
  simp only [Bt,B5] at e1 e1'
  have h3:(j:Int)<c.nodes.l.length:=by omega
  have w1:=B8 (i:=j) (by omega)
  have vt:(Az out).take out.length=Az out:=E5
  have hle:q2Q 0 c.nodes.l≤16∧q2Q 14 c.nodes.l≤16:=by
   have:∀ (l:List Nd) (z:Int),q2Q z l≤l.length:=fun l z=>by
    induction l with
    | nil=>simp [q2Q]
    | cons x xs ih=>simp only [q2Q,List.length_cons]; split <;> omega
   have a1:=this c.nodes.l 0
   have a2:=this c.nodes.l 14
   omega
  by_cases c0:xk=0
  ·rw [if_pos c0] at hi hR
   rw [if_neg (by omega)] at hk
   have hlt:i<a.l.length:=by omega
   have e2:=gE (f:=tK) 0 hlt
   have e2':=gE' (f:=tK) 0 hlt
   have ih:=qBL c hm st a ins ic il R ha hs h0 q (j+1) (i+1) k (out++[a.l.getD i 0]) (by omega) (by simp; omega) (by omega) (by omega) (by rw [← hR]; simp)
   have vs:=q0r (l:=out) (v:=a.l.getD i 0)
   generalize a.l.getD i 0=v at *
   have h4:(i:Int)<a.l.length:=by omega
   have w2:=B8 (i:=i) (by omega)
   simp [Ar,tV,A7,Fz] at ih
   simp [Ar,tV,A7,Aa,Aq,h2,h3,e1,e1',c0,Fz,A0,A8,hlt,h4,e2,e2',vt,vs,w2,w1]
   refine ⟨(A8:D5 1 (Af tV (a::ins))),by omega,?_⟩
   rw [hK]
   simpa using ih
  ·by_cases c14:xk=14
   ·rw [if_pos c14] at hk
    rw [if_neg c0] at hi
    rw [if_neg c0,if_pos c14] at hR
    have hlt:k<st.l.length:=by omega
    have e2:=gE (f:=tK) 0 hlt
    have e2':=gE' (f:=tK) 0 hlt
    have ih:=qBL c hm st a ins ic il R ha hs h0 q (j+1) i (k+1) (out++[st.l.getD k 0]) (by omega) (by simp; omega) (by omega) (by omega) (by rw [← hR]; simp)
    have vs:=q0r (l:=out) (v:=st.l.getD k 0)
    generalize st.l.getD k 0=v at *
    have h4:(k:Int)<st.l.length:=by omega
    have w2:=B8 (i:=k) (by omega)
    simp [Ar,tV,A7,Fz] at ih
    simp [Ar,tV,A7,Aa,Aq,h2,h3,e1,e1',c14,Fz,A0,A8,hlt,h4,e2,e2',vt,vs,w2,w1]
    refine ⟨by omega,?_⟩
    rw [hK]
    simpa using ih
   ·rw [if_neg c14] at hk
    rw [if_neg c0] at hi
    rw [if_neg c0,if_neg c14] at hR
    have ih:=qBL c hm st a ins ic il R ha hs h0 q (j+1) i k out (by omega) ho (by omega) (by omega) hR
    simp [Ar,tV,A7,Fz] at ih
    simp [Ar,tV,A7,Aa,Aq,h2,h3,e1,e1',c0,c14,w1,Fz]
    rw [hK]
    simpa using ih
theorem qHk {Q:AX→St→Prop} (ins:List (Sl Int)) (ic:Option Nat) (il:Option Bool) (hl:ins.length≤1000) (hx:∀ x ∈ ins,x.l.length≤1000000) (R:List Int)
  (h0:Q (.exit 4) ⟨[(6,.lp 6 0 0),(12,.ls 72 0 R.length none),(88,.t (.sl (Af tV ins) ic il)),(89,.t (tI ins.length)),(90,.t (tI ins.length)),(91,.t (tB false))],[(6,.bx [.t Ar,.t Ar]),(72,.sl 71 1 (Az R))]⟩) :
  ∀ (k i:Nat) (out:List Int),k+i=ins.length→out.length≤1000000+i*1000000→out++(ins.drop i).flatMap (·.l)=R →
  run Tryz.prog Γ K0 Q ⟨[(6,.lp 6 0 0),(12,.ls 72 0 out.length none),(88,.t (.sl (Af tV ins) ic il)),(89,.t (tI ins.length)),(90,.t (tI i))],[(6,.bx [.t Ar,.t Ar]),(72,.sl 71 1 (Az out))]⟩
 | 0,i,out,h,ho,hR=>by
  refine Rq fun K hK=>?_
  have h2:i=ins.length:=by omega
  subst h2
  rw [List.drop_length] at hR
  simp only [List.flatMap_nil,List.append_nil] at hR
  subst hR
  simp [Ar] at h0
  simp [Ar]
  simpa using h0
 | k+1,i,out,h,ho,hR=>by
  refine Rq fun K hK=>?_
  have h2:i<ins.length:=by omega
  rw [List.drop_eq_getElem_cons h2] at hR
  simp only [List.flatMap_cons] at hR
  have e1:=gE (f:=tV) Sl.z h2
  have e1':=gE' (f:=tV) Sl.z h2
  rw [show ins.getD i Sl.z=ins[i] by simp [List.getD_eq_getElem?_getD,h2]] at e1 e1'
  have hx1:=hx _ (List.getElem_mem h2)
  generalize ins[i]=x at *
  have ih:=qHk ins ic il hl hx R h0 k (i+1) (out++x.l) (by omega) (by simp; omega) (by rw [← hR]; simp)
  have vs:Az out++Az x.l=Az (out++x.l):=q5e
  have vt:(Az out).take out.length=Az out:=E5
  have h3:(i:Int)<ins.length:=by omega
  have w1:=B8 (i:=i) (by omega)
  simp only [tV] at e1 e1'
  simp [Ar] at ih
  simp [Ar,A0,A8,h2,h3,e1,e1',vs,vt,w1]
  refine ⟨by omega,?_⟩
  rw [hK]
  simpa using ih
theorem qFs (x:Sl Int) (n:Nat) (h:x.l.length=n):Ae Tryz.prog Γ 99 [tV x,.ip [tI n] 0] (tB false):=by
 refine B1 q3G rfl ?_
 simp [W7,tV,A0,h,W8]
theorem qE0 (v:Int):A6 Tryz.prog Γ 102 [tK v] (tB (decide (3<v))):=by
 refine Ab q1n rfl ?_
 simp [Rr,Rt]
theorem qFt (v:Int):A6 Tryz.prog Γ 104 [tK v] (tB (decide (2<v))):=by
 refine Ab q3I rfl ?_
 simp [Wb,Wc]
theorem qAh {l:List Int} {b:Int} (h:∀ v ∈ l,v≤b):l.any (fun v=>decide (b<v))=false:=by
 rw [List.any_eq_false]
 intro v hv
 have:=h v hv
 simp; omega
theorem qFu (x:Sl Int) (hl:x.l.length≤1000000) (hv:∀ v ∈ x.l,V4 v):A6 Tryz.prog Γ 100 [tV x] (tB false):=by
 refine Ab q3H rfl ?_
 have e:=Dx (Γ:=Γ) x.l x.cap x.nl 102 [] (fun v=>decide (3<v)) (fun v _=>qE0 v) (by omega)
 rw [qAh (fun v h=>(hv v h).2)] at e
 simp [W9,tV]
 refine A3 e rfl ?_
 simp [Wa]
def qFv (c:B7) (st:List Int) (ins:List (Sl Int)):List Int:=q7v (ins.headD ⟨[],none,none⟩).l st 0 0 c.nodes.l++(ins.drop 1).flatMap (·.l)
theorem q5M {c:B7}:(Da c).length=q2Q 0 c.nodes.l:=qBK
theorem q5N {c:B7}:(Ag c).length=q2Q 14 c.nodes.l:=qBK
set_option maxHeartbeats 2000000 in
theorem qBM (hΓ:GOk Γ) (c:B7) (hc:NOk c) (ho:c.outs.l.length≤16) (st:Sl Int) (hs:st.l.length=(Ag c).length) (hs2:∀ v ∈ st.l,0≤v∧v≤2) (ins:Sl (Sl Int)) (h1:1≤ins.l.length) (h8:ins.l.length≤8) (hv:qBE c ins.l) :
  Ae Tryz.prog Γ 32 [.agg (tC c),tV st,tW ins] (.tup [.agg [.sl (Az (qFv c st.l ins.l)) (some (qFv c st.l ins.l).length) none,Ar],tI 0]):=by
 refine B1 q5I rfl ?_
 have hil:=Sz c
 have hsl:=C5 c
 have hn:=hc.n2
 obtain ⟨il,ic,inl⟩:=ins
 simp only at h1 h8 hv
 obtain ⟨a,rest,rfl⟩:∃ a rest,il=a::rest:=by cases il with | nil=>simp at h1 | cons a r=>exact ⟨a,r,rfl⟩
 have e1:=q6H hΓ c hc ho (a::rest).length h1 h8
 have e2:=Uf (Γ:=Γ) c hc.ok
 have e3:=Ek (Γ:=Γ) c hc.ok
 have e4:=q3a (Γ:=Γ) (a::rest) ic inl 99 [.ip [tI (Da c).length] 0] (fun x hx=>.inl (qFs x _ (hv x hx).1)) (by omega)
 have e5:=q3a (Γ:=Γ) (a::rest) ic inl 100 [] (fun x hx=>.inr (qFu x (by rw [(hv x hx).1]; omega) (hv x hx).2)) (by omega)
 have e6:=Dx (Γ:=Γ) st.l st.cap st.nl 104 [] (fun v=>decide (2<v)) (fun v _=>qFt v) (by omega)
 rw [qAh (fun v h=>(hs2 v h).2)] at e6
 have ha:=hv a List.mem_cons_self
 have g1:=fun Q h0=>qBL (Γ:=Γ) (Q:=Q) c hn st a rest ic inl (q7v a.l st.l 0 0 c.nodes.l) (by rw [ha.1,q5M]) (by rw [hs,q5N]) h0 c.nodes.l.length 0 0 0 [] (by omega) rfl (by rw [ha.1,q5M]; simp) (by rw [hs,q5N]; simp) (by simp)
 have hp:(q7v a.l st.l 0 0 c.nodes.l).length≤1000000:=by rw [q6L,← q5M,← q5N]; omega
 have g3:=fun Q cc nn h0=>qHk (Γ:=Γ) (Q:=Q) rest cc nn (by simp at h8; omega) (fun x hx=>by rw [(hv x (List.mem_cons_of_mem _ hx)).1]; omega) (qFv c st.l (a::rest)) h0 rest.length 0 (q7v a.l st.l 0 0 c.nodes.l) (by omega) (by omega) (by simp [qFv])
 generalize qFv c st.l (a::rest)=R at *
 have hcl:=q8z (Γ:=Γ) (Az R) none none A8
 rw [A0] at hcl
 have ht:(Az R).take R.length=Az R:=E5
 simp [tC,A7,A9,Ac,B5] at e1 e2 e3
 simp [Ar,tV,A7,By,Fz] at g1
 simp [Ar,tV,Fz] at g3
 simp only [Fz] at e4 e5
 simp only [tV] at e4 e5
 have hrl:(Da c).length≤1000:=by omega
 simp [q02,tC,A7,A9,Ac,B5,tV,tW,Fz,A0]
 refine Ad e1 rfl ?_
 simp
 refine Ad e2 rfl ?_
 simp [St.freeze,Bc.closed,Bi,frz1,frz0,Dq,del,Aj]
 refine Ad e3 rfl ?_
 simp [A0,hs]
 refine A3 e4 rfl ?_
 simp
 refine A3 e5 rfl ?_
 simp
 refine A3 e6 rfl ?_
 simp [Aa]
 refine g1 _ (fun i k=>?_)
 simp [A0]
 refine ⟨(A8:D5 1 (Af tV (a::rest))),?_⟩
 refine g3 _ _ _ ?_
 simp [St.freeze,Bc.closed,Bi,frz1,frz0,Dq,del,Aj,ht]
 refine Ad hcl rfl ?_
 simp [q03,Ar]
theorem qJU:NOk (U0 9):=⟨qDy 9 (by omega),by decide +kernel,rfl,by decide +kernel,by decide,by decide,fun i hi=>by
 have:i<3:=hi
 match i,this with
 | 0,_ | 1,_ | 2,_=>decide +kernel⟩
theorem qIm:q7d (U0 9):=by
 intro x hx; simp [U0] at hx; rcases hx with rfl | rfl | rfl <;> simp
def qAi:List Nd:=[⟨0,⟨[],some 0,none⟩,0,0⟩,⟨0,⟨[],some 0,some true⟩,0,0⟩,⟨9,⟨[0,1],some 2,none⟩,0,0⟩,⟨0,⟨[],some 0,none⟩,0,0⟩,⟨3,⟨[2],some 1,none⟩,0,0⟩,⟨9,⟨[3,4],some 2,none⟩,0,0⟩,⟨3,⟨[5],some 1,none⟩,0,0⟩]
def qAj:List (List UInt8):=[[48,46,48],[48,46,49],[48,46,50],[49,46,48],[49,46,49],[49,46,50],[50,46,49]]
theorem qHl:Fe (U0 9) 2=qAi:=by rfl
theorem qHm:J4 (U0 9) 2=qAj:=by decide +kernel
theorem qHn:Gf (U0 9) 2=[2,4,5,6]:=by decide +kernel
theorem qKj:∀ x ∈ Ag (U0 9),0≤x∧x<(U0 9).nodes.l.length:=by
 have e:Ag (U0 9)=[1]:=by decide +kernel
 intro x hx
 rw [e] at hx
 simp at hx
 subst hx
 decide
theorem qIn (hΓ:GOk Γ):Ae Tryz.prog Γ 17 [.agg (tC (U0 9)),tI 2] (.tup [.agg [.sl (Ao Bt qAi) (some 7) none,.sl (Af tS qAj) (some 7) none,Ar,.sl (Ax [2,4,5,6]) (some 4) none,.sl ((Oo 3 2).map fun t=>[t]) (some 2) none],tI 0]):=by
 have h:=q7f hΓ (U0 9) qJU qIm (by decide) (by intro k hk; simp [U0] at hk; subst hk; omega) qKj 2 (by omega) (by omega)
 unfold tFr at h
 rw [qHl,qHm,qHn] at h
 exact h
theorem qIo (hΓ:GOk Γ):Ae Tryz.prog Γ 32 [.agg (tC (U0 9)),lvZ,tW ⟨[⟨[1],some 1,some false⟩,⟨[1],some 1,some false⟩],some 2,some false⟩] (.tup [.agg [.sl (Az [1,0,1]) (some 3) none,Ar],tI 0]):=by
 have h:=qBM hΓ (U0 9) qJU (by decide) ⟨[0],some 1,some false⟩ (by decide +kernel) (by simp) ⟨[⟨[1],some 1,some false⟩,⟨[1],some 1,some false⟩],some 2,some false⟩ (by decide) (by decide) (qBJ 9 _ (by simp) (by decide +kernel))
 have e:qFv (U0 9) [0] [⟨[1],some 1,some false⟩,⟨[1],some 1,some false⟩]=[1,0,1]:=by decide +kernel
 simp only at h
 rw [e] at h
 exact h
def qFw (vN v1 v2 v3:Value):T:=.agg [.pin (.sl (q3P 9) none none) vN,.pin qCj v1,.pin qCk v2,.pin qCl v3]
theorem q6M {vN v1 v2 v3:Value}:Imp (qFw vN v1 v2 v3) (.agg (tC (U0 9))):=Imp.agg (.cons (.pin _ _) (.cons (.pin _ _) (.cons (.pin _ _) (.cons (.pin _ _) .nil)))) rfl
theorem qKk (hΓ:GOk Γ) (vN v1 v2 v3 vz:Value):Ae Tryz.prog Γ 24 [qFw vN v1 v2 v3,.agg [.pin lvZ vz,.sl [] (some 0) (some true),.sl [] (some 0) (some true)],.sl [[lvO],[lvO],[.pin lvZ vz]] (some 3) (some false)]
  (.tup [.sl (Ao Pi [([1],[1]),([0],[0]),([0],[0])]) (some 3) none,.agg (Bg (seqS (U0 9) (Ta q5L) [[1],[1],[0]])),tI 0]):=by
 refine (qIk hΓ).imp (.cons q6M (.cons (Imp.agg (.cons (.pin _ _) (.cons (.refl _) (.cons (.refl _) .nil))) rfl) (.cons (Imp.sl (.cons (.refl _) (.cons (.refl _) (.cons (.cons (.pin _ _) .nil) .nil))) ?_) .nil)))
 intro e he
 simp [Af] at he
 rcases he with rfl | rfl <;> rfl
theorem qKl (hΓ:GOk Γ) (vN v1 v2 v3:Value):Ae Tryz.prog Γ 17 [qFw vN v1 v2 v3,tI 2] (.tup [.agg [.sl (Ao Bt qAi) (some 7) none,.sl (Af tS qAj) (some 7) none,Ar,.sl (Ax [2,4,5,6]) (some 4) none,.sl ((Oo 3 2).map fun t=>[t]) (some 2) none],tI 0]) :=
 (qIn hΓ).imp (.cons q6M (.cons (.refl _) .nil))
theorem qKm (hΓ:GOk Γ) (vN v1 v2 v3 vz:Value):Ae Tryz.prog Γ 32 [qFw vN v1 v2 v3,.pin lvZ vz,.sl [[lvO],[lvO]] (some 2) (some false)] (.tup [.agg [.sl (Az [1,0,1]) (some 3) none,Ar],tI 0]) :=
 (qIo hΓ).imp (.cons q6M (.cons (.pin _ _) (.cons (.refl _) .nil)))
theorem qKn (hΓ:GOk Γ) (vN v1 v2 v3:Value):Ae Tryz.prog Γ 28 [qFw vN v1 v2 v3,.sl [[lvO],[lvO]] (some 2) (some false)] (.tup [.sl [] (some 0) none,tI 0]) :=
 (qHi hΓ).imp (.cons q6M (.cons (.refl _) .nil))
set_option maxHeartbeats 8000000 in
theorem qNH (hΓ:GOk Γ) (vN v1 v2 v3 vz:Value) (hvz:∃ a n m,vz=Value.slice a n m):run Tryz.prog Γ (q3M qKg .skip) (fun e s'=>e=.normal∧s'=thE (q3P 9) qCj qCk qCl lvZ vN v1 v2 v3 vz (.sl (Ao Bt qAi) (some 7) none) (.sl (Af tS qAj) (some 7) none) Ar (.sl (Ax [2,4,5,6]) (some 4) none) (.sl ((Oo 3 2).map fun t=>[t]) (some 2) none) (tS [49,48,48]) (tS [49,48,48]) (.sl [] (some 0) none) (tI 0)) (thM (q3P 9) qCj qCk qCl lvO lvZ vN v1 v2 v3 vz):=by
 obtain ⟨az,nz,mz,rfl⟩:=hvz
 have e1:=qKk hΓ vN v1 v2 v3 (.slice az nz mz)
 have e2:=qKl hΓ vN v1 v2 v3
 have e3:=qKm hΓ vN v1 v2 v3 (.slice az nz mz)
 have e4:=qKn hΓ vN v1 v2 v3
 have hd:=qIl
 generalize seqS (U0 9) (Ta q5L) [[1],[1],[0]]=S at *
 have t1:=q3Z (Γ:=Γ) S.dff (by rw [hd]; decide) (by rw [hd]; simp)
 rw [hd] at t1
 have t2:=q3Z (Γ:=Γ) ⟨[1,0,1],some 3,none⟩ (by decide) (by simp)
 have t3:=q3Z (Γ:=Γ) ⟨[1],some 1,none⟩ (by decide) (by simp)
 have t4:=q3Z (Γ:=Γ) ⟨[0],some 1,none⟩ (by decide) (by simp)
 rw [show qAO [0]=[48] by decide +kernel] at t1 t4
 rw [show qAO [1,0,1]=[49,48,49] by decide +kernel] at t2
 rw [show qAO [1]=[49] by decide +kernel] at t3
 have hF:(Oo 3 2).map (fun t=>[t])=(Oo 3 2).map (fun t=>[t]):=rfl
 generalize (Oo 3 2).map (fun t=>[t])=FF at *
 simp [tV,tS,sV,Af] at t1 t2 t3 t4
 unfold qFw at e1 e2 e3 e4
 generalize q3P 9=RW at *
 generalize qCj=NM at *
 generalize qCk=MM at *
 generalize qCl=OU at *
 simp [Ao,Pi,tVs,Af,Bg,tV,Bt,B5,qAi,qAj,tS,sV,Ar,lvO,lvZ,tW,N7] at e1 e2 e3 e4
 simp [qKg,q3M,q28,q29,q2A,q2B,q2C,q2D,q2E,q1E,q1F,q1G,thM,thE,Ao,Af,Bt,B5,qAi,qAj,tS,sV,Ar,lvO,lvZ,tW,N7]
 refine Ad e1 rfl ?_
 simp
 refine Ad e2 rfl ?_
 simp
 refine Ad e3 rfl ?_
 simp
 refine A3 t1 rfl ?_
 simp
 refine A3 t2 rfl ?_
 simp
 have r1:IntKind.i64.wrap 1=1:=by decide +kernel
 have r2:IntKind.i64.wrap 2=2:=by decide +kernel
 have r3:IntKind.i64.wrap 3=3:=by decide +kernel
 have r4:IntKind.i64.wrap 4=4:=by decide +kernel
 have r5:IntKind.i64.wrap 5=5:=by decide +kernel
 have r6:IntKind.i64.wrap 6=6:=by decide +kernel
 have r7:IntKind.i64.wrap 7=7:=by decide +kernel
 have b1:({ data:=#[] }:ByteArray)++{ data:=#[49] }={ data:=#[49] }:=by decide +kernel
 have b2:({ data:=#[49] }:ByteArray)++{ data:=#[48] }={ data:=#[49,48] }:=by decide +kernel
 have b3:({ data:=#[49,48] }:ByteArray)++{ data:=#[48] }={ data:=#[49,48,48] }:=by decide +kernel
 refine Hm fun K hK=>?_
 simp [D5,r1,r2,r3,r4,r5,r6,r7]
 refine A3 t3 rfl ?_
 simp [b1,D5,r1,r2,r3,r4,r5,r6,r7]
 refine A3 t3 rfl ?_
 simp [b1,D5,r1,r2,r3,r4,r5,r6,r7]
 rw [hK]
 clear hK K
 refine Hm fun K hK=>?_
 simp [D5,r1,r2,r3,r4,r5,r6,r7]
 refine A3 t4 rfl ?_
 simp [b2,D5,r1,r2,r3,r4,r5,r6,r7]
 refine A3 t4 rfl ?_
 simp [b2,D5,r1,r2,r3,r4,r5,r6,r7]
 rw [hK]
 clear hK K
 refine Hm fun K hK=>?_
 simp [D5,r1,r2,r3,r4,r5,r6,r7]
 refine A3 t4 rfl ?_
 simp [b3,D5,r1,r2,r3,r4,r5,r6,r7]
 refine A3 t4 rfl ?_
 simp [b3,D5,r1,r2,r3,r4,r5,r6,r7]
 rw [hK]
 clear hK K
 refine Hm fun K hK=>?_
 simp [D5,r1,r2,r3,r4,r5,r6,r7]
 refine Cc fun K hK=>?_
 simp [D5,r1,r2,r3,r4,r5,r6,r7]
 rw [hK]
 clear hK K
 refine Cc fun K hK=>?_
 simp [D5,r1,r2,r3,r4,r5,r6,r7]
 rw [hK]
 clear hK K
 refine Cc fun K hK=>?_
 simp [D5,r1,r2,r3,r4,r5,r6,r7]
 rw [hK]
 clear hK K
 refine Cc fun K hK=>?_
 simp [D5,r1,r2,r3,r4,r5,r6,r7]
 rw [hK]
 clear hK K
 refine Cc fun K hK=>?_
 simp [D5,r1,r2,r3,r4,r5,r6,r7]
 rw [hK]
 clear hK K
 refine Cc fun K hK=>?_
 simp [D5,r1,r2,r3,r4,r5,r6,r7]
 rw [hK]
 clear hK K
 refine Cc fun K hK=>?_
 simp [D5,r1,r2,r3,r4,r5,r6,r7]
 rw [hK]
 clear hK K
 refine Cc fun K hK=>?_
 simp [D5,r1,r2,r3,r4,r5,r6,r7]
 refine Ad e4 rfl ?_
 simp
theorem qKo:∀ (w:World) (X:Nat→Prop) (v:Value),TR w X lvZ v→∃ a n m,v=Value.slice a n m:=by
 intro w X v h
 cases h <;> exact ⟨_,_,_,rfl⟩
theorem qBN (hΓ:GOk Γ):Ae Tryz.prog Γ 22 [] (tB true):=by
 refine q9Q (n:=0) qKh rfl ?_
 intro w X c a hN hmx hg hX hchk hbody hI Qw fin
 have hreg:q7g 13 c=some false:=by
  have:=qKi
  rw [hbody] at this
  exact this
 refine q5K hN hmx hchk hI (J7 qMS) fun d2 a' w' hc2 hr hI2=>?_
 refine qMR hN hmx hX hg (b8':=5) (lo:=[2,4,5,6]) (co:=some 4) (no:=none) hI2 hc2 (by rw [hr]; exact hreg) qKo (fun vN v1 v2 v3 vz hvz=>J7 (qNH hΓ vN v1 v2 v3 vz hvz)) ⟨rfl,rfl,rfl,rfl⟩ (fun y0 y1 y2 y4=>qHg (qNG hΓ y0 y1 y2 y4)) fin
end Go.Lg
