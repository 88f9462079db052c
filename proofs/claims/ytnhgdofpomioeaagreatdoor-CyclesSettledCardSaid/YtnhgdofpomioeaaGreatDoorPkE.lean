/- Orders by levels, and the values of all nets. Conditions: none. -/
import Derived.Test.YtnhgdofpomioeaaGreatDoorPkD
import Derived.Test.YtnhgdofpomioeaaGreatDoorPkC
import Derived.Test.YtnhgdofpomioeaaGreatDoorProg
import Derived.KernelRfl
set_option linter.unusedSimpArgs false
set_option linter.unusedVariables false
set_option maxRecDepth 100000
namespace Go.Lg
open Go Go.Proofs
def qAJ (lt:Int→Int→Bool):Nat→List Int→List Int
 | 0,l=>l
 | j+1,l=>if lt (l.getD (j+1) 0) (l.getD j 0) then qAJ lt j (q00 l (j+1) j) else l
def q3V (lt:Int→Int→Bool):Nat→Nat→List Int→List Int
 | 0,_,l=>l
 | f+1,i,l=>q3V lt f (i+1) (qAJ lt i l)
theorem q4T {lt:Int→Int→Bool}:∀ {j:Nat} {l:List Int},j<l.length→(qAJ lt j l).Perm l
 | 0,l,_=>List.Perm.refl l
 | j+1,l,h=>by
  simp only [qAJ]
  split
  ·exact (q4T (by rw [q7w]; omega)).trans (qAE h (by omega))
  ·exact List.Perm.refl l
def q3W (key:Int→Int) (l:List Int) (n:Nat):Prop:=∀ a b,a<b→b<n→key (l.getD a 0)≤key (l.getD b 0)
theorem q8d (key:Int→Int) (i:Nat):∀ (j:Nat) (l:List Int),j≤i→i<l.length→(∀ a b,a<b→b≤i→a ≠ j→b ≠ j→key (l.getD a 0)≤key (l.getD b 0))→(∀ b,j<b→b≤i→key (l.getD j 0)≤key (l.getD b 0)) →
  q3W key (qAJ (fun a b=>decide (key a<key b)) j l) (i+1)
 | 0,l,hj,hi,h1,h2=>by
  intro a b hab hb
  simp only [qAJ]
  by_cases ha:a=0
  ·subst ha; exact h2 b hab (by omega)
  ·exact h1 a b hab (by omega) ha (by omega)
 | j+1,l,hj,hi,h1,h2=>by
  simp only [qAJ]
  split
  ·rename_i hlt
   have hlt':key (l.getD (j+1) 0)<key (l.getD j 0):=by simpa using hlt
   have g:∀ q,q<l.length→(q00 l (j+1) j).getD q 0=if q=j then l.getD (j+1) 0 else if q=j+1 then l.getD j 0 else l.getD q 0:=fun q hq=>qHB (by omega) (by omega) hq
   refine q8d key i j _ (by omega) (by rw [q7w]; exact hi) (fun a b hab hb ha hb'=>?_) (fun b hb hbi=>?_)
   ·rw [g a (by omega),g b (by omega),if_neg ha,if_neg hb']
    by_cases ha1:a=j+1
    ·rw [if_pos ha1,if_neg (by omega)]
     exact h1 j b (by omega) hb (by omega) (by omega)
    ·rw [if_neg ha1]
     by_cases hb1:b=j+1
     ·rw [if_pos hb1]
      exact h1 a j (by omega) (by omega) ha1 (by omega)
     ·rw [if_neg hb1]
      exact h1 a b hab hb ha1 hb1
   ·rw [g j (by omega),g b (by omega),if_pos rfl,if_neg (by omega)]
    by_cases hb1:b=j+1
    ·rw [if_pos hb1]; omega
    ·rw [if_neg hb1]
     exact h2 b (by omega) hbi
  ·rename_i hlt
   have hlt':key (l.getD j 0)≤key (l.getD (j+1) 0):=by simpa using hlt
   intro a b hab hb
   by_cases ha1:a=j+1
   ·subst ha1; exact h2 b hab (by omega)
   ·by_cases hb1:b=j+1
    ·subst hb1
     by_cases haj:a=j
     ·subst haj; exact hlt'
     ·have:=h1 a j (by omega) (by omega) ha1 (by omega)
      omega
    ·exact h1 a b hab (by omega) ha1 hb1
theorem qGC (key:Int→Int):∀ (f i:Nat) (l:List Int),i+f=l.length→q3W key l i→(q3V (fun a b=>decide (key a<key b)) f i l).Perm l∧q3W key (q3V (fun a b=>decide (key a<key b)) f i l) l.length
 | 0,i,l,h,hs=>⟨List.Perm.refl l,by have:i=l.length:=(by omega); subst this; exact hs⟩
 | f+1,i,l,h,hs=>by
  simp only [q3V]
  have hp:=q4T (lt:=fun a b=>decide (key a<key b)) (show i<l.length by omega)
  have hss:=q8d key i i l (Nat.le_refl _) (by omega) (fun a b hab hb ha hb'=>hs a b hab (by omega)) (fun b h1 h2=>by omega)
  obtain ⟨a1,a2⟩:=qGC key f (i+1) _ (by rw [hp.length_eq]; omega) hss
  rw [hp.length_eq] at a2
  exact ⟨a1.trans hp,a2⟩
def rng (n:Nat):List Int:=(List.range n).map fun i:Nat=>(i:Int)
theorem Ue {n:Nat}:(rng n).length=n:=by simp [rng]
theorem q9R {n:Nat} {x:Int}:x ∈ rng n↔0≤x∧x<n:=by
 simp only [rng,List.mem_map,List.mem_range]
 constructor
 ·rintro ⟨i,hi,rfl⟩; omega
 ·intro h; exact ⟨x.toNat,by omega,by omega⟩
theorem qHI {n:Nat}:(rng n).Nodup:=by
 rw [rng,List.nodup_iff_pairwise_ne,List.pairwise_map]
 exact (List.nodup_iff_pairwise_ne.1 List.nodup_range).imp fun h e=>h (by omega)
def qGD (c:B0) (a b:Int):Bool:=decide (O0 c a.toNat<O0 c b.toNat)
def Vu (c:B0):List Int:=q3V (qGD c) (c.nodes.l.length - 1) 1 (rng c.nodes.l.length)
theorem q1H (c:B0):(Vu c).Perm (rng c.nodes.l.length)∧q3W (fun a=>O0 c a.toNat) (Vu c) c.nodes.l.length:=by
 by_cases h:c.nodes.l.length=0
 ·unfold Vu
  rw [h]
  exact ⟨List.Perm.refl _,fun a b hab hb=>by omega⟩
 ·have:=qGC (fun a=>O0 c a.toNat) (c.nodes.l.length - 1) 1 (rng c.nodes.l.length) (by rw [Ue]; omega) (fun a b hab hb=>by omega)
  rw [Ue] at this
  exact this
def Ym (c:B0) (nets:List Int) (i:Nat):List Int:=(I5 c i).map fun k=>nets.getD k.toNat 0
def Uz (c:B0) (nets:List Int) (n:Int):List Int:=if E6 (Az c n.toNat) then nets.set n.toNat (Yj (Az c n.toNat) (Ym c nets n.toNat)) else nets
def q95 (c:B0) (order init:List Int):List Int:=order.foldl (Uz c) init
theorem q85 {c:B0} {nets:List Int} {n:Int}:(Uz c nets n).length=nets.length:=by unfold Uz; split <;> simp
theorem qAK {c:B0}:∀ {o nets:List Int},(q95 c o nets).length=nets.length
 | [],nets=>rfl
 | n::o,nets=>by
  show (q95 c o (Uz c nets n)).length=_
  rw [qAK,q85]
def qKG (c:B0) (init f:List Int):Prop:=f.length=c.nodes.l.length∧∀ i:Nat,i<c.nodes.l.length→f.getD i 0=if E6 (Az c i) then Yj (Az c i) (Ym c f i) else init.getD i 0
theorem qGE {c:B0}:∀ {o nets:List Int},nets.length=c.nodes.l.length→o.Nodup→(∀ n ∈ o,0≤n∧n<c.nodes.l.length)→o.Pairwise (fun x y=>E6 (Az c x.toNat)=true→y ∉ I5 c x.toNat)→(∀ x ∈ o,E6 (Az c x.toNat)=true→x ∉ I5 c x.toNat∧∀ p ∈ I5 c x.toNat,0≤p) →
  (∀ i:Nat,(i:Int) ∉ o→(q95 c o nets).getD i 0=nets.getD i 0)∧(∀ i:Nat,(i:Int) ∈ o→(q95 c o nets).getD i 0=if E6 (Az c i) then Yj (Az c i) (Ym c (q95 c o nets) i) else nets.getD i 0)
 | [],nets,_,_,_,_,_=>⟨fun i _=>rfl,fun i h=>by cases h⟩
 | n::o,nets,hl,hnd,hin,hpw,hself=>by
  obtain ⟨hn1,hn2⟩:=List.nodup_cons.1 hnd
  obtain ⟨hp1,hp2⟩:=List.pairwise_cons.1 hpw
  have hnr:=hin n List.mem_cons_self
  have hne:n=(n.toNat:Int):=by omega
  have key:∀ i:Nat,i ≠ n.toNat→(Uz c nets n).getD i 0=nets.getD i 0:=fun i hi=>by
   unfold Uz
   split
   ·rw [I3 (by omega),if_neg hi]
   ·rfl
  obtain ⟨a1,a2⟩:=qGE (o:=o) (nets:=Uz c nets n) (by rw [q85]; exact hl) hn2 (fun m hm=>hin m (List.mem_cons_of_mem _ hm)) hp2 (fun x hx=>hself x (List.mem_cons_of_mem _ hx))
  have hrun:q95 c (n::o) nets=q95 c o (Uz c nets n):=rfl
  rw [hrun]
  refine ⟨fun i hi=>?_,fun i hi=>?_⟩
  ·have h1:¬ i=n.toNat:=fun e=>hi (by rw [e,← hne]; exact List.mem_cons_self)
   rw [a1 i fun hm=>hi (List.mem_cons_of_mem _ hm),key i h1]
  ·by_cases hio:(i:Int) ∈ o
   ·have h1:¬ i=n.toNat:=fun e=>hn1 (by rw [hne,← e]; exact hio)
    rw [a2 i hio,key i h1]
   ·have h1:i=n.toNat:=by
     rcases List.mem_cons.1 hi with h | h
     ·omega
     ·exact absurd h hio
    subst h1
    rw [a1 _ hio]
    by_cases hc:E6 (Az c n.toNat)=true
    ·have h2:(Uz c nets n).getD n.toNat 0=Yj (Az c n.toNat) (Ym c nets n.toNat):=by
      unfold Uz
      rw [if_pos hc,I3 (by omega),if_pos rfl]
     rw [h2,if_pos hc]
     congr 1
     unfold Ym
     refine List.map_congr_left fun p hp=>?_
     obtain ⟨hs1,hs2⟩:=hself n List.mem_cons_self hc
     have hp0:=hs2 p hp
     have hpe:p=(p.toNat:Int):=by omega
     have hpo:((p.toNat:Nat):Int) ∉ o:=fun hm=>hp1 _ hm hc (by rw [← hpe]; exact hp)
     have hpn:¬ p.toNat=n.toNat:=fun e=>by
      have h9:p=n:=by omega
      rw [h9] at hp
      exact hs1 hp
     rw [a1 _ hpo,key _ hpn]
    ·rw [if_neg hc]
     unfold Uz
     rw [if_neg hc]
theorem qKH {c:B0} (h:Eh c=0) {o init:List Int} (hp:o.Perm (rng c.nodes.l.length)) (hs:q3W (fun a=>O0 c a.toNat) o c.nodes.l.length) (hi:init.length=c.nodes.l.length):qKG c init (q95 c o init):=by
 obtain ⟨_,h0,h1⟩:=qF9 h
 have hlen:o.length=c.nodes.l.length:=by rw [hp.length_eq,Ue]
 have hmem:∀ n,n ∈ o↔0≤n∧n<c.nodes.l.length:=fun n=>by rw [hp.mem_iff,q9R]
 have hpw:o.Pairwise (fun x y=>E6 (Az c x.toNat)=true→y ∉ I5 c x.toNat):=by
  rw [List.pairwise_iff_getElem]
  intro i j hi hj hij hc hm
  have hx:=(hmem o[i]).1 (List.getElem_mem hi)
  obtain ⟨_,h3⟩:=h1 o[i].toNat (by omega) hc _ hm
  have h4:=hs i j hij (by omega)
  simp only [Bv hi,Bv hj] at h4
  omega
 obtain ⟨_,a2⟩:=qGE (c:=c) (o:=o) (nets:=init) hi (hp.nodup_iff.2 qHI) (fun n hn=>(hmem n).1 hn) hpw (fun x hx hc=>by
  have hx':=(hmem x).1 hx
  refine ⟨fun hm=>?_,fun p hpp=>(h1 x.toNat (by omega) hc p hpp).1.1⟩
  have:=(h1 x.toNat (by omega) hc x hm).2
  omega)
 exact ⟨by rw [qAK]; exact hi,fun i hi=>a2 i ((hmem i).2 (by omega))⟩
def G2:List Int→List Int→List Int→List Int
 | n::ns,v::vs,nets=>G2 ns vs (nets.set n.toNat v)
 | _,_,nets=>nets
theorem Pq:∀ {ns vs nets:List Int},(G2 ns vs nets).length=nets.length
 | [],vs,nets=>by cases vs <;> rfl
 | _::_,[],nets=>rfl
 | n::ns,v::vs,nets=>by simp only [G2]; rw [Pq]; simp
theorem q1I:∀ {ns vs nets:List Int} {i:Nat},(∀ n ∈ ns,0≤n)→(i:Int) ∉ ns→(G2 ns vs nets).getD i 0=nets.getD i 0
 | [],vs,nets,i,_,_=>by cases vs <;> rfl
 | _::_,[],nets,i,_,_=>rfl
 | n::ns,v::vs,nets,i,h0,h=>by
  simp only [G2]
  rw [q1I (fun m hm=>h0 m (List.mem_cons_of_mem _ hm)) fun hm=>h (List.mem_cons_of_mem _ hm)]
  have h1:¬ n.toNat=i:=fun e=>h (by have:=h0 n List.mem_cons_self; rw [← e,Int.toNat_of_nonneg this]; exact List.mem_cons_self)
  simp [List.getD_eq_getElem?_getD,List.getElem?_set,h1]
theorem q6z:∀ {ns vs nets:List Int} {j:Nat},ns.Nodup→(∀ n ∈ ns,0≤n∧n<nets.length)→ns.length=vs.length→(h:j<ns.length)→(G2 ns vs nets).getD (ns[j]).toNat 0=vs.getD j 0
 | n::ns,v::vs,nets,j,hnd,hr,hl,h=>by
  obtain ⟨h1,h2⟩:=List.nodup_cons.1 hnd
  have hn:=hr n List.mem_cons_self
  simp only [G2]
  cases j with
  | zero =>
   simp only [List.getElem_cons_zero,List.getD_cons_zero]
   rw [q1I (fun m hm=>(hr m (List.mem_cons_of_mem _ hm)).1) (by rw [Int.toNat_of_nonneg hn.1]; exact h1),I3 (by omega),if_pos rfl]
  | succ j =>
   simp only [List.getElem_cons_succ,List.getD_cons_succ]
   exact q6z h2 (fun m hm=>by have:=hr m (List.mem_cons_of_mem _ hm); simpa using this) (by simpa using hl) (by simpa using h)
 | [],vs,nets,j,_,_,_,h=>by simp at h
 | _::_,[],nets,j,_,_,hl,h=>by simp at hl
def Bg (c:B0):List Int:=Ky [0] c.nodes.l 0
def q8e (c:B0) (pin pst:List Int):List Int:=G2 (Af c) pst (G2 (Bg c) pin (List.replicate c.nodes.l.length 0))
theorem qBr {c:B0} {pin pst:List Int}:(q8e c pin pst).length=c.nodes.l.length:=by unfold q8e; rw [Pq,Pq]; simp
def Pv (k:Int) (c:B0) (i:Nat):Nat:=(Ky [k] (c.nodes.l.take i) 0).length
theorem qBs {k:Int} {c:B0} {i:Nat} (hi:i<c.nodes.l.length) (hk:Az c i=k):Ky [k] c.nodes.l 0=Ky [k] (c.nodes.l.take i) 0++(i:Int)::Ky [k] (c.nodes.l.drop (i+1)) (i+1):=by
 have e:c.nodes.l=c.nodes.l.take i++c.nodes.l[i]::c.nodes.l.drop (i+1):=by rw [List.getElem_cons_drop,List.take_append_drop]
 have hk':c.nodes.l[i].k=k:=by simpa [Az,hi] using hk
 have hm:(c.nodes.l.take i).length=i:=by rw [List.length_take]; omega
 conv=>lhs; rw [e,q6m,hm]
 simp [Ky,hk']
theorem q9S {k:Int} {c:B0} {i:Nat} (hi:i<c.nodes.l.length) (hk:Az c i=k):Pv k c i<(Ky [k] c.nodes.l 0).length∧(Ky [k] c.nodes.l 0).getD (Pv k c i) 0=i:=by
 have e:=qBs hi hk
 constructor
 ·rw [e]; simp [Pv]
 ·rw [e]; simp [Pv,List.getD_eq_getElem?_getD]
theorem Np {k:Int} {c:B0}:∀ n ∈ Ky [k] c.nodes.l 0,0≤n∧n<c.nodes.l.length∧Az c n.toNat=k:=by
 intro n hn
 obtain ⟨a,b,h⟩:=q6r [k] c.nodes.l 0 n hn
 refine ⟨by omega,by omega,?_⟩
 simpa [Az] using h
theorem qCc {k:Int} {c:B0} {i:Nat} (hi:i<c.nodes.l.length):(i:Int) ∈ Ky [k] c.nodes.l 0↔Az c i=k:=by
 constructor
 ·intro h
  have:=(Np _ h).2.2
  simpa using this
 ·intro h
  rw [qBs hi h]
  simp
theorem qGF {c:B0} {pin pst:List Int} (h1:pin.length=(Bg c).length) (h2:pst.length=(Af c).length) {i:Nat} (hi:i<c.nodes.l.length) :
  (q8e c pin pst).getD i 0=if Az c i=0 then pin.getD (Pv 0 c i) 0 else if Az c i=14 then pst.getD (Pv 14 c i) 0 else 0:=by
 have n0:=(q4R [0] c.nodes.l 0).2
 have n14:=(q4R [14] c.nodes.l 0).2
 have r14:∀ n ∈ Af c,0≤n:=fun n hn=>(Np n hn).1
 have r0:∀ n ∈ Bg c,0≤n:=fun n hn=>(Np n hn).1
 unfold q8e
 by_cases hk:Az c i=14
 ·obtain ⟨a,b⟩:=q9S hi hk
  have e:(Ky [14] c.nodes.l 0)[Pv 14 c i]=(i:Int):=by rw [← b,Bv a]
  have:=q6z (ns:=Af c) (vs:=pst) (nets:=G2 (Bg c) pin (List.replicate c.nodes.l.length 0)) (j:=Pv 14 c i) n14 (fun n hn=>by rw [Pq]; have:=Np n hn; simp; omega) h2.symm a
  have e':(Af c)[Pv 14 c i]=(i:Int):=e
  rw [e'] at this
  simp only [Int.toNat_natCast] at this
  rw [this,if_neg (by omega),if_pos hk]
 ·have:(i:Int) ∉ Af c:=fun hm=>hk ((qCc hi).1 hm)
  rw [q1I r14 this]
  by_cases hk0:Az c i=0
  ·obtain ⟨a,b⟩:=q9S hi hk0
   have e:(Bg c)[Pv 0 c i]'a=(i:Int):=by show (Ky [0] c.nodes.l 0)[Pv 0 c i]=_; rw [← b,Bv a]
   have:=q6z (ns:=Bg c) (vs:=pin) (nets:=List.replicate c.nodes.l.length 0) (j:=Pv 0 c i) n0 (fun n hn=>by have:=Np n hn; simp; omega) h1.symm a
   rw [e] at this
   simp only [Int.toNat_natCast] at this
   rw [this,if_pos hk0]
  ·have:(i:Int) ∉ Bg c:=fun hm=>hk0 ((qCc hi).1 hm)
   rw [q1I r0 this,if_neg hk0,if_neg hk]
   simp [List.getD_eq_getElem?_getD,List.getElem?_replicate]
   split <;> rfl
end Go.Lg
namespace Go.Lg
open Go
section
variable {P:Program} {Γ:Tables} {Q:AX→St→Prop} {s:St}
/- probecard/logic.Clean (function 140) -/
abbrev q3X:IC:=(.seq (.reg [od 2 (.mv (ku 0))] [kp [0] []]) (.seq (.seq (.reg [om 3 0,od 4 (.bin .gtr (tm 3) (ku 3))] [kp [0,4] []]) (.cond (tm 4) (.seq (.reg [od 2 (.mv (ku 2))] [kp [2] []]) .ret) .skip)) (.seq (.reg [om 5 0,om 2 5] [kp [2]
 []]) .ret)))
def q3Y:List RV:=[.tmp 2]
/- probecard/logic.Read (function 154) -/
abbrev q56:IC:=(.seq (.reg [od 2 (.mv (ku 0))] [kp [0] []]) (.seq (.reg [om 3 0,od 4 (.mmx false [(tm 3),(ku 2)]),om 2 4] [kp [2] []]) .ret))
def q57:List RV:=[.tmp 2]
/- probecard/logic.Known (function 31) -/
abbrev q3Z:IC:=(.seq (.reg [od 2 (.mv kF)] [kp [0] []]) (.seq (.reg [om 3 0,od 4 (.bin .leq (tm 3) (ku 1)),om 2 4] [kp [2] []]) .ret))
def q3a:List RV:=[.tmp 2]
/- probecard/logic.Not (function 155) -/
abbrev q70:IC:=(.seq (.reg [od 2 (.mv (ku 0))] [kp [0] []]) (.seq (.seq (.reg [om 3 0,od 4 (.call 31 [(tm 3)])] [kp [0,4] []]) (.cond (tm 4) (.seq (.reg [om 5 0,od 6 (.bin .sub (ku 1) (tm 5)),om 2 6] [kp [2] []]) .ret) .skip)) (.seq (.reg [od
 2 (.mv (ku 2))] [kp [2] []]) .ret)))
def q26:List RV:=[.tmp 2]
/- probecard/logic.decided (function 213) -/
abbrev q1J:IC:=.gh (.seq (.reg [od 14 (.bin .lss (tm 13) (tm 12))] [kp [1,2,7,11,12,13,14] []]) (.seq (.cond (tm 14) .skip (.exit 0)) (.seq (.block 1 (.seq (.reg [od 15 (ia 1 11 13),od 16 (ld 1 15),om 9 16] [kp [1,2,7,9,11,12,13]
 []]) (.block 2 (.seq (.reg [om 18 9,om 19 1,od 20 (.bin .eql (tm 18) (tm 19)),om 17 20] [kp [1,2,7,9,11,12,13,17] []]) (.cond (tm 17) (.seq (.reg [om 21 1,om 6 21] [kp [6] []]) .ret) (.seq (.reg [om 23 9,om 24 2,od 25
 (.bin .neq (tm 23) (tm 24)),om 22 25] [kp [1,2,7,11,12,13,22] []]) (.cond (tm 22) (.reg [od 7 (.mv (ku 2))] [kp [1,2,7,11,12,13] []]) .skip))))))) (.reg [od 26 (.bin .add (tm 13) (ki 1)),om 13 26] [kp [1,2,7,11,12,
 13] []])))) [kp [1,2,7,11,12,13] []]
def Lu:IC:=.loop q1J
abbrev q1K:IC:=(.seq (.reg [od 6 (.mv (ku 0))] [kp [0,1,2] []]) (.seq (.reg [om 10 2,om 7 10] [kp [0,1,2,7] []]) (.seq (.seq (.reg [om 11 0,od 12 (le 0 11),od 13 (.mv (ki 0))] [kp [1,2,7,11,12,13] []]) (.block 0 Lu))
 (.seq (.reg [om 27 7,om 6 27] [kp [6] []]) .ret))))
theorem V0 (h:∀ K:St→Prop,K=run P Γ Lu Q→run P Γ q1J (Am K Q) s):run P Γ Lu Q s:=Ae h
def Tq:List RV:=[.tmp 6]
/- probecard/logic.And (function 156) -/
abbrev q71:IC:=(.seq (.reg [od 2 (.mv (ku 0))] [kp [0] []]) (.seq (.reg [om 3 0,od 4 (.call 213 [(tm 3),(ku 0),(ku 1)]),om 2 4] [kp [2] []]) .ret))
def q72:List RV:=[.tmp 2]
/- probecard/logic.Or (function 157) -/
abbrev q8f:IC:=(.seq (.reg [od 2 (.mv (ku 0))] [kp [0] []]) (.seq (.reg [om 3 0,od 4 (.call 213 [(tm 3),(ku 1),(ku 0)]),om 2 4] [kp [2] []]) .ret))
def q8g:List RV:=[.tmp 2]
/- probecard/logic.Xor (function 158) -/
abbrev q73:IC:=.gh (.seq (.reg [od 9 (.bin .lss (tm 8) (tm 7))] [kp [3,6,7,8,9] []]) (.seq (.cond (tm 9) .skip (.exit 0)) (.seq (.block 1 (.seq (.reg [od 10 (ia 1 6 8),od 11 (ld 1 10),om 5 11] [kp [3,5,6,7,8] []]) (.seq (.seq (.reg [om
 12 5,od 13 (.call 31 [(tm 12)]),od 14 (.un .not (tm 13))] [kp [3,5,6,7,8,14] []]) (.cond (tm 14) (.seq (.reg [od 2 (.mv (ku 2))] [kp [2] []]) .ret) .skip)) (.reg [om 15 3,om 16 5,od 17 (.bin .xor (tm 15) (tm 16)),om 3 17]
 [kp [3,6,7,8] []])))) (.reg [od 18 (.bin .add (tm 8) (ki 1)),om 8 18] [kp [3,6,7,8] []])))) [kp [3,6,7,8] []]
def Xh:IC:=.loop q73
abbrev q74:IC:=(.seq (.reg [od 2 (.mv (ku 0))] [kp [0] []]) (.seq (.reg [od 3 (.mv (ku 0))] [kp [0,3] []]) (.seq (.seq (.reg [om 6 0,od 7 (le 0 6),od 8 (.mv (ki 0))] [kp [3,6,7,8] []]) (.block 0 Xh)) (.seq (.reg [om 19 3,om 2 19]
 [kp [2] []]) .ret))))
theorem q1L (h:∀ K:St→Prop,K=run P Γ Xh Q→run P Γ q73 (Am K Q) s):run P Γ Xh Q s:=Ae h
def q27:List RV:=[.tmp 2]
/- probecard/logic.Mux (function 159) -/
abbrev Ql:IC:=(.seq (.reg [od 6 (.mv (ku 0))] [kp [0,1,2] []]) (.seq (.block 0 (.seq (.reg [om 8 0,od 9 (.bin .eql (tm 8) (ku 0)),om 7 9] [kp [0,1,2,7] []]) (.cond (tm 7) (.seq (.reg [om 10 1,od 11 (.call 154 [(tm 10)]),om 6 11] [kp [6]
 []]) .ret) (.seq (.reg [om 13 0,od 14 (.bin .eql (tm 13) (ku 1)),om 12 14] [kp [1,2,12] []]) (.cond (tm 12) (.seq (.reg [om 15 2,od 16 (.call 154 [(tm 15)]),om 6 16] [kp [6] []]) .ret) (.seq (.reg [om 18 1,om 19 2,od 20
 (.bin .eql (tm 18) (tm 19)),om 17 20] [kp [1,17] []]) (.cond (tm 17) (.seq (.reg [om 21 1,od 22 (.call 154 [(tm 21)]),om 6 22] [kp [6] []]) .ret) .skip))))))) (.seq (.reg [od 6 (.mv (ku 2))] [kp [6] []]) .ret)))
def Qm:List RV:=[.tmp 6]
/- probecard/logic.Tri (function 160) -/
abbrev Xi:IC:=(.seq (.reg [od 4 (.mv (ku 0))] [kp [0,1] []]) (.seq (.seq (.reg [om 5 0] [kp [1,5] []]) (.block 0 (.seq (.reg [od 7 (.bin .eql (tm 5) (ku 0)),om 6 7] [kp [1,5,6] []]) (.cond (tm 6) (.seq (.reg [od 4 (.mv (ku 3))] [kp [4] []])
 .ret) (.seq (.reg [od 9 (.bin .eql (tm 5) (ku 1)),om 8 9] [kp [1,8] []]) (.cond (tm 8) (.seq (.reg [om 10 1,od 11 (.call 154 [(tm 10)]),om 4 11] [kp [4] []]) .ret) .skip)))))) (.seq (.reg [od 4 (.mv (ku 2))] [kp [4] []])
 .ret)))
def Xj:List RV:=[.tmp 4]
/- probecard/logic.Bus (function 161) -/
abbrev q75:IC:=(.seq (.reg [od 2 (.mv (ku 0))] [kp [0] []]) (.seq (.reg [od 3 (.mv (.func 214))] [kp [0,3] []]) (.seq (.reg [od 4 (.mv (.func 215))] [kp [0,3,4] []]) (.seq (.reg [om 6 0,om 7 4,od 8 (.call 171 [(tm 6),(tm 7)]),om 5 8] [kp
 [0,3,5] []]) (.seq (.block 0 (.seq (.reg [om 10 5,od 11 (.bin .lss (tm 10) (ki 0)),om 9 11] [kp [0,3,5,9] []]) (.cond (tm 9) (.seq (.reg [od 2 (.mv (ku 3))] [kp [2] []]) .ret) (.seq (.reg [om 13 0,od 14 (.call 216 [(tm
 13)]),om 15 14,oF 16 (.mv (tm 0)) 15,oF 17 (.mv (tm 3)) 15,oF 18 (.call 101 [(tm 16),(tm 17)]) 15,od 19 (.pick (tm 15) kT (tm 18)),om 12 19] [kp [0,5,12] []]) (.cond (tm 12) (.seq (.reg [od 2 (.mv (ku 2))] [kp [2] []])
 .ret) .skip))))) (.seq (.reg [om 20 0,om 21 5,od 22 (ia 1 20 21),od 23 (ld 1 22),om 2 23] [kp [2] []]) .ret))))))
def Qn:List RV:=[.tmp 2]
/- probecard/logic.Bus$1 (function 214) -/
abbrev q3b:IC:=(.seq (.reg [od 2 (.mv kF)] [kp [0] []]) (.seq (.reg [om 3 0,od 4 (.call 140 [(tm 3)]),od 5 (.bin .eql (tm 4) (ku 2)),om 2 5] [kp [2] []]) .ret))
def q3c:List RV:=[.tmp 2]
/- probecard/logic.Bus$2 (function 215) -/
abbrev q3d:IC:=(.seq (.reg [od 2 (.mv kF)] [kp [0] []]) (.seq (.reg [om 3 0,od 4 (.bin .neq (tm 3) (ku 3)),om 2 4] [kp [2] []]) .ret))
def q3e:List RV:=[.tmp 2]
/- probecard/logic.Conflict (function 216) -/
abbrev q06:IC:=(.seq (.reg [od 2 (.mv kF)] [kp [0] []]) (.seq (.reg [om 3 0,od 4 (.call 255 [(tm 3),(ku 0)]),om 5 4,oT 6 (.mv (tm 0)) 5,oT 7 (.call 255 [(tm 6),(ku 1)]) 5,od 8 (.pick (tm 5) (tm 7) kF),om 2 8] [kp [2] []]) .ret))
def Qo:List RV:=[.tmp 2]
/- slices.Contains[[]probecard/api.Value,probecard/api.Value] (function 255) -/
abbrev Je:IC:=(.seq (.reg [od 4 (.mv kF)] [kp [0,1] []]) (.seq (.reg [om 5 0,om 6 1,od 7 (.call 274 [(tm 5),(tm 6)]),od 8 (.bin .geq (tm 7) (ki 0)),om 4 8] [kp [4] []]) .ret))
def Jf:List RV:=[.tmp 4]
/- slices.Index[[]probecard/api.Value,probecard/api.Value] (function 274) -/
abbrev N6:IC:=.gh (.seq (.reg [od 9 (.bin .lss (tm 8) (tm 7))] [kp [0,1,7,8,9] []]) (.seq (.cond (tm 9) .skip (.exit 0)) (.seq (.block 1 (.seq (.reg [om 10 8,om 5 10] [kp [0,1,5,7,8] []]) (.seq (.reg [om 11 1,om 12 0,om 13 5,od 14
 (ia 1 12 13),od 15 (ld 1 14),od 16 (.bin .eql (tm 11) (tm 15))] [kp [0,1,5,7,8,16] []]) (.cond (tm 16) (.seq (.reg [om 17 5,om 4 17] [kp [4] []]) .ret) .skip)))) (.reg [od 18 (.bin .add (tm 8) (ki 1)),om 8 18] [kp [0,1,
 7,8] []])))) [kp [0,1,7,8] []]
def Ec:IC:=.loop N6
def Gx:List RO:=[od 4 (.mv (.const (.int .i64 (-1))))]
abbrev N7:IC:=(.seq (.reg [od 4 (.mv (ki 0))] [kp [0,1] []]) (.seq (.seq (.reg [om 6 0,od 7 (le 0 6),od 8 (.mv (ki 0))] [kp [0,1,7,8] []]) (.block 0 Ec)) (.seq (.reg Gx [kp [4] []]) .ret)))
theorem Ii (h:∀ K:St→Prop,K=run P Γ Ec Q→run P Γ N6 (Am K Q) s):run P Γ Ec Q s:=Ae h
attribute [simp] Gx
def Db:List RV:=[.tmp 4]
/- slices.ContainsFunc[[]probecard/api.Value,probecard/api.Value] (function 101) -/
abbrev H7:IC:=(.seq (.reg [od 4 (.mv kF)] [kp [0,1] []]) (.seq (.reg [om 5 0,om 6 1,od 7 (.call 171 [(tm 5),(tm 6)]),od 8 (.bin .geq (tm 7) (ki 0)),om 4 8] [kp [4] []]) .ret))
def H8:List RV:=[.tmp 4]
/- slices.IndexFunc[[]probecard/api.Value,probecard/api.Value] (function 171) -/
abbrev Ij:IC:=.gh (.seq (.reg [od 9 (.bin .lss (tm 8) (tm 7))] [kp [0,1,7,8,9] []]) (.seq (.cond (tm 9) .skip (.exit 0)) (.seq (.block 1 (.seq (.reg [om 10 8,om 5 10] [kp [0,1,5,7,8] []]) (.seq (.reg [om 11 1,om 12 0,om 13 5,od 14
 (ia 1 12 13),od 15 (ld 1 14),od 16 (.callv (tm 11) [(tm 15)])] [kp [0,1,5,7,8,16] []]) (.cond (tm 16) (.seq (.reg [om 17 5,om 4 17] [kp [4] []]) .ret) .skip)))) (.reg [od 18 (.bin .add (tm 8) (ki 1)),om 8 18] [kp [0,1,7,
 8] []])))) [kp [0,1,7,8] []]
def Dh:IC:=.loop Ij
abbrev Ik:IC:=(.seq (.reg [od 4 (.mv (ki 0))] [kp [0,1] []]) (.seq (.seq (.reg [om 6 0,od 7 (le 0 6),od 8 (.mv (ki 0))] [kp [0,1,7,8] []]) (.block 0 Dh)) (.seq (.reg [od 4 (.mv (.const (.int .i64 (-1))))] [kp [4]
 []]) .ret)))
theorem Gs (h:∀ K:St→Prop,K=run P Γ Dh Q→run P Γ Ij (Am K Q) s):run P Γ Dh Q s:=Ae h
def Eu:List RV:=[.tmp 4]
/- probecard/logic.Eval (function 86) -/
abbrev Bo:IC:=(.seq (.reg [od 4 (.mv (ku 0))] [kp [0,1] []]) (.seq (.seq (.reg [om 8 0,od 9 (.call 153 [(tm 8)]),om 7 9,od 10 (ex 7 0),od 11 (ex 7 1),om 5 10,om 6 11] [kp [0,1,5,6] []]) (.seq (.reg [om 12 1,od 13 (le 0 12),om 14 5,
 od 15 (.bin .lss (tm 13) (tm 14)),om 16 15,oF 17 (.mv (tm 1)) 16,oF 18 (le 0 17) 16,oF 19 (.mv (tm 6)) 16,oF 20 (.bin .gtr (tm 18) (tm 19)) 16,od 21 (.pick (tm 16) kT (tm 20))] [kp [0,1,21] []]) (.cond (tm 21) (.seq (.reg
 [od 4 (.mv (ku 2))] [kp [4] []]) .ret) .skip))) (.seq (.seq (.reg [om 22 0] [kp [1,22] []]) (.block 0 (.seq (.reg [od 24 (.bin .eql (tm 22) (ku 1)),om 23 24] [kp [1,22,23] []]) (.cond (tm 23) (.seq (.reg [od 4 (.mv (ku 0))] [kp
 [4] []]) .ret) (.seq (.reg [od 26 (.bin .eql (tm 22) (ku 2)),om 25 26] [kp [1,22,25] []]) (.cond (tm 25) (.seq (.reg [od 4 (.mv (ku 1))] [kp [4] []]) .ret) (.seq (.reg [od 28 (.bin .eql (tm 22) (ku 3)),om 27 28] [kp [1,22,27]
 []]) (.cond (tm 27) (.seq (.reg [om 29 1,od 30 (.iadr 1 (tm 29) (ki 0)),od 31 (ld 1 30),od 32 (.call 154 [(tm 31)]),om 4 32] [kp [4] []]) .ret) (.seq (.reg [od 34 (.bin .eql (tm 22) (ku 4)),om 33 34] [kp [1,22,33] []])
 (.cond (tm 33) (.seq (.reg [om 35 1,od 36 (.iadr 1 (tm 35) (ki 0)),od 37 (ld 1 36),od 38 (.call 155 [(tm 37)]),om 4 38] [kp [4] []]) .ret) (.seq (.reg [od 40 (.bin .eql (tm 22) (ku 5)),om 39 40] [kp [1,22,39] []]) (.cond (tm
 39) (.seq (.reg [om 41 1,od 42 (.call 156 [(tm 41)]),om 4 42] [kp [4] []]) .ret) (.seq (.reg [od 44 (.bin .eql (tm 22) (ku 6)),om 43 44] [kp [1,22,43] []]) (.cond (tm 43) (.seq (.reg [om 45 1,od 46 (.call 156 [(tm 45)]),od
 47 (.call 155 [(tm 46)]),om 4 47] [kp [4] []]) .ret) (.seq (.reg [od 49 (.bin .eql (tm 22) (ku 7)),om 48 49] [kp [1,22,48] []]) (.cond (tm 48) (.seq (.reg [om 50 1,od 51 (.call 157 [(tm 50)]),om 4 51] [kp [4] []]) .ret) (.seq
 (.reg [od 53 (.bin .eql (tm 22) (ku 8)),om 52 53] [kp [1,22,52] []]) (.cond (tm 52) (.seq (.reg [om 54 1,od 55 (.call 157 [(tm 54)]),od 56 (.call 155 [(tm 55)]),om 4 56] [kp [4] []]) .ret) (.seq (.reg [od 58 (.bin .eql (tm
 22) (ku 9)),om 57 58] [kp [1,22,57] []]) (.cond (tm 57) (.seq (.reg [om 59 1,od 60 (.call 158 [(tm 59)]),om 4 60] [kp [4] []]) .ret) (.seq (.reg [od 62 (.bin .eql (tm 22) (ku 10)),om 61 62] [kp [1,22,61] []]) (.cond (tm 61)
 (.seq (.reg [om 63 1,od 64 (.call 158 [(tm 63)]),od 65 (.call 155 [(tm 64)]),om 4 65] [kp [4] []]) .ret) (.seq (.reg [od 67 (.bin .eql (tm 22) (ku 11)),om 66 67] [kp [1,22,66] []]) (.cond (tm 66) (.seq (.reg [om 68 1,od 69
 (.iadr 1 (tm 68) (ki 0)),od 70 (ld 1 69),om 71 1,od 72 (.iadr 1 (tm 71) (ki 1)),od 73 (ld 1 72),om 74 1,od 75 (.iadr 1 (tm 74) (ki 2)),od 76 (ld 1 75),od 77 (.call 159 [(tm 70),(tm 73),(tm 76)]),om 4 77] [kp [4] []])
 .ret) (.seq (.reg [od 79 (.bin .eql (tm 22) (ku 12)),om 78 79] [kp [1,22,78] []]) (.cond (tm 78) (.seq (.reg [om 80 1,od 81 (.iadr 1 (tm 80) (ki 0)),od 82 (ld 1 81),om 83 1,od 84 (.iadr 1 (tm 83) (ki 1)),od 85 (ld 1 84),od
 86 (.call 160 [(tm 82),(tm 85)]),om 4 86] [kp [4] []]) .ret) (.seq (.reg [od 88 (.bin .eql (tm 22) (ku 13)),om 87 88] [kp [1,87] []]) (.cond (tm 87) (.seq (.reg [om 89 1,od 90 (.call 161 [(tm 89)]),om 4 90] [kp [4] []]) .ret)
 .skip)))))))))))))))))))))))))))) (.seq (.reg [od 4 (.mv (ku 2))] [kp [4] []]) .ret))))
def Bh:List RV:=[.tmp 4]
end
end Go.Lg
namespace Go.Lg
open Go Go.Proofs
theorem q96:Ao Tryz.prog 140 q3X 6 1 q3Y=true:=by kernel_rfl
theorem qAL:Ao Tryz.prog 154 q56 5 1 q57=true:=by kernel_rfl
theorem q97:Ao Tryz.prog 31 q3Z 5 1 q3a=true:=by kernel_rfl
theorem qB8:Ao Tryz.prog 155 q70 7 1 q26=true:=by kernel_rfl
theorem q76:Ao Tryz.prog 213 q1K 28 3 Tq=true:=by kernel_rfl
theorem qB9:Ao Tryz.prog 156 q71 5 1 q72=true:=by kernel_rfl
theorem qCd:Ao Tryz.prog 157 q8f 5 1 q8g=true:=by kernel_rfl
theorem qBA:Ao Tryz.prog 158 q74 20 1 q27=true:=by kernel_rfl
theorem qBB:Ao Tryz.prog 159 Ql 23 3 Qm=true:=by kernel_rfl
theorem qBC:Ao Tryz.prog 160 Xi 12 2 Xj=true:=by kernel_rfl
theorem qBD:Ao Tryz.prog 161 q75 24 1 Qn=true:=by kernel_rfl
theorem q98:Ao Tryz.prog 214 q3b 6 1 q3c=true:=by kernel_rfl
theorem q99:Ao Tryz.prog 215 q3d 5 1 q3e=true:=by kernel_rfl
theorem q60:Ao Tryz.prog 216 q06 9 1 Qo=true:=by kernel_rfl
theorem V1:Ao Tryz.prog 255 Je 9 2 Jf=true:=by kernel_rfl
theorem Yn:Ao Tryz.prog 274 N7 19 2 Db=true:=by kernel_rfl
theorem Q5:Ao Tryz.prog 101 H7 9 2 H8=true:=by kernel_rfl
theorem Tt:Ao Tryz.prog 171 Ik 19 2 Eu=true:=by kernel_rfl
theorem qAM:Ao Tryz.prog 86 Bo 91 2 Bh=true:=by kernel_rfl
end Go.Lg
namespace Go.Lg
open Go Go.Proofs
variable {Γ:Tables}
theorem Yo (v:Int):A3 Tryz.prog Γ 140 [tK v] (tK (Dw v)):=by
 refine A7 q96 rfl ?_
 by_cases h:3<v <;> simp [q3X,q3Y,Au,Dw,h]
theorem Tu (v:Int):A3 Tryz.prog Γ 154 [tK v] (tK (E8 v)):=by
 refine A7 qAL rfl ?_
 by_cases h:v<2 <;> simp [q56,q57,Au,E8,h,q0w,Hv] <;> omega
theorem Ot (v:Int):A3 Tryz.prog Γ 31 [tK v] (tB (I4 v)):=by
 refine A7 q97 rfl ?_
 simp [q3Z,q3a,Au,I4]
theorem q77 (v:Int) (h0:0≤v):A3 Tryz.prog Γ 155 [tK v] (tK (Xg v)):=by
 refine A7 qB8 rfl ?_
 simp [q70]
 refine A1 (Ot v) rfl ?_
 by_cases h:v≤1
 ·simp (disch:=omega) [q26,Au,I4,Xg,h,Bm]
 ·simp (disch:=omega) [q26,Au,I4,Xg,h,Bm]
theorem qIa (s a b:Int):A3 Tryz.prog Γ 159 [tK s,tK a,tK b] (tK (qAH s a b)):=by
 refine A7 qBB rfl ?_
 by_cases h:s=0
 ·simp [Ql,h]
  refine A1 (Tu a) rfl ?_
  simp [Qm,Au,qAH,h]
 by_cases h1:s=1
 ·simp [Ql,h1]
  refine A1 (Tu b) rfl ?_
  simp [Qm,Au,qAH,h1]
 by_cases h2:a=b
 ·simp [Ql,h,h1,h2]
  refine A1 (Tu b) rfl ?_
  simp [Qm,Au,qAH,h,h1,h2]
 ·simp [Ql,h,h1,h2,Qm,Au,qAH]
theorem qIb (e d:Int):A3 Tryz.prog Γ 160 [tK e,tK d] (tK (qB7 e d)):=by
 refine A7 qBC rfl ?_
 by_cases h:e=0
 ·simp [Xi,h,Xj,Au,qB7]
 by_cases h1:e=1
 ·simp [Xi,h1]
  refine A1 (Tu d) rfl ?_
  simp [Xj,Au,qB7,h1]
 ·simp [Xi,h,h1,Xj,Au,qB7]
abbrev Ap (l:List Int):List (List T):=Ac tK l
def tV (s:Sl Int):T:=.sl (Ap s.l) s.cap s.nl
theorem q28 {Q:AX→St→Prop} (l:List Int) (c:Option Nat) (nl:Option Bool) (low high:Int) (hl:l.length≤1000000000) (R:Int)
  (h0:Q (.exit 0) ⟨[(1,.t (tK low)),(2,.t (tK high)),(7,.t (tK R)),(11,.t (.sl (Ap l) c nl)),(12,.t (tI l.length)),(13,.t (tI l.length)),(14,.t (tB false))],[]⟩)
  (h1:R=low→Q .ret ⟨[(6,.t (tK low))],[]⟩):∀ (k i:Nat) (out:Int),k+i=l.length→J5 low high out (l.drop i)=R →
  run Tryz.prog Γ Lu Q ⟨[(1,.t (tK low)),(2,.t (tK high)),(7,.t (tK out)),(11,.t (.sl (Ap l) c nl)),(12,.t (tI l.length)),(13,.t (tI i))],[]⟩
 | 0,i,out,h,hR=>by
  refine V0 fun K hK=>?_
  have h2:¬ i<l.length:=by omega
  rw [List.drop_of_length_le (by omega)] at hR
  simp only [J5] at hR
  subst hR
  have h3:i=l.length:=by omega
  simp [h2]
  subst h3
  exact h0
 | k+1,i,out,h,hR=>by
  refine V0 fun K hK=>?_
  have h2:i<l.length:=by omega
  rw [List.drop_eq_getElem_cons h2] at hR
  simp only [J5] at hR
  have hget:=By (f:=tK) 0 h2
  simp only [List.getElem?_eq_getElem h2,Option.getD_some] at hget
  generalize l[i]=v at *
  by_cases a1:v=low
  ·rw [if_pos a1] at hR
   simp (disch:=omega) [h2,A0,hget,A6,A4,a1]
   exact h1 hR.symm
  ·by_cases a2:v=high
   ·rw [if_neg a1,if_neg (by simp [a2])] at hR
    have ih:=q28 l c nl low high hl R h0 h1 k (i+1) out (by omega) hR
    have a1':¬ high=low:=by rw [← a2]; exact a1
    simp (disch:=omega) [h2,A0,hget,A6,A4,a1',a2]
    rw [hK]
    exact_mod_cast ih
   ·rw [if_neg a1,if_pos a2] at hR
    have ih:=q28 l c nl low high hl R h0 h1 k (i+1) 2 (by omega) hR
    simp (disch:=omega) [h2,A0,hget,A6,A4,a1,a2]
    rw [hK]
    exact_mod_cast ih
theorem q78 (l:List Int) (c:Option Nat) (nl:Option Bool) (low high:Int) (hl:l.length≤1000000000):A3 Tryz.prog Γ 213 [.sl (Ap l) c nl,tK low,tK high] (tK (J5 low high high l)):=by
 refine A7 q76 rfl ?_
 simp (disch:=omega) [q1K,A0,A4]
 refine q28 l c nl low high hl (J5 low high high l) ?_ (fun h=>?_) l.length 0 high (by omega) (by simp)
 ·simp [Tq,Au]
 ·simp [Tq,Au,h]
theorem qDl (l:List Int) (c:Option Nat) (nl:Option Bool) (hl:l.length≤1000000000):A3 Tryz.prog Γ 156 [.sl (Ap l) c nl] (tK (J5 0 1 1 l)):=by
 refine A7 qB9 rfl ?_
 simp [q71]
 refine A1 (q78 l c nl 0 1 hl) rfl ?_
 simp [q72,Au]
theorem qGG (l:List Int) (c:Option Nat) (nl:Option Bool) (hl:l.length≤1000000000):A3 Tryz.prog Γ 157 [.sl (Ap l) c nl] (tK (J5 1 0 0 l)):=by
 refine A7 qCd rfl ?_
 simp [q8f]
 refine A1 (q78 l c nl 1 0 hl) rfl ?_
 simp [q8g,Au]
theorem qKI {a b:Int} (ha:a=0∨a=1) (hb:b=0∨b=1):IntKind.u8.wrap ((BitVec.ofInt IntKind.u8.bits a ^^^ BitVec.ofInt IntKind.u8.bits b).toNat:Int)=qIX a b:=by
 rcases ha with rfl | rfl <;> rcases hb with rfl | rfl <;> decide
theorem qDm {Q:AX→St→Prop} (l:List Int) (c:Option Nat) (nl:Option Bool) (hl:l.length≤1000000000) (hv:∀ v ∈ l,0≤v) (R:Int)
  (h0:Q (.exit 0) ⟨[(3,.t (tK R)),(6,.t (.sl (Ap l) c nl)),(7,.t (tI l.length)),(8,.t (tI l.length)),(9,.t (tB false))],[]⟩)
  (h1:R=2→Q .ret ⟨[(2,.t (tK 2))],[]⟩):∀ (k i:Nat) (out:Int),k+i=l.length→(out=0∨out=1)→q1G out (l.drop i)=R →
  run Tryz.prog Γ Xh Q ⟨[(3,.t (tK out)),(6,.t (.sl (Ap l) c nl)),(7,.t (tI l.length)),(8,.t (tI i))],[]⟩
 | 0,i,out,h,ho,hR=>by
  refine q1L fun K hK=>?_
  have h2:¬ i<l.length:=by omega
  rw [List.drop_of_length_le (by omega)] at hR
  simp only [q1G] at hR
  subst hR
  have h3:i=l.length:=by omega
  simp [h2]
  subst h3
  exact h0
 | k+1,i,out,h,ho,hR=>by
  refine q1L fun K hK=>?_
  have h2:i<l.length:=by omega
  rw [List.drop_eq_getElem_cons h2] at hR
  simp only [q1G] at hR
  have hget:=By (f:=tK) 0 h2
  simp only [List.getElem?_eq_getElem h2,Option.getD_some] at hget
  have hv0:=hv _ (List.getElem_mem h2)
  generalize l[i]=v at *
  by_cases a1:v≤1
  ·rw [if_pos a1] at hR
   have ih:=qDm l c nl hl hv R h0 h1 k (i+1) (qIX out v) (by omega) (by unfold qIX; split <;> simp) hR
   simp (disch:=omega) [h2,A0,hget,A6,A4]
   refine A1 (Ot v) rfl ?_
   have hx:=qKI ho (show v=0∨v=1 by omega)
   simp (disch:=omega) [I4,a1,↓hx,A4]
   rw [hK]
   exact_mod_cast ih
  ·rw [if_neg a1] at hR
   simp (disch:=omega) [h2,A0,hget,A6,A4]
   refine A1 (Ot v) rfl ?_
   simp (disch:=omega) [I4,a1]
   exact h1 hR.symm
theorem qDn (l:List Int) (c:Option Nat) (nl:Option Bool) (hl:l.length≤1000000000) (hv:∀ v ∈ l,0≤v):A3 Tryz.prog Γ 158 [.sl (Ap l) c nl] (tK (q1G 0 l)):=by
 refine A7 qBA rfl ?_
 simp (disch:=omega) [q74,A0,A4]
 refine qDm l c nl hl hv (q1G 0 l) ?_ (fun h=>?_) l.length 0 0 (by omega) (.inl rfl) (by simp)
 ·simp [q27,Au]
 ·simp [q27,Au,h]
theorem q3f (l:List Int) (c:Option Nat) (nl:Option Bool) (x:Int) (hl:l.length≤1000000000):∀ (k i:Nat),k+i=l.length→(∀ j,j<i→∀ y,l[j]? = some y→(y == x)=false) →
  run Tryz.prog Γ Ec (Nj 0 (Am (run Tryz.prog Γ (.seq (.reg Gx [.keep [4] []]) .ret) (ret true Db fun r=>r=tI (q0o (· == x) l))) (ret true Db fun r=>r=tI (q0o (· == x) l)))) ⟨[(0,.t (.sl (Ac tK l) c nl)),(1,.t (tK x)),(7,.t (tI l.length)),(8,.t (tI i))],[]⟩
 | 0,i,h,hp=>by
  refine Ii fun K hK=>?_
  have h2:¬ i<l.length:=by omega
  simp (disch:=omega) [A0,By (0:Int),A6,A4,h2,ret,Db,Dl,Fz,Fv,Au]
  have:l.findIdx? (· == x)=none:=by
   rw [List.findIdx?_eq_none_iff]
   intro y hy
   obtain ⟨j,hj,rfl⟩:=List.getElem_of_mem hy
   exact hp j (by omega) _ (List.getElem?_eq_getElem hj)
  have e:l.findIdx? (fun y=>decide (y=x))=_:=this
  simp [q0o,e]
 | k+1,i,h,hp=>by
  refine Ii fun K hK=>?_
  have h2:i<l.length:=by omega
  simp (disch:=omega) [A0,By (0:Int),A6,A4,h2]
  refine ⟨fun hc=>?_,fun hc=>?_⟩
  ·simp [Bj,ret,Db,Dl,Fz,Fv,Au]
   have:=q22 (p:=(· == x)) hp l[i] (List.getElem?_eq_getElem h2) (by simp [hc])
   have e:l.findIdx? (fun y=>decide (y=x))=_:=this
   simp [q0o,e]
  ·simp (disch:=omega) [Bj,A4]
   rw [hK]
   exact_mod_cast q3f l c nl x hl k (i+1) (by omega) (fun j hj y hy=>by
    rcases Nat.lt_succ_iff_lt_or_eq.1 hj with hj | rfl
    ·exact hp j hj y hy
    ·rw [List.getElem?_eq_getElem h2] at hy; simp at hy; subst hy
     simp; exact fun e=>hc e.symm)
theorem qHJ (l:List Int) (c:Option Nat) (nl:Option Bool) (x:Int) (hl:l.length≤1000000000):A3 Tryz.prog Γ 274 [.sl (Ac tK l) c nl,tK x] (tI (q0o (· == x) l)):=by
 refine A7 Yn rfl ?_
 simp (disch:=omega) [N7,A0,A4]
 exact_mod_cast q3f l c nl x hl l.length 0 (by omega) (by simp)
theorem q79 (l:List Int) (c:Option Nat) (nl:Option Bool) (x:Int) (hl:l.length≤1000000000):A3 Tryz.prog Γ 255 [.sl (Ac tK l) c nl,tK x] (tB (l.contains x)):=by
 refine A7 V1 rfl ?_
 simp (disch:=omega) [Je,A0,A4]
 refine A1 (qHJ l c nl x hl) rfl ?_
 simp [ret,Jf,Dl,Fz,Fv,Au]
 unfold q0o
 cases h:l.findIdx? (· == x) with
 | none =>
  rw [List.findIdx?_eq_none_iff] at h
  have:¬ x ∈ l:=fun hx=>by simpa using h x hx
  simp [this]
 | some i =>
  rw [List.findIdx?_eq_some_iff_getElem] at h
  obtain ⟨hi,h1,_⟩:=h
  have:x ∈ l:=by rw [← (show l[i]=x by simpa using h1)]; exact List.getElem_mem hi
  simp [this]
theorem Yp {Q:AX→St→Prop} (l:List Int) (c:Option Nat) (nl:Option Bool) (f:FuncId) (cs:List T) (p:Int→Bool) (hp:∀ x ∈ l,A3 Tryz.prog Γ f (tK x::cs) (tB (p x))) (hl:l.length≤1000000000)
  (h0:(∀ x ∈ l,p x=false)→Q (.exit 0) ⟨[(0,.t (.sl (Ac tK l) c nl)),(1,.t (.fn f cs)),(7,.t (tI l.length)),(8,.t (tI l.length)),(9,.t (tB false))],[]⟩)
  (h1:∀ i:Nat,l.findIdx? p=some i→Q .ret ⟨[(4,.t (tI i))],[]⟩):∀ (k i:Nat),k+i=l.length→(∀ j,j<i→∀ y,l[j]? = some y→p y=false) →
  run Tryz.prog Γ Dh Q ⟨[(0,.t (.sl (Ac tK l) c nl)),(1,.t (.fn f cs)),(7,.t (tI l.length)),(8,.t (tI i))],[]⟩
 | 0,i,h,hq=>by
  refine Gs fun K hK=>?_
  have h2:¬ i<l.length:=by omega
  simp (disch:=omega) [A0,By (0:Int),A6,A4,h2]
  have h3:i=l.length:=by omega
  subst h3
  refine h0 fun y hy=>?_
  obtain ⟨j,hj,rfl⟩:=List.getElem_of_mem hy
  exact hq j (by omega) _ (List.getElem?_eq_getElem hj)
 | k+1,i,h,hq=>by
  refine Gs fun K hK=>?_
  have h2:i<l.length:=by omega
  simp (disch:=omega) [A0,By (0:Int),A6,A4,h2]
  refine Yf (hp l[i] (List.getElem_mem h2)) ?_
  simp
  refine ⟨fun hc=>?_,fun hc=>?_⟩
  ·simp [Bj]
   exact h1 i (q22 hq l[i] (List.getElem?_eq_getElem h2) hc)
  ·simp (disch:=omega) [Bj,A4]
   rw [hK]
   exact_mod_cast Yp l c nl f cs p hp hl h0 h1 k (i+1) (by omega) (fun j hj y hy=>by
    rcases Nat.lt_succ_iff_lt_or_eq.1 hj with hj | rfl
    ·exact hq j hj y hy
    ·rw [List.getElem?_eq_getElem h2] at hy; simp at hy; subst hy; exact hc)
theorem q58 (l:List Int) (c:Option Nat) (nl:Option Bool) (f:FuncId) (cs:List T) (p:Int→Bool) (hp:∀ x ∈ l,A3 Tryz.prog Γ f (tK x::cs) (tB (p x))) (hl:l.length≤1000000000):A3 Tryz.prog Γ 171 [.sl (Ac tK l) c nl,.fn f cs] (tI (q0o p l)):=by
 refine A7 Tt rfl ?_
 simp (disch:=omega) [Ik,A0,A4]
 refine Yp l c nl f cs p hp hl (fun h=>?_) (fun i h=>?_) l.length 0 (by omega) (by simp)
 ·have:l.findIdx? p=none:=List.findIdx?_eq_none_iff.2 h
  simp [ret,Eu,Dl,Fz,Fv,Au,q0o,this]
 ·simp [ret,Eu,Dl,Fz,Fv,Au,q0o,h]
theorem E0 (l:List Int) (c:Option Nat) (nl:Option Bool) (f:FuncId) (cs:List T) (p:Int→Bool) (hp:∀ x ∈ l,A3 Tryz.prog Γ f (tK x::cs) (tB (p x))) (hl:l.length≤1000000000):A3 Tryz.prog Γ 101 [.sl (Ac tK l) c nl,.fn f cs] (tB (l.any p)):=by
 refine A7 Q5 rfl ?_
 simp (disch:=omega) [H7,A0,A4]
 refine A1 (q58 l c nl f cs p hp hl) rfl ?_
 simp [ret,H8,Dl,Fz,Fv,Au]
 unfold q0o
 cases h:l.findIdx? p with
 | none =>
  rw [List.findIdx?_eq_none_iff] at h
  have:l.any p=false:=by rw [List.any_eq_false]; intro x hx; simp [h x hx]
  simp [this]
 | some i =>
  rw [List.findIdx?_eq_some_iff_getElem] at h
  obtain ⟨hi,h1,_⟩:=h
  have:l.any p=true:=List.any_eq_true.2 ⟨_,List.getElem_mem hi,h1⟩
  simp [this]
theorem qBE (l:List Int) (c:Option Nat) (nl:Option Bool) (hl:l.length≤1000000000):A3 Tryz.prog Γ 216 [.sl (Ap l) c nl] (tB (q81 l)):=by
 refine A7 q60 rfl ?_
 simp [q06]
 refine A1 (q79 l c nl 0 hl) rfl ?_
 simp
 by_cases h:(0:Int) ∈ l
 ·simp [h]
  refine A1 (q79 l c nl 1 hl) rfl ?_
  simp [Qo,Au,q81,h]
 ·simp [h,Qo,Au,q81]
theorem qIc (v:Int):A3 Tryz.prog Γ 214 [tK v] (tB (qDi v)):=by
 refine A7 q98 rfl ?_
 simp [q3b]
 refine A1 (Yo v) rfl ?_
 simp [q3c,Au,qDi]
theorem qId (v:Int):A3 Tryz.prog Γ 215 [tK v] (tB (qHG v)):=by
 refine A7 q99 rfl ?_
 simp [q3d,q3e,Au,qHG]
theorem qIe (l:List Int) (c:Option Nat) (nl:Option Bool) (hl:l.length≤1000000000):A3 Tryz.prog Γ 161 [.sl (Ap l) c nl] (tK (q6v l)):=by
 refine A7 qBD rfl ?_
 simp [q75]
 refine A1 (q58 l c nl _ [] qHG (fun x _=>qId x) hl) rfl ?_
 unfold q0o
 cases h:l.findIdx? qHG with
 | none =>
  have hR:q6v l=3:=by unfold q6v; rw [h]
  simp [Qn,Au,hR]
 | some i =>
  have hb:q6v l=if q81 l=true∨l.any qDi=true then 2 else l.getD i 0:=by unfold q6v; rw [h]
  have hi:i<l.length:=by
   rw [List.findIdx?_eq_some_iff_getElem] at h
   exact h.1
  have hget:=By (f:=tK) 0 hi
  have hgg:l[i]?.getD 0=l.getD i 0:=by simp [List.getD_eq_getElem?_getD]
  rw [hgg] at hget
  have hneg:¬ (i:Int)<0:=by omega
  simp only
  simp [hneg]
  refine A1 (qBE l c nl hl) rfl ?_
  by_cases h1:q81 l=true
  ·rw [if_pos (.inl h1)] at hb
   simp [h1,Qn,Au,hb]
  ·simp [h1]
   refine A1 (E0 l c nl _ [] qDi (fun x _=>qIc x) hl) rfl ?_
   by_cases h2:l.any qDi=true
   ·rw [if_pos (.inr h2)] at hb
    simp only [h2]
    simp [Qn,Au,hb]
   ·rw [if_neg (by rintro (h | h); exact h1 h; exact h2 h)] at hb
    simp only [Bool.not_eq_true] at h2
    generalize q6v l=r at *
    subst hb
    simp only [h2]
    simp (disch:=omega) [Qn,Au,A0,A6,hget,hi]
theorem qHK (hΓ:GOk Γ) (k:Int) (hk:0≤k∧k≤255) (l:List Int) (c:Option Nat) (nl:Option Bool) (hl:l.length≤1000000000) (hv:∀ v ∈ l,V4 v):A3 Tryz.prog Γ 86 [tK k,.sl (Ap l) c nl] (tK (Yj k l)):=by
 refine A7 qAM rfl ?_
 unfold Yj
 by_cases hw:q82 k l.length=true
 ·rw [if_pos hw]
  simp only [q82,decide_eq_true_eq] at hw
  simp [Bo]
  refine A1 (Dc hΓ k hk.1 hk.2) rfl ?_
  by_cases hw1:(l.length:Int)<(Vs k).1
  ·simp [A0,hw1,Bh,Au]
  ·have hw2:(Vs k).2<(l.length:Int):=by omega
   simp [A0,hw1,hw2,Bh,Au]
 rw [if_neg hw]
 simp only [q82,decide_eq_true_eq] at hw
 have hw1:¬ (l.length:Int)<(Vs k).1:=by omega
 have hw2:¬ (Vs k).2<(l.length:Int):=by omega
 have hv0:∀ v ∈ l,0≤v:=fun v h=>(hv v h).1
 have ge:∀ i,i<l.length→(Ac tK l)[i]?.getD []=[tK (l.getD i 0)]:=fun i hi=>by
  have hget:=By (f:=tK) 0 hi
  have hgg:l[i]?.getD 0=l.getD i 0:=by simp [List.getD_eq_getElem?_getD]
  rw [hgg] at hget
  exact hget
 have dA:=Yk (low:=0) (l:=l) (out:=1) (high:=1) (.inr rfl)
 have dO:=Yk (low:=1) (l:=l) (out:=0) (high:=0) (.inr rfl)
 have n1:0≤J5 0 1 1 l:=by rw [dA]; split; omega; split <;> omega
 have n2:0≤J5 1 0 0 l:=by rw [dO]; split; omega; split <;> omega
 have n3:0≤q1G 0 l:=(qF6 (by simp [V4]) hv).1
 have g0:=Tn hv 0
 by_cases e1:k=1
 ·subst e1
  have hR:G1 1 l=0:=rfl
  generalize G1 1 l=r at *
  subst hR
  simp [Bo]
  refine A1 (Dc hΓ 1 hk.1 hk.2) rfl ?_
  simp [A0,hw1,hw2,Bj,Bh,Au]
 by_cases e2:k=2
 ·subst e2
  have hR:G1 2 l=1:=rfl
  generalize G1 2 l=r at *
  subst hR
  simp [Bo]
  refine A1 (Dc hΓ 2 hk.1 hk.2) rfl ?_
  simp [A0,hw1,hw2,Bj,Bh,Au]
 by_cases e3:k=3
 ·subst e3
  have f1:(Vs 3).1=1:=rfl
  have q0:0<l.length:=by omega
  have u0:=ge 0 q0
  have hR:G1 3 l=E8 (l.getD 0 0):=rfl
  generalize l.getD 0 0=x0 at *
  generalize G1 3 l=r at *
  subst hR
  simp [Bo]
  refine A1 (Dc hΓ 3 hk.1 hk.2) rfl ?_
  simp [A0,hw1,hw2,Bj]
  simp (disch:=omega) [A0,A6,q0,u0]
  refine A1 (Tu x0) rfl ?_
  simp [Bh,Au]
 by_cases e4:k=4
 ·subst e4
  have f1:(Vs 4).1=1:=rfl
  have q0:0<l.length:=by omega
  have u0:=ge 0 q0
  have p0:=g0.1
  have hR:G1 4 l=Xg (l.getD 0 0):=rfl
  generalize l.getD 0 0=x0 at *
  generalize G1 4 l=r at *
  subst hR
  simp [Bo]
  refine A1 (Dc hΓ 4 hk.1 hk.2) rfl ?_
  simp [A0,hw1,hw2,Bj]
  simp (disch:=omega) [A0,A6,q0,u0]
  refine A1 (q77 x0 p0) rfl ?_
  simp [Bh,Au]
 by_cases e5:k=5
 ·subst e5
  have hR:G1 5 l=J5 0 1 1 l:=rfl
  generalize G1 5 l=r at *
  subst hR
  simp [Bo]
  refine A1 (Dc hΓ 5 hk.1 hk.2) rfl ?_
  simp [A0,hw1,hw2,Bj]
  refine A1 (qDl l c nl hl) rfl ?_
  simp [Bh,Au]
 by_cases e6:k=6
 ·subst e6
  have hR:G1 6 l=Xg (J5 0 1 1 l):=rfl
  generalize G1 6 l=r at *
  subst hR
  simp [Bo]
  refine A1 (Dc hΓ 6 hk.1 hk.2) rfl ?_
  simp [A0,hw1,hw2,Bj]
  refine A1 (qDl l c nl hl) rfl ?_
  simp
  refine A1 (q77 _ n1) rfl ?_
  simp [Bh,Au]
 by_cases e7:k=7
 ·subst e7
  have hR:G1 7 l=J5 1 0 0 l:=rfl
  generalize G1 7 l=r at *
  subst hR
  simp [Bo]
  refine A1 (Dc hΓ 7 hk.1 hk.2) rfl ?_
  simp [A0,hw1,hw2,Bj]
  refine A1 (qGG l c nl hl) rfl ?_
  simp [Bh,Au]
 by_cases e8:k=8
 ·subst e8
  have hR:G1 8 l=Xg (J5 1 0 0 l):=rfl
  generalize G1 8 l=r at *
  subst hR
  simp [Bo]
  refine A1 (Dc hΓ 8 hk.1 hk.2) rfl ?_
  simp [A0,hw1,hw2,Bj]
  refine A1 (qGG l c nl hl) rfl ?_
  simp
  refine A1 (q77 _ n2) rfl ?_
  simp [Bh,Au]
 by_cases e9:k=9
 ·subst e9
  have hR:G1 9 l=q1G 0 l:=rfl
  generalize G1 9 l=r at *
  subst hR
  simp [Bo]
  refine A1 (Dc hΓ 9 hk.1 hk.2) rfl ?_
  simp [A0,hw1,hw2,Bj]
  refine A1 (qDn l c nl hl hv0) rfl ?_
  simp [Bh,Au]
 by_cases e10:k=10
 ·subst e10
  have hR:G1 10 l=Xg (q1G 0 l):=rfl
  generalize G1 10 l=r at *
  subst hR
  simp [Bo]
  refine A1 (Dc hΓ 10 hk.1 hk.2) rfl ?_
  simp [A0,hw1,hw2,Bj]
  refine A1 (qDn l c nl hl hv0) rfl ?_
  simp
  refine A1 (q77 _ n3) rfl ?_
  simp [Bh,Au]
 by_cases e11:k=11
 ·subst e11
  have f1:(Vs 11).1=3:=rfl
  have q0:0<l.length:=by omega
  have u0:=ge 0 q0
  have q1:1<l.length:=by omega
  have u1:=ge 1 q1
  have q2:2<l.length:=by omega
  have u2:=ge 2 q2
  have hR:G1 11 l=qAH (l.getD 0 0) (l.getD 1 0) (l.getD 2 0):=rfl
  generalize l.getD 0 0=x0 at *
  generalize l.getD 1 0=x1 at *
  generalize l.getD 2 0=x2 at *
  generalize G1 11 l=r at *
  subst hR
  simp [Bo]
  refine A1 (Dc hΓ 11 hk.1 hk.2) rfl ?_
  simp [A0,hw1,hw2,Bj]
  simp (disch:=omega) [A0,A6,q0,u0,q1,u1,q2,u2]
  refine ⟨by omega,by omega,?_⟩
  refine A1 (qIa x0 x1 x2) rfl ?_
  simp [Bh,Au]
 by_cases e12:k=12
 ·subst e12
  have f1:(Vs 12).1=2:=rfl
  have q0:0<l.length:=by omega
  have u0:=ge 0 q0
  have q1:1<l.length:=by omega
  have u1:=ge 1 q1
  have hR:G1 12 l=qB7 (l.getD 0 0) (l.getD 1 0):=rfl
  generalize l.getD 0 0=x0 at *
  generalize l.getD 1 0=x1 at *
  generalize G1 12 l=r at *
  subst hR
  simp [Bo]
  refine A1 (Dc hΓ 12 hk.1 hk.2) rfl ?_
  simp [A0,hw1,hw2,Bj]
  simp (disch:=omega) [A0,A6,q0,u0,q1,u1]
  refine ⟨by omega,?_⟩
  refine A1 (qIb x0 x1) rfl ?_
  simp [Bh,Au]
 by_cases e13:k=13
 ·subst e13
  have hR:G1 13 l=q6v l:=rfl
  generalize G1 13 l=r at *
  subst hR
  simp [Bo]
  refine A1 (Dc hΓ 13 hk.1 hk.2) rfl ?_
  simp [A0,hw1,hw2,Bj]
  refine A1 (qIe l c nl hl) rfl ?_
  simp [Bh,Au]
 have ek:G1 k l=2:=by
  unfold G1
  rw [if_neg e1,if_neg e2,if_neg e3,if_neg e4,if_neg e5,if_neg e6,if_neg e7,if_neg e8,if_neg e9,if_neg e10,if_neg e11,if_neg e12,if_neg e13]
 rw [ek]
 simp [Bo]
 refine A1 (Dc hΓ k hk.1 hk.2) rfl ?_
 simp [A0,hw1,hw2,Bh,Au,e1,e2,e3,e4,e5,e6,e7,e8,e9,e10,e11,e12,e13]
end Go.Lg
namespace Go.Lg
open Go
section
variable {P:Program} {Γ:Tables} {Q:AX→St→Prop} {s:St}
/- slices.SortStableFunc[[]int,int] (function 150) -/
abbrev Jg:IC:=(.reg [om 4 0,om 5 0,od 6 (le 0 5),om 7 1,od 8 (.hcall 211 [(tm 4),(tm 6),(tm 7)] [1000000] 8000)] [kp [] [1000000]])
def Jh:List RV:=[]
/- slices.stableCmpFunc[int] (function 211) -/
abbrev Jv:IC:=.gh (.seq (.seq (.reg [om 11 8,om 12 1,od 13 (.bin .leq (tm 11) (tm 12))] [kp [0,1,2,6,7,8,13] [1000000]]) (.cond (tm 13) .skip (.exit 0))) (.block 1 (.seq (.reg [om 14 0,om 15 7,om 16 8,om 17 2,od 18 (.hcall 253 [(tm
 14),(tm 15),(tm 16),(tm 17)] [1000000] 18000)] [kp [0,1,2,6,8] [1000000]]) (.seq (.reg [om 19 8,om 7 19] [kp [0,1,2,6,7,8] [1000000]]) (.reg [om 20 8,om 21 6,od 22 (.bin .add (tm 20) (tm 21)),om 8 22] [kp [0,1,2,
 6,7,8] [1000000]]))))) [kp [0,1,2,6,7,8] [1000000]]
def Fh:IC:=.loop Jv
abbrev Xk:IC:=.gh (.seq (.seq (.reg [om 33 8,om 34 1,od 35 (.bin .leq (tm 33) (tm 34))] [kp [0,1,2,6,7,8,35] [1000000]]) (.cond (tm 35) .skip (.exit 4))) (.block 5 (.seq (.reg [om 36 0,om 37 7,om 38 7,om 39 6,od 40 (.bin .add (tm 38)
 (tm 39)),om 41 8,om 42 2,od 43 (.hcall 254 [(tm 36),(tm 37),(tm 40),(tm 41),(tm 42)] [1000000] 43000)] [kp [0,1,2,6,8] [1000000]]) (.seq (.reg [om 44 8,om 7 44] [kp [0,1,2,6,7,8] [1000000]]) (.reg [om 45 8,om 46
 6,od 47 (.bin .mul (ki 2) (tm 46)),od 48 (.bin .add (tm 45) (tm 47)),om 8 48] [kp [0,1,2,6,7,8] [1000000]]))))) [kp [0,1,2,6,7,8] [1000000]]
def Xl:IC:=.loop Xk
abbrev Jw:IC:=.gh (.seq (.seq (.reg [om 28 6,om 29 1,od 30 (.bin .lss (tm 28) (tm 29))] [kp [0,1,2,6,30] [1000000]]) (.cond (tm 30) .skip (.exit 2))) (.block 3 (.seq (.reg [om 31 6,od 32 (.bin .mul (ki 2) (tm 31)),od 7 (.mv (ki 0)),om 8
 32] [kp [0,1,2,6,7,8] [1000000]]) (.seq (.block 4 Xl) (.seq (.seq (.reg [om 49 7,om 50 6,od 51 (.bin .add (tm 49) (tm 50)),om 9 51] [kp [0,1,2,6,7,9] [1000000]]) (.seq (.reg [om 52 9,om 53 1,
 od 54 (.bin .lss (tm 52) (tm 53))] [kp [0,1,2,6,7,9,54] [1000000]]) (.cond (tm 54) (.reg [om 55 0,om 56 7,om 57 9,om 58 1,om 59 2,od 60 (.hcall 254 [(tm 55),(tm 56),(tm 57),(tm 58),(tm 59)] [1000000] 60000)] [kp [0,
 1,2,6] [1000000]]) .skip))) (.reg [om 61 6,od 62 (.bin .mul (tm 61) (ki 2)),om 6 62] [kp [0,1,2,6] [1000000]])))))) [kp [0,1,2,6] [1000000]]
def Fj:IC:=.loop Jw
abbrev Jx:IC:=(.seq (.reg [od 6 (.mv (ki 20))] [kp [0,1,2,6] [1000000]]) (.seq (.reg [om 10 6,od 7 (.mv (ki 0)),om 8 10] [kp [0,1,2,6,7,8] [1000000]]) (.seq (.block 0 Fh) (.seq (.reg [om 23 0,om 24 7,om 25 1,
 om 26 2,od 27 (.hcall 253 [(tm 23),(tm 24),(tm 25),(tm 26)] [1000000] 27000)] [kp [0,1,2,6] [1000000]]) (.block 2 Fj)))))
theorem Rk (h:∀ K:St→Prop,K=run P Γ Fh Q→run P Γ Jv (Am K Q) s):run P Γ Fh Q s:=Ae h
theorem Rl (h:∀ K:St→Prop,K=run P Γ Fj Q→run P Γ Jw (Am K Q) s):run P Γ Fj Q s:=Ae h
def Jy:List RV:=[]
/- slices.insertionSortCmpFunc[int] (function 253) -/
abbrev Ge:IC:=.gh (.seq (.seq (.reg [om 18 9,om 19 1,od 20 (.bin .gtr (tm 18) (tm 19)),om 21 20,oT 22 (.mv (tm 3)) 21,oT 23 (.mv (tm 0)) 21,oT 24 (.mv (tm 9)) 21,oT 25 (ia 1 23 24) 21,oT 26 (ld 1 25) 21,oT 27 (.mv (tm 0)) 21,oT 28 (.mv
 (tm 9)) 21,oT 29 (.bin .sub (tm 28) (ki 1)) 21,oT 30 (ia 1 27 29) 21,oT 31 (ld 1 30) 21,oT 32 (.callv (tm 22) [(tm 26),(tm 31)]) 21,oT 33 (.bin .lss (tm 32) (ki 0)) 21,od 34 (.pick (tm 21) (tm 33) kF)] [kp [0,1,2,3,8,9,
 34] [1000000]]) (.cond (tm 34) .skip (.exit 2))) (.seq (.block 3 (.reg [om 37 0,om 38 9,om 39 0,om 40 9,od 41 (.bin .sub (tm 40) (ki 1)),om 42 0,om 43 9,od 44 (.bin .sub (tm 43) (ki 1)),od 45 (ia 1 42 44),od 46 (.ldR
 1000000 1 false (tm 45)),om 47 0,om 48 9,od 49 (ia 1 47 48),od 50 (.ldR 1000000 1 false (tm 49)),od 51 (ia 1 37 38),on (.stR 1000000 1 (tm 51) (tm 46)),od 52 (ia 1 39 41),on (.stR 1000000 1 (tm 52) (tm 50))] [kp [0,1,2,
 3,8,9] [1000000]])) (.reg [om 35 9,od 36 (.bin .sub (tm 35) (ki 1)),om 9 36] [kp [0,1,2,3,8,9] [1000000]]))) [kp [0,1,2,3,8,9] [1000000]]
def C3:IC:=.loop Ge
abbrev Gf:IC:=.gh (.seq (.seq (.reg [om 12 8,om 13 2,od 14 (.bin .lss (tm 12) (tm 13))] [kp [0,1,2,3,8,14] [1000000]]) (.cond (tm 14) .skip (.exit 0))) (.seq (.block 1 (.seq (.reg [om 17 8,om 9 17] [kp [0,1,2,3,8,9] [1000000]])
 (.block 2 C3))) (.reg [om 15 8,od 16 (.bin .add (tm 15) (ki 1)),om 8 16] [kp [0,1,2,3,8] [1000000]]))) [kp [0,1,2,3,8] [1000000]]
def C4:IC:=.loop Gf
abbrev Gg:IC:=(.seq (.reg [om 10 1,od 11 (.bin .add (tm 10) (ki 1)),om 8 11] [kp [0,1,2,3,8] [1000000]]) (.block 0 C4))
theorem Ew (h:∀ K:St→Prop,K=run P Γ C3 Q→run P Γ Ge (Am K Q) s):run P Γ C3 Q s:=Ae h
theorem Ey (h:∀ K:St→Prop,K=run P Γ C4 Q→run P Γ Gf (Am K Q) s):run P Γ C4 Q s:=Ae h
def Gi:List RV:=[]
/- probecard/netlists.Order (function 85) -/
abbrev q07:IC:=.gh (.seq (.reg [od 23 (.bin .lss (tm 22) (tm 21))] [kp [4,6,21,22,23] [19]]) (.seq (.cond (tm 23) .skip (.exit 0)) (.seq (.block 1 (.seq (.reg [om 24 22,om 7 24] [kp [4,6,7,21,22] [19]]) (.reg [om 25 6,om 26 7,om 27 7,
 od 28 (ia 1 25 26),on (.store 1 (tm 28) (tm 27))] [kp [4,6,21,22] [19]]))) (.reg [od 29 (.bin .add (tm 22) (ki 1)),om 22 29] [kp [4,6,21,22] [19]])))) [kp [4,6,21,22] [19]]
def Jz:IC:=.loop q07
abbrev q08:IC:=(.seq (.reg [od 1 (.box true (tm 0)),od 2 (.mv kN),od 3 (.mv (ki 0))] [kp [1] []]) (.seq (.reg [od 9 (lG 4 1),od 10 (.call 75 [(tm 9)]),om 8 10,od 11 (ex 8 0),od 12 (ex 8 1),od 4 (.alloc false [(.slice none 0 0)]),on
 (.store 1 (tm 4) (tm 11)),om 5 12] [.frz 4,kp [1,4,5] []]) (.seq (.seq (.reg [om 13 5,od 14 (.bin .neq (tm 13) (ki 0))] [kp [1,4,5,14] []]) (.cond (tm 14) (.seq (.reg [om 15 5,od 2 (.mv kN),om 3 15] [kp [2,3] [19]])
 .ret) .skip)) (.seq (.reg [od 16 (fa 0 1),od 17 (ld 1 16),od 18 (le 0 17),od 19 (.mk 3 1 [(.int .i64 0)] (tm 18) (tm 18)),om 6 19] [kp [4,6] [19]]) (.seq (.seq (.reg [om 20 6,od 21 (le 0 20),od 22 (.mv (ki 0))] [kp [4,6,
 21,22] [19]]) (.block 0 Jz)) (.seq (.reg [om 30 6,od 31 (.mkf 151 [(tm 4)]),od 32 (.hcall 150 [(tm 30),(tm 31)] [19] 32000)] [kp [6] [19]]) (.seq (.reg [om 33 6,om 2 33,od 3 (.mv (ki 0))] [kp [2,3] [19]])
 .ret)))))))
theorem Ry (h:∀ K:St→Prop,K=run P Γ Jz Q→run P Γ q07 (Am K Q) s):run P Γ Jz Q s:=Ae h
def Qp:List RV:=[.tmp 2,.tmp 3]
/- probecard/netlists.Order$1 (function 151) -/
abbrev W9:IC:=(.seq (.reg [od 5 (.mv (ki 0))] [kp [0,1,2] []]) (.seq (.reg [od 6 (ld 1 2),om 7 0,od 8 (ia 1 6 7),od 9 (ld 1 8),od 10 (ld 1 2),om 11 1,od 12 (ia 1 10 11),od 13 (ld 1 12),od 14 (.call 152 [(tm 9),(tm 13)]),om 5 14] [kp
 [5] []]) .ret))
def Wa:List RV:=[.tmp 5]
/- cmp.Compare[int] (function 152) -/
abbrev Yq:IC:=(.seq (.reg [od 4 (.mv (ki 0))] [kp [0,1] []]) (.seq (.reg [om 7 0,od 8 (.call 212 [(tm 7)]),om 5 8] [kp [0,1,5] []]) (.seq (.reg [om 9 1,od 10 (.call 212 [(tm 9)]),om 6 10] [kp [0,1,5,6] []]) (.seq (.seq (.reg [om 11 5]
 [kp [0,1,6,11] []]) (.cond (tm 11) (.seq (.seq (.reg [om 12 6] [kp [12] []]) (.cond (tm 12) (.seq (.reg [od 4 (.mv (ki 0))] [kp [4] []]) .ret) .skip)) (.seq (.reg [od 4 (.mv (.const (.int .i64 (-1))))] [kp [4] []]) .ret))
 .skip)) (.seq (.seq (.reg [om 13 6] [kp [0,1,13] []]) (.cond (tm 13) (.seq (.reg [od 4 (.mv (ki 1))] [kp [4] []]) .ret) .skip)) (.seq (.seq (.reg [om 14 0,om 15 1,od 16 (.bin .lss (tm 14) (tm 15))] [kp [0,1,16] []]) (.cond
 (tm 16) (.seq (.reg [od 4 (.mv (.const (.int .i64 (-1))))] [kp [4] []]) .ret) .skip)) (.seq (.seq (.reg [om 17 0,om 18 1,od 19 (.bin .gtr (tm 17) (tm 18))] [kp [19] []]) (.cond (tm 19) (.seq (.reg [od 4 (.mv (ki 1))] [kp [4] []])
 .ret) .skip)) (.seq (.reg [od 4 (.mv (ki 0))] [kp [4] []]) .ret))))))))
def Ou:List RV:=[.tmp 4]
/- cmp.isNaN[int] (function 212) -/
abbrev q1M:IC:=(.seq (.reg [od 2 (.mv kF)] [kp [0] []]) (.seq (.reg [om 3 0,om 4 0,od 5 (.bin .neq (tm 3) (tm 4)),om 2 5] [kp [2] []]) .ret))
def q1N:List RV:=[.tmp 2]
end
end Go.Lg
namespace Go.Lg
open Go Go.Proofs
theorem V5:Ao Tryz.prog 150 Jg 9 2 Jh=true:=by kernel_rfl
theorem Vv:Ao Tryz.prog 211 Jx 63 3 Jy=true:=by kernel_rfl
theorem O3:Ao Tryz.prog 253 Gg 53 4 Gi=true:=by kernel_rfl
theorem q61:Ao Tryz.prog 85 q08 34 1 Qp=true:=by kernel_rfl
theorem q3g:Ao Tryz.prog 151 W9 15 3 Wa=true:=by kernel_rfl
theorem q4i:Ao Tryz.prog 152 Yq 20 2 Ou=true:=by kernel_rfl
theorem q7A:Ao Tryz.prog 212 q1M 6 1 q1N=true:=by kernel_rfl
end Go.Lg
namespace Go.Lg
open Go Go.Proofs
variable {Γ:Tables}
theorem qDo {hp:List (Nat × B9)} {f:FuncId} {K:T→Prop} {cs:List T} {t u res:T} (h:A3 Tryz.prog Γ f (t::u::cs) res) (hk:K res):q4v Tryz.prog Γ hp f (.t t::.t u::cs.map .t) K ⟨⟩ :=
 A1 h (by simp only [List.map_cons,List.map_map,Function.comp_def,Ah,Ai]; rw [Pm]; rfl) hk
theorem qIf {l:List Int} {a b:Nat}:Av (q00 l a b)=((Av l).set a [tI (l.getD b 0)]).set b [tI (l.getD a 0)]:=by
 show Ac tI _=((Ac tI l).set a _).set b _
 rw [Jb,Jb]; rfl
theorem ge1 {f:Int→T} {l:List Int} {i:Nat} (hi:i<l.length):(Ac f l)[i]?.getD []=[f (l.getD i 0)]:=by
 have hget:=By (f:=f) 0 hi
 have hgg:l[i]?.getD 0=l.getD i 0:=by simp [List.getD_eq_getElem?_getD]
 rw [hgg] at hget
 exact hget
theorem qBt {Q:AX→St→Prop} (ty n:Nat) (cap:Option Nat) (hn:n≤1000000000) (f:FuncId) (cs:List T) (cmp:Int→Int→Int) (i:Nat) (hi:i<n) (R:List Int)
  (h0:∀ j:Int,Q (.exit 2) ⟨[(0,.ls 1000000 0 n cap),(1,.t (tI 0)),(2,.t (tI n)),(3,.t (.fn f cs)),(8,.t (tI i)),(9,.t (tI j)),(34,.t (tB false))],[(1000000,.sl ty 1 (Av R))]⟩) :
  ∀ (j:Nat) (l:List Int),j≤i→l.length=n→(∀ x ∈ l,∀ y ∈ l,A3 Tryz.prog Γ f (tI x::tI y::cs) (tI (cmp x y)))→qAJ (fun a b=>decide (cmp a b<0)) j l=R →
  run Tryz.prog Γ C3 Q ⟨[(0,.ls 1000000 0 n cap),(1,.t (tI 0)),(2,.t (tI n)),(3,.t (.fn f cs)),(8,.t (tI i)),(9,.t (tI j))],[(1000000,.sl ty 1 (Av l))]⟩
 | 0,l,hj,hl,hc,hR=>by
  refine Ew fun K hK=>?_
  simp only [qAJ] at hR
  subst hR
  simp
  exact h0 0
 | j+1,l,hj,hl,hc,hR=>by
  refine Ew fun K hK=>?_
  simp only [qAJ] at hR
  have la:j<l.length:=by omega
  have lb:j+1<l.length:=by omega
  have e1:=ge1 (f:=tI) la
  have e2:=ge1 (f:=tI) lb
  have m1:l.getD j 0 ∈ l:=by rw [Bv la]; exact List.getElem_mem la
  have m2:l.getD (j+1) 0 ∈ l:=by rw [Bv lb]; exact List.getElem_mem lb
  have hcc:=hc _ m2 _ m1
  have hs:=qIf (l:=l) (a:=j+1) (b:=j)
  have hperm:(q00 l (j+1) j).Perm l:=qAE lb la
  have hpl:=q7w (l:=l) (a:=j+1) (b:=j)
  have hcs:∀ x ∈ q00 l (j+1) j,∀ y ∈ q00 l (j+1) j,A3 Tryz.prog Γ f (tI x::tI y::cs) (tI (cmp x y)):=fun x hx y hy=>hc x (hperm.mem_iff.1 hx) y (hperm.mem_iff.1 hy)
  have ih:=qBt ty n cap hn f cs cmp i hi R h0 j (q00 l (j+1) j) (by omega) (by rw [hpl]; exact hl) hcs
  generalize q00 l (j+1) j=l' at *
  generalize l.getD j 0=va at *
  generalize l.getD (j+1) 0=vb at *
  have hj1:(0:Int)<(j:Int)+1:=by omega
  have hj2:((j:Int)+1).toNat=j+1:=by omega
  have hj3:(j:Int)+1<n:=by omega
  have hj4:(j:Int)<n:=by omega
  have hj5:(j:Int)+1 - 1=j:=by omega
  have lan:j<n:=by omega
  have lbn:j+1<n:=by omega
  simp (disch:=omega) [hj1,hj2,hj3,hj4,hj5,lan,lbn,A0,A6,hl,e1,e2,A4]
  refine ⟨by omega,qDo hcc ?_⟩
  by_cases h:cmp vb va<0
  ·rw [if_pos (by simpa using h)] at hR
   have ih:=ih hR
   rw [hs] at ih
   simp (disch:=omega) [h,hj1,hj2,hj3,hj4,hj5,lan,lbn,A0,A6,hl,e1,e2,A4]
   refine ⟨by omega,?_⟩
   rw [hK]
   exact_mod_cast ih
  ·rw [if_neg (by simpa using h)] at hR
   subst hR
   simp (disch:=omega) [h]
   exact_mod_cast h0 (j+1)
theorem qDp {Q:AX→St→Prop} (ty n:Nat) (cap:Option Nat) (hn:n≤1000000000) (f:FuncId) (cs:List T) (cmp:Int→Int→Int) (R:List Int)
  (h0:∀ i:Int,Q (.exit 0) ⟨[(0,.ls 1000000 0 n cap),(1,.t (tI 0)),(2,.t (tI n)),(3,.t (.fn f cs)),(8,.t (tI i)),(14,.t (tB false))],[(1000000,.sl ty 1 (Av R))]⟩) :
  ∀ (k i:Nat) (l:List Int),1≤i→i+k=max 1 n→l.length=n→(∀ x ∈ l,∀ y ∈ l,A3 Tryz.prog Γ f (tI x::tI y::cs) (tI (cmp x y)))→q3V (fun a b=>decide (cmp a b<0)) k i l=R →
  run Tryz.prog Γ C4 Q ⟨[(0,.ls 1000000 0 n cap),(1,.t (tI 0)),(2,.t (tI n)),(3,.t (.fn f cs)),(8,.t (tI i))],[(1000000,.sl ty 1 (Av l))]⟩
 | 0,i,l,h1,h,hl,hc,hR=>by
  refine Ey fun K hK=>?_
  simp only [q3V] at hR
  subst hR
  have h2:¬ (i:Int)<n:=by omega
  have h2':¬ i<n:=by omega
  simp [h2,h2']
  exact h0 _
 | k+1,i,l,h1,h,hl,hc,hR=>by
  refine Ey fun K hK=>?_
  simp only [q3V] at hR
  have h2:(i:Int)<n:=by omega
  have h2':i<n:=by omega
  have hperm:=q4T (lt:=fun a b=>decide (cmp a b<0)) (j:=i) (l:=l) (by omega)
  have ih:=qDp ty n cap hn f cs cmp R h0 k (i+1) (qAJ (fun a b=>decide (cmp a b<0)) i l) (by omega) (by omega) (by rw [hperm.length_eq]; exact hl) (fun x hx y hy=>hc x (hperm.mem_iff.1 hx) y (hperm.mem_iff.1 hy)) hR
  have hlp:=fun Q h0=>qBt (Γ:=Γ) (Q:=Q) ty n cap hn f cs cmp i h2' _ h0 i l (Nat.le_refl _) hl hc rfl
  simp (disch:=omega) [h2,h2',A4]
  refine hlp _ fun j=>?_
  simp (disch:=omega) [A4]
  rw [hK]
  exact_mod_cast ih
theorem qDq (ty n:Nat) (cap:Option Nat) (hn:n≤1000000000) (f:FuncId) (cs:List T) (cmp:Int→Int→Int) (l:List Int) (hl:l.length=n) (hc:∀ x ∈ l,∀ y ∈ l,A3 Tryz.prog Γ f (tI x::tI y::cs) (tI (cmp x y))) :
  F6 Tryz.prog Γ 253 [(1000000,.sl ty 1 (Av l))] [.ls 1000000 0 n cap,.t (tI 0),.t (tI n),.t (.fn f cs)] (.t (.tup [])) [(1000000,.sl ty 1 (Av (q3V (fun a b=>decide (cmp a b<0)) (n - 1) 1 l)))]:=by
 refine Gy O3 rfl ?_
 have hlp:=fun Q h0=>qDp (Γ:=Γ) (Q:=Q) ty n cap hn f cs cmp _ h0 (n - 1) 1 l (by omega) (by omega) hl hc rfl
 simp (disch:=omega) [Gg,A4]
 refine hlp _ fun i=>?_
 simp [Gi]
theorem qBu {lt:Int→Int→Bool}:∀ {f i:Nat} {l:List Int},i+f≤l.length∨f=0→(q3V lt f i l).Perm l
 | 0,i,l,_=>List.Perm.refl l
 | f+1,i,l,h=>by
  simp only [q3V]
  have hp:=q4T (lt:=lt) (j:=i) (l:=l) (by omega)
  exact (qBu (by rw [hp.length_eq]; omega)).trans hp
theorem qDr {lt:Int→Int→Bool} {l:List Int} {n:Nat} (h:l.length=n):(q3V lt (n - 1) 1 l).length=l.length:=(qBu (by omega)).length_eq
theorem qIg (ty n:Nat) (cap:Option Nat) (hn:n≤19) (f:FuncId) (cs:List T) (cmp:Int→Int→Int) (l:List Int) (hl:l.length=n) (hc:∀ x ∈ l,∀ y ∈ l,A3 Tryz.prog Γ f (tI x::tI y::cs) (tI (cmp x y))) :
  F6 Tryz.prog Γ 211 [(1000000,.sl ty 1 (Av l))] [.ls 1000000 0 n cap,.t (tI n),.t (.fn f cs)] (.t (.tup [])) [(1000000,.sl ty 1 (Av (q3V (fun a b=>decide (cmp a b<0)) (n - 1) 1 l)))]:=by
 refine Gy Vv rfl ?_
 have hi:=qDq (Γ:=Γ) ty n cap (by omega) f cs cmp l hl hc
 simp (disch:=omega) [Jx,A4]
 have hR:=qDr (lt:=fun a b=>decide (cmp a b<0)) hl
 generalize q3V (fun a b=>decide (cmp a b<0)) (n - 1) 1 l=R at *
 refine Rk fun K hK=>?_
 have h1:¬ (20:Int)≤n:=by omega
 have h2:¬ 20≤n:=by omega
 have h3:¬ (20:Int)<n:=by omega
 have h4:¬ 20<n:=by omega
 simp [h1,h2]
 refine ⟨_,_,hi,?_⟩
 simp [A0,hR]
 refine Rl fun K hK=>?_
 simp [h3,h4,Jy]
theorem qMK (ty n:Nat) (cap:Option Nat) (hn:n≤19) (f:FuncId) (cs:List T) (cmp:Int→Int→Int) (l:List Int) (hl:l.length=n) (hc:∀ x ∈ l,∀ y ∈ l,A3 Tryz.prog Γ f (tI x::tI y::cs) (tI (cmp x y))) :
  F6 Tryz.prog Γ 150 [(1000000,.sl ty 1 (Av l))] [.ls 1000000 0 n cap,.t (.fn f cs)] (.t (.tup [])) [(1000000,.sl ty 1 (Av (q3V (fun a b=>decide (cmp a b<0)) (n - 1) 1 l)))]:=by
 refine Gy V5 rfl ?_
 have hi:=qIg (Γ:=Γ) ty n cap hn f cs cmp l hl hc
 have hR:=qDr (lt:=fun a b=>decide (cmp a b<0)) hl
 generalize q3V (fun a b=>decide (cmp a b<0)) (n - 1) 1 l=R at *
 simp (disch:=omega) [Jg,A4]
 refine ⟨_,_,hi,?_⟩
 simp [Jh,A0,hR]
theorem qDs (n:Int):A3 Tryz.prog Γ 212 [tI n] (tB false):=by
 refine A7 q7A rfl ?_
 simp [q1M,q1N,Au]
def qFA (a b:Int):Int:=if a<b then -1 else if b<a then 1 else 0
theorem qIh (a b:Int):A3 Tryz.prog Γ 152 [tI a,tI b] (tI (qFA a b)):=by
 refine A7 q4i rfl ?_
 simp [Yq]
 refine A1 (qDs a) rfl ?_
 simp
 refine A1 (qDs b) rfl ?_
 by_cases h:a<b
 ·simp [h,Ou,Au,qFA]
 ·by_cases h1:b<a <;> simp [h,h1,Ou,Au,qFA]
def qKJ (c:B0):T:=.sl (Av (Oq c).2.out) none none
theorem qDt (c:B0) (h:Eh c=0) (a b:Int) (ha:0≤a∧a<c.nodes.l.length) (hb:0≤b∧b<c.nodes.l.length):A3 Tryz.prog Γ 151 [tI a,tI b,.ip [qKJ c] 0] (tI (qFA (O0 c a.toNat) (O0 c b.toNat))):=by
 refine A7 q3g rfl ?_
 have hl:=(qF9 h).1
 have e1:=ge1 (f:=tI) (l:=(Oq c).2.out) (i:=a.toNat) (by omega)
 have e2:=ge1 (f:=tI) (l:=(Oq c).2.out) (i:=b.toNat) (by omega)
 unfold O0 qKJ
 generalize (Oq c).2.out.getD a.toNat 0=va at *
 generalize (Oq c).2.out.getD b.toNat 0=vb at *
 simp (disch:=omega) [W9,A0,A6,hl,e1,e2,ha,hb]
 refine A1 (qIh _ _) rfl ?_
 simp [Wa,Au]
theorem qAN {Q:AX→St→Prop} (n:Nat) (hn:n≤1000000000) (a4:T)
  (h0:Q (.exit 0) ⟨[(4,.t a4),(6,.ls 19 0 n none),(21,.t (tI n)),(22,.t (tI n)),(23,.t (tB false))],[(19,.sl 3 1 (Av (rng n)))]⟩):∀ (k i:Nat),k+i=n →
  run Tryz.prog Γ Jz Q ⟨[(4,.t a4),(6,.ls 19 0 n none),(21,.t (tI n)),(22,.t (tI i))],[(19,.sl 3 1 (Av (rng i++List.replicate (n - i) 0)))]⟩
 | 0,i,h=>by
  refine Ry fun K hK=>?_
  have h2:i=n:=by omega
  subst h2
  simp
  simpa using h0
 | k+1,i,h=>by
  refine Ry fun K hK=>?_
  have ih:=qAN n hn a4 h0 k (i+1) (by omega)
  have h2:i<n:=by omega
  have hs:(Av (rng i++List.replicate (n - i) 0)).set i [tI i]=Av (rng (i+1)++List.replicate (n - (i+1)) 0):=by
   show (Ac tI _).set i [tI i]=Ac tI _
   rw [Jb]
   congr 1
   have e:n - i=(n - (i+1))+1:=by omega
   rw [e,List.replicate_succ,List.set_append,if_neg (by rw [Ue]; omega),Ue,Nat.sub_self]
   simp [rng,List.range_succ]
  have hlen:(Av (rng i++List.replicate (n - i) 0)).length=n:=by rw [A0]; simp [Ue]; omega
  generalize Av (rng i++List.replicate (n - i) 0)=E at *
  simp (disch:=omega) [h2,hlen,hs,A4]
  rw [hK]
  exact_mod_cast ih
theorem qFB (hΓ:GOk Γ) (c:B0) (hc:COk c) (hn:c.nodes.l.length≤19) :
  A3 Tryz.prog Γ 85 [.agg (tC c)] (.tup [if Eh c=0 then .sl (Av (Vu c)) none none else .sl [] (some 0) (some true),tI (Eh c)]):=by
 refine A7 q61 rfl ?_
 have e1:=q8b hΓ c hc.toCirOk hc.asc
 simp [q08,tC,A5,A8,Ad,B6]
 refine A1 e1 rfl ?_
 by_cases h:Eh c=0
 case neg=>simp [h,Qp,St.freeze,B9.closed,Bl,frz1,frz0,Du,del,Ai]
 have hlp:=fun Q h0=>qAN (Γ:=Γ) (Q:=Q) c.nodes.l.length (by omega) (.ip [qKJ c] 0) h0 c.nodes.l.length 0 (by omega)
 have hz:List.replicate c.nodes.l.length [T.v (Value.int .i64 0)]=Av (rng 0++List.replicate (c.nodes.l.length - 0) 0):=by simp [Ac,rng]
 have hsort:=qMK (Γ:=Γ) 3 c.nodes.l.length none hn 151 [.ip [qKJ c] 0] (fun a b=>qFA (O0 c a.toNat) (O0 c b.toNat)) (rng c.nodes.l.length) Ue (fun x hx y hy=>qDt c h x y (q9R.1 hx) (q9R.1 hy))
 have hlt:(fun a b=>decide (qFA (O0 c a.toNat) (O0 c b.toNat)<0))=qGD c:=by
  funext a b
  simp only [qGD,qFA]
  by_cases h1:O0 c a.toNat<O0 c b.toNat
  ·simp [h1]
  ·by_cases h2:O0 c b.toNat<O0 c a.toNat <;> simp [h1,h2]
 rw [hlt] at hsort
 have ho:q3V (qGD c) (c.nodes.l.length - 1) 1 (rng c.nodes.l.length)=Vu c:=rfl
 rw [ho] at hsort
 have holen:(Vu c).length=c.nodes.l.length:=by rw [(q1H c).1.length_eq,Ue]
 simp [h,Aa,A4,St.freeze,B9.closed,Bl,frz1,frz0,Du,del,Ai]
 refine ⟨by omega,?_⟩
 rw [hz]
 refine hlp _ ?_
 simp
 refine ⟨_,_,hsort,?_⟩
 have htk:(Av (Vu c)).take c.nodes.l.length=Av (Vu c):=List.take_of_length_le (by rw [A0,holen]; exact Nat.le_refl _)
 simp [A0,Ue,holen,Qp,Ai,htk,h]
end Go.Lg
namespace Go.Lg
open Go
section
variable {P:Program} {Γ:Tables} {Q:AX→St→Prop} {s:St}
/- probecard/sims.fits (function 105) -/
abbrev q29:IC:=(.seq (.reg [od 2 (.box true (tm 0)),od 3 (.box true (tm 1)),od 4 (.mv (ki 0))] [kp [2,3] []]) (.seq (.block 0 (.seq (.reg [od 6 (fa 2 2),od 7 (ld 1 6),od 8 (le 0 7),od 9 (.bin .gtr (tm 8) (ki 0)),om 10 9,oF 11 (lG 4 2) 10,
 oF 12 (.bsl true 43 1 [(ku 15)]) 10,oF 13 (.call 74 [(tm 11),(tm 12)]) 10,oF 14 (le 0 13) 10,oF 15 (.bin .gtr (tm 14) (ki 0)) 10,od 16 (.pick (tm 10) kT (tm 15)),om 5 16] [kp [2,3,5] []]) (.cond (tm 5) (.seq (.reg [od 4
 (.mv (ki 7))] [kp [4] []]) .ret) (.seq (.reg [od 18 (fa 0 3),od 19 (ld 1 18),od 20 (le 0 19),od 21 (lG 4 2),od 22 (.call 56 [(tm 21)]),od 23 (le 0 22),od 24 (.bin .neq (tm 20) (tm 23)),om 25 24,oF 26 (fa 1 3) 25,oF 27 (ld
 1 26) 25,oF 28 (le 0 27) 25,oF 29 (lG 4 2) 25,oF 30 (.call 18 [(tm 29)]) 25,oF 31 (le 0 30) 25,oF 32 (.bin .neq (tm 28) (tm 31)) 25,od 33 (.pick (tm 25) kT (tm 32)),om 17 33] [kp [3,17] []]) (.cond (tm 17) (.seq (.reg [od 4
 (.mv (ki 8))] [kp [4] []]) .ret) (.seq (.reg [od 35 (fa 0 3),od 36 (ld 1 35),od 37 (.call 101 [(tm 36),(.func 173)]),om 38 37,oF 39 (fa 1 3) 38,oF 40 (ld 1 39) 38,oF 41 (.call 101 [(tm 40),(.func 173)]) 38,od 42 (.pick (tm
 38) kT (tm 41)),om 34 42] [kp [34] []]) (.cond (tm 34) (.seq (.reg [od 4 (.mv (ki 1))] [kp [4] []]) .ret) .skip))))))) (.seq (.reg [od 4 (.mv (ki 0))] [kp [4] []]) .ret)))
def H9:List RV:=[.tmp 4]
/- probecard/sims.above (function 173) -/
abbrev q59:IC:=(.seq (.reg [od 2 (.mv kF)] [kp [0] []]) (.seq (.reg [om 3 0,od 4 (.bin .gtr (tm 3) (ku 3)),om 2 4] [kp [2] []]) .ret))
def q5A:List RV:=[.tmp 2]
/- (probecard/sims.run).load (function 106) -/
abbrev K1:IC:=(.seq (.reg [od 2 (.box true (tm 0)),od 4 (.mv (ku 0))] [kp [1,2] []]) (.seq (.seq (.reg [om 5 1,od 6 (.bin .lss (tm 5) (ki 0)),om 7 6,oF 8 (.mv (tm 1)) 7,oF 9 (fa 4 2) 7,oF 10 (ld 1 9) 7,oF 11 (le 0 10) 7,oF 12 (.bin .geq
 (tm 8) (tm 11)) 7,od 13 (.pick (tm 7) kT (tm 12))] [kp [1,2,13] []]) (.cond (tm 13) (.seq (.reg [od 4 (.mv (ku 2))] [kp [4] []]) .ret) .skip)) (.seq (.reg [od 14 (fa 4 2),od 15 (ld 1 14),om 16 1,od 17 (ia 1 15 16),od 18 (ld
 1 17),od 19 (.call 140 [(tm 18)]),om 4 19] [kp [4] []]) .ret)))
def K2:List RV:=[.tmp 4]
/- (probecard/sims.run).observe (function 107) -/
abbrev Wb:IC:=.gh (.seq (.reg [od 15 (.bin .lss (tm 14) (tm 13))] [kp [1,2,3,12,13,14,15] [2,3,24,55]]) (.seq (.cond (tm 15) .skip (.exit 0)) (.seq (.block 1 (.seq (.reg [od 16 (ia 1 12 14),od 17 (ld 1 16),om 5 17] [kp [1,2,3,5,
 12,13,14] [2,3,24,55]]) (.reg [od 18 (fa 0 3),od 19 (.ldR 3 1 false (tm 18)),od 20 (.ldT 5 true (tm 1)),om 21 5,od 22 (.call 174 [(tm 20),(tm 21)]),od 23 (.bsl true 71 1 [(tm 22)]),od 24 (.app false 71 1 (tm 19) (tm
 23)),od 25 (fa 0 3),on (.stR 3 1 (tm 25) (tm 24))] [kp [1,2,3,12,13,14] [2,3,24,55]]))) (.reg [od 26 (.bin .add (tm 14) (ki 1)),om 14 26] [kp [1,2,3,12,13,14] [2,3,24,55]])))) [kp [1,2,3,12,13,14] [2,3,24,
 55]]
def Hq:IC:=.loop Wb
abbrev Wc:IC:=.gh (.seq (.reg [od 32 (.bin .lss (tm 31) (tm 30))] [kp [1,2,3,29,30,31,32] [2,3,24,55]]) (.seq (.cond (tm 32) .skip (.exit 2)) (.seq (.block 3 (.seq (.reg [od 33 (ia 1 29 31),od 34 (ld 1 33),om 7 34] [kp [1,2,3,7,
 29,30,31] [2,3,24,55]]) (.seq (.reg [od 8 (.mv (ku 2))] [kp [1,2,3,7,8,29,30,31] [2,3,24,55]]) (.seq (.seq (.reg [od 35 (fa 0 1),od 36 (fa 0 35),od 37 (ld 1 36),om 38 7,od 39 (ia 4 37 38),od 40 (fa 1 39),od 41
 (ld 1 40),om 9 41] [kp [1,2,3,8,9,29,30,31] [2,3,24,55]]) (.seq (.reg [om 42 9,od 43 (le 0 42),od 44 (.bin .eql (tm 43) (ki 1))] [kp [1,2,3,8,9,29,30,31,44] [2,3,24,55]]) (.cond (tm 44) (.reg [od 45 (lG 5
 1),om 46 9,od 47 (.iadr 1 (tm 46) (ki 0)),od 48 (ld 1 47),od 49 (.call 174 [(tm 45),(tm 48)]),od 50 (.call 154 [(tm 49)]),om 8 50] [kp [1,2,3,8,29,30,31] [2,3,24,55]]) .skip))) (.reg [od 51 (fa 1 3),od 52 (ld 1
 51),om 53 8,od 54 (.bsl true 71 1 [(tm 53)]),od 55 (.app false 71 1 (tm 52) (tm 54)),od 56 (fa 1 3),on (.store 1 (tm 56) (tm 55))] [kp [1,2,3,29,30,31] [2,3,24,55]]))))) (.reg [od 57 (.bin .add (tm 31) (ki 1)),om 31
 57] [kp [1,2,3,29,30,31] [2,3,24,55]])))) [kp [1,2,3,29,30,31] [2,3,24,55]]
def Hr:IC:=.loop Wc
abbrev We:IC:=(.seq (.reg [od 1 (.box true (tm 0)),od 2 (.alloc false [(.slice none 0 0),(.slice none 0 0)])] [kp [1,2] [2,24,55]]) (.seq (.reg [od 3 (.alloc false [(.slice none 0 0),(.slice none 0 0)])] [.nlb 3 0 24 71 1,.nlb 3 1 55 71
 1,kp [1,2,3] [2,3,24,55]]) (.seq (.seq (.reg [od 10 (fa 0 1),od 11 (fa 3 10),od 12 (ld 1 11),od 13 (le 0 12),od 14 (.mv (ki 0))] [kp [1,2,3,12,13,14] [2,3,24,55]]) (.block 0 Hq)) (.seq (.seq (.reg
 [od 27 (fa 0 1),od 28 (lG 4 27),od 29 (.call 18 [(tm 28)]),od 30 (le 0 29),od 31 (.mv (ki 0))] [kp [1,2,3,29,30,31] [2,3,24,55]]) (.block 2 Hr)) (.seq (.reg [od 58 (fa 0 3),od 59 (.ldR 3 1 false (tm
 58)),od 60 (.rcall 89 [(tm 59)] [24]),od 61 (fa 1 3),od 62 (.ldR 3 1 false (tm 61)),od 63 (.rcall 89 [(tm 62)] [55]),od 64 (.build [(1,(tm 60)),(1,(tm 63))]),on (.stR 2 2 (tm 2) (tm 64))] [kp [2] [2,24,55]]) .ret)))))
theorem Px (h:∀ K:St→Prop,K=run P Γ Hq Q→run P Γ Wb (Am K Q) s):run P Γ Hq Q s:=Ae h
theorem Py (h:∀ K:St→Prop,K=run P Γ Hr Q→run P Γ Wc (Am K Q) s):run P Γ Hr Q s:=Ae h
def Wg:List RV:=[.cell 2 2 true]
/- probecard/sims.Observe (function 88) -/
abbrev q2U:IC:=(.seq (.reg [od 2 (.box true (tm 0)),od 4 (.alloc false [(.slice none 0 0),(.slice none 0 0)])] [kp [1,2,4] [4]]) (.seq (.reg [od 5 (lG 4 2),om 6 1,od 7 (.build [(4,(tm 5)),(1,(tm 6))]),od 8 (.call 107 [(tm 7)]),on
 (.store 2 (tm 4) (tm 8))] [kp [4] [4]]) .ret))
def q2V:List RV:=[.cell 4 2 true]
/- probecard/netlists.Inputs (function 56) -/
abbrev Yr:IC:=(.seq (.reg [od 1 (.box true (tm 0)),od 2 (.mv kN)] [kp [1] []]) (.seq (.reg [od 3 (lG 4 1),od 4 (.bsl true 43 1 [(ku 0)]),od 5 (.call 74 [(tm 3),(tm 4)]),om 2 5] [kp [2] []]) .ret))
def Ys:List RV:=[.tmp 2]
/- slices.Clip[[]probecard/api.Value,probecard/api.Value] (function 89) -/
abbrev Hg:IC:=(.seq (.reg [od 2 (.mv kN)] [kp [0] [1000000]]) (.seq (.reg [om 3 0,om 4 0,od 5 (le 0 4),om 6 0,od 7 (le 0 6),od 8 (.slice 1 (tm 3) none (some (tm 5)) (some (tm 7))),om 2 8] [kp [2] [1000000]]) .ret))
def Hh:List RV:=[.tmp 2]
end
end Go.Lg
namespace Go.Lg
open Go Go.Proofs
theorem qBF:Ao Tryz.prog 105 q29 43 2 H9=true:=by kernel_rfl
theorem qAO:Ao Tryz.prog 173 q59 5 1 q5A=true:=by kernel_rfl
theorem q62:Ao Tryz.prog 174 K1 20 2 K2=true:=by kernel_rfl
theorem q3h:Ao Tryz.prog 107 We 65 1 Wg=true:=by kernel_rfl
theorem q86:Ao Tryz.prog 88 q2U 9 2 q2V=true:=by kernel_rfl
theorem q4j:Ao Tryz.prog 56 Yr 6 1 Ys=true:=by kernel_rfl
theorem N8:Ao Tryz.prog 89 Hg 9 1 Hh=true:=by kernel_rfl
end Go.Lg
namespace Go.Lg
open Go Go.Proofs
variable {Γ:Tables}
theorem V6 (c:B0) (hc:COk c):Ab Tryz.prog Γ 56 [.agg (tC c)] (.sl (Av (Bg c)) (some (Bg c).length) none):=by
 refine Aq q4j rfl ?_
 simp [Yr,tC,A5,A8,Ad,B6]
 refine A1 (qCY c hc 0) rfl ?_
 simp [Ys,Bg]
theorem qAP (es:List (List T)) (cap:Option Nat) (nl:Option Bool) (hw:Cm 1 es):Ab Tryz.prog Γ 89 [.sl es cap nl] (.sl es (some es.length) nl):=by
 refine Aq N8 rfl ?_
 simp [Hg,Hh,ret,hw]
def q0r (v:Int):Bool:=decide (3<v)
theorem qAQ (v:Int):A3 Tryz.prog Γ 173 [tK v] (tB (q0r v)):=by
 refine A7 qAO rfl ?_
 simp [q59,q5A,Au,q0r]
structure Pat where
 inn:Sl Int
 st:Sl Int
def tP (p:Pat):List T:=[tV p.inn,tV p.st]
theorem Ov (c:B0):(Bg c).length≤c.nodes.l.length:=Xe _ _ _
theorem Di (c:B0):(Af c).length≤c.nodes.l.length:=Xe _ _ _
def q7B (c:B0) (p:Pat):Int :=
 if 0<c.mems.l.length∨0<(mems c).length then 7 else
 if p.inn.l.length ≠ (Bg c).length∨p.st.l.length ≠ (Af c).length then 8 else
 if p.inn.l.any q0r=true∨p.st.l.any q0r=true then 1 else 0
theorem qHL (c:B0) (hc:COk c) (p:Pat) (hp:p.inn.l.length≤1000000000∧p.st.l.length≤1000000000):A3 Tryz.prog Γ 105 [.agg (tC c),.agg (tP p)] (tI (q7B c p)):=by
 refine A7 qBF rfl ?_
 have e1:=qCY (Γ:=Γ) c hc 15
 have e2:=V6 (Γ:=Γ) c hc
 have e3:=Et (Γ:=Γ) c hc
 have e4:=E0 (Γ:=Γ) p.inn.l p.inn.cap p.inn.nl 173 [] q0r (fun x _=>qAQ x) hp.1
 have e5:=E0 (Γ:=Γ) p.st.l p.st.cap p.st.nl 173 [] q0r (fun x _=>qAQ x) hp.2
 have hm:Ky [15] c.nodes.l 0=mems c:=rfl
 rw [hm] at e1
 generalize hR:q7B c p=R
 unfold q7B at hR
 by_cases h1:0<c.mems.l.length
 ·rw [if_pos (.inl h1)] at hR
  subst hR
  have h1':¬ c.mems.l=[]:=fun e=>by rw [e] at h1; simp at h1
  simp [q29,tC,A5,A8,Ad,B6,tP,tV,Aa,h1,h1',H9,Au]
 have h1':c.mems.l=[]:=List.eq_nil_of_length_eq_zero (by omega)
 simp [q29,tC,A5,A8,Ad,B6,tP,tV,Aa,h1,h1']
 refine A1 e1 (by simp [Ai,Ah,Ac,tC,A5,A8,Ad,B6,h1']) ?_
 by_cases h2:0<(mems c).length
 ·rw [if_pos (.inr h2)] at hR
  subst hR
  have h2':¬ mems c=[]:=fun e=>by rw [e] at h2; simp at h2
  simp [A0,h2,h2',H9,Au]
 rw [if_neg (by omega)] at hR
 have h2':mems c=[]:=List.eq_nil_of_length_eq_zero (by omega)
 simp [A0,h2']
 have tt:∀ {x:T},x=T.agg (tC c)→Ah [some x]=some [T.agg (tC c)]:=fun h=>by rw [h]; rfl
 have tc:T.agg (tC c)=T.agg [T.sl (Ar Dn c.nodes.l) c.nodes.cap c.nodes.nl,T.sl (Ac tS c.names.l) c.names.cap c.names.nl,T.sl (Ar tMm []) c.mems.cap c.mems.nl,T.sl (Av c.outs.l) c.outs.cap c.outs.nl]:=by rw [← h1']; rfl
 refine A9 e2 (by rw [tc]; rfl) ?_
 simp [A0]
 by_cases h3:p.inn.l.length=(Bg c).length
 case neg =>
  have h3':¬ (p.inn.l.length:Int)=(Bg c).length:=by omega
  rw [if_pos (.inl h3)] at hR
  subst hR
  simp [h3,h3',H9,Au,Bj]
 simp [h3]
 refine A9 e3 (by rw [tc]; rfl) ?_
 simp [A0]
 by_cases h4:p.st.l.length=(Af c).length
 case neg =>
  have h4':¬ (p.st.l.length:Int)=(Af c).length:=by omega
  rw [if_pos (.inr h4)] at hR
  subst hR
  simp [h4,h4',H9,Au,Bj]
 rw [if_neg (by omega)] at hR
 simp [h4,Bj]
 refine A1 e4 rfl ?_
 by_cases h5:p.inn.l.any q0r=true
 ·rw [if_pos (.inl h5)] at hR
  subst hR
  simp only [h5]
  simp [H9,Au]
 simp only [Bool.not_eq_true] at h5
 simp only [h5]
 simp
 refine A1 e5 rfl ?_
 by_cases h6:p.st.l.any q0r=true
 ·rw [if_pos (.inr h6)] at hR
  subst hR
  simp only [h6]
  simp [H9,Au]
 rw [if_neg (by simp only [h5]; simp only [Bool.not_eq_true] at h6; simp [h6])] at hR
 subst hR
 simp only [Bool.not_eq_true] at h6
 simp only [h6]
 simp [H9,Au]
def Zk (c:B0) (id n:Nat) (cap:Option Nat):List AV:=[.t (A5 c.nodes),.t (A8 c.names),.t (Ad c.mems),.t (B6 c.outs),.ls id 0 n cap]
theorem qAR {ns vs l:List Int} {i:Nat} (h:i<ns.length) (hv:i<vs.length):G2 (ns.drop i) (vs.drop i) l=G2 (ns.drop (i+1)) (vs.drop (i+1)) (l.set (ns.getD i 0).toNat (vs.getD i 0)):=by
 rw [List.drop_eq_getElem_cons h,List.drop_eq_getElem_cons hv]
 simp only [G2]
 rw [Bv h,Bv hv]
@[simp] theorem qO8 {s:Nat} {e:List T}:Cm s [e]=(e.length=s):=propext ⟨fun h=>h e List.mem_cons_self,fun h x hx=>by simp at hx; subst hx; exact h⟩
def Nq (c:B0) (nets:Sl Int):List T:=[A5 c.nodes,A8 c.names,Ad c.mems,B6 c.outs,tV nets]
def Tv (nets:List Int) (n:Int):Int:=if n<0∨(nets.length:Int)≤n then 2 else Dw (nets.getD n.toNat 0)
theorem qAS (c:B0) (nets:Sl Int) (n:Int) (hl:nets.l.length≤1000000000):A3 Tryz.prog Γ 174 [.agg (Nq c nets),tI n] (tK (Tv nets.l n)):=by
 refine A7 q62 rfl ?_
 generalize hR:Tv nets.l n=R
 unfold Tv at hR
 by_cases h1:n<0
 ·rw [if_pos (.inl h1)] at hR
  subst hR
  simp [K1,Nq,A5,A8,Ad,B6,tV,h1,K2,Au]
 by_cases h2:(nets.l.length:Int)≤n
 ·rw [if_pos (.inr h2)] at hR
  subst hR
  simp [K1,Nq,A5,A8,Ad,B6,tV,h1,h2,A0,K2,Au]
 rw [if_neg (by omega)] at hR
 have h3:n.toNat<nets.l.length:=by omega
 have e:=ge1 (f:=tK) h3
 generalize nets.l.getD n.toNat 0=v at *
 have h4:n<nets.l.length:=by omega
 simp (disch:=omega) [K1,Nq,A5,A8,Ad,B6,tV,h1,h2,h4,A0,A6,e]
 refine ⟨by omega,A1 (Yo v) rfl ?_⟩
 simp [K2,Au,hR]
def q2W (c:B0) (nets:List Int) (n:Int):Int:=if (I5 c n.toNat).length=1 then E8 (Tv nets ((I5 c n.toNat).getD 0 0)) else 2
def q1O (c:B0) (nets:List Int):List Int:=c.outs.l.map (Tv nets)
def Df (c:B0) (nets:List Int):List Int:=(Af c).map (q2W c nets)
def q87 (o s:Nat):List AV:=[.ls 24 0 o none,.ls 55 0 s none]
def q4k (o s:List Int):List (Nat × B9):=[(2,.bx [.t (.sl [] (some 0) (some true)),.t (.sl [] (some 0) (some true))]),(3,.bx (q87 o.length s.length)),(24,.sl 71 1 (Ap o)),(55,.sl 71 1 (Ap s))]
theorem Pz {l:List Int} {v:Int}:Ap l++[[tK v]]=Ap (l++[v]):=Be
theorem Cj {l:List Int}:(Ap l).take l.length=Ap l:=Ag
theorem qDu {Q:AX→St→Prop} (c:B0) (nets:Sl Int) (hl:nets.l.length≤1000000000) (ho:c.outs.l.length≤1000000000) (R:List Int)
  (h0:Q (.exit 0) ⟨[(1,.t (.ip (Nq c nets) 0)),(2,.lp 2 0 0),(3,.lp 3 0 0),(12,.t (B6 c.outs)),(13,.t (tI c.outs.l.length)),(14,.t (tI c.outs.l.length)),(15,.t (tB false))],q4k R []⟩) :
  ∀ (k i:Nat) (out:List Int),k+i=c.outs.l.length→out.length=i→out++(c.outs.l.drop i).map (Tv nets.l)=R →
  run Tryz.prog Γ Hq Q ⟨[(1,.t (.ip (Nq c nets) 0)),(2,.lp 2 0 0),(3,.lp 3 0 0),(12,.t (B6 c.outs)),(13,.t (tI c.outs.l.length)),(14,.t (tI i))],q4k out []⟩
 | 0,i,out,h,hi,hR=>by
  refine Px fun K hK=>?_
  have h2:i=c.outs.l.length:=by omega
  rw [List.drop_of_length_le (by omega),List.map_nil,List.append_nil] at hR
  subst hR
  simp [q4k,q87,h2]
  simpa [q4k,q87] using h0
 | k+1,i,out,h,hi,hR=>by
  refine Px fun K hK=>?_
  have h2:i<c.outs.l.length:=by omega
  rw [List.drop_eq_getElem_cons h2,List.map_cons] at hR
  have e:=ge1 (f:=tI) h2
  rw [Bv h2] at e
  generalize c.outs.l[i]=n at *
  have ih:=qDu c nets hl ho R h0 k (i+1) (out++[Tv nets.l n]) (by omega) (by simp [hi]) (by rw [← hR]; simp)
  have vs:=Pz (l:=out) (v:=Tv nets.l n)
  have vt:(Ap out).take i=Ap out:=by rw [← hi]; exact Cj
  have hv:=qAS (Γ:=Γ) c nets n hl
  simp (disch:=omega) [q4k,q87,h2,B6,A0,A6,e,hi,A4,Nq,A5,A8,Ad,tV]
  refine A1 hv rfl ?_
  simp (disch:=omega) [vt,vs,A0,A6,hi,A4]
  refine ⟨by omega,?_⟩
  rw [hK]
  simpa [q4k,q87,hi,Nq,A5,A8,Ad,B6,tV] using ih
theorem qBv {Q:AX→St→Prop} (c:B0) (hc:COk c) (nets:Sl Int) (hl:nets.l.length≤1000000000) (ns:List Int) (hns:ns.length≤1000000000) (hin:∀ n ∈ ns,0≤n∧n<c.nodes.l.length) (o R:List Int)
  (h0:Q (.exit 2) ⟨[(1,.t (.ip (Nq c nets) 0)),(2,.lp 2 0 0),(3,.lp 3 0 0),(29,.t (.sl (Av ns) (some ns.length) none)),(30,.t (tI ns.length)),(31,.t (tI ns.length)),(32,.t (tB false))],q4k o R⟩) :
  ∀ (k i:Nat) (out:List Int),k+i=ns.length→out.length=i→out++(ns.drop i).map (q2W c nets.l)=R →
  run Tryz.prog Γ Hr Q ⟨[(1,.t (.ip (Nq c nets) 0)),(2,.lp 2 0 0),(3,.lp 3 0 0),(29,.t (.sl (Av ns) (some ns.length) none)),(30,.t (tI ns.length)),(31,.t (tI i))],q4k o out⟩
 | 0,i,out,h,hi,hR=>by
  refine Py fun K hK=>?_
  have h2:i=ns.length:=by omega
  rw [List.drop_of_length_le (by omega),List.map_nil,List.append_nil] at hR
  subst hR
  simp [q4k,q87,h2]
  simpa [q4k,q87] using h0
 | k+1,i,out,h,hi,hR=>by
  refine Py fun K hK=>?_
  have h2:i<ns.length:=by omega
  rw [List.drop_eq_getElem_cons h2,List.map_cons] at hR
  have e:=ge1 (f:=tI) h2
  have hn:=hin ns[i] (List.getElem_mem h2)
  rw [Bv h2] at e
  generalize ns[i]=n at *
  have ih:=qBv c hc nets hl ns hns hin o R h0 k (i+1) (out++[q2W c nets.l n]) (by omega) (by simp [hi]) (by rw [← hR]; simp)
  have vs:=Pz (l:=out) (v:=q2W c nets.l n)
  have vt:(Ap out).take i=Ap out:=by rw [← hi]; exact Cj
  have hnn:n.toNat<c.nodes.l.length:=by omega
  have hget:(Ar Dn c.nodes.l)[n.toNat]?.getD []=Dn (c.nodes.l.getD n.toNat Nd.d):=by
   rw [E5 Nd.d hnn]; simp [List.getD_eq_getElem?_getD]
  have hxi:=hc.inn _ (List.getElem_mem hnn)
  have hgd:c.nodes.l.getD n.toNat Nd.d=c.nodes.l[n.toNat]:=by simp [List.getD_eq_getElem?_getD,hnn]
  have hia:I5 c n.toNat=(c.nodes.l.getD n.toNat Nd.d).inn.l:=rfl
  have hnl:q2W c nets.l n=if (I5 c n.toNat).length=1 then E8 (Tv nets.l ((I5 c n.toNat).getD 0 0)) else 2:=rfl
  rw [← hgd] at hxi
  rw [hia] at hnl
  generalize c.nodes.l.getD n.toNat Nd.d=x at *
  generalize q2W c nets.l n=v at *
  obtain ⟨h3,h4⟩:=hn
  by_cases h1:x.inn.l.length=1
  ·rw [if_pos h1] at hnl
   have h10:0<x.inn.l.length:=by omega
   have e0:=ge1 (f:=tI) h10
   have hv:=qAS (Γ:=Γ) c nets (x.inn.l.getD 0 0) hl
   generalize x.inn.l.getD 0 0=m at *
   simp (disch:=omega) [q4k,q87,h2,B6,A0,A6,e,hi,A4,Nq,A5,A8,Ad,tV,h3,h4,Aa,Bf,hget,Dn,h1,e0,h10]
   refine A1 hv rfl ?_
   simp
   refine A1 (Tu _) rfl ?_
   rw [← hnl]
   simp (disch:=omega) [vt,vs,A0,A6,hi,A4]
   refine ⟨by omega,?_⟩
   rw [hK]
   simpa [q4k,q87,hi,Nq,A5,A8,Ad,B6,tV] using ih
  ·rw [if_neg h1] at hnl
   subst hnl
   have h1i:¬ (x.inn.l.length:Int)=1:=by omega
   simp (disch:=omega) [q4k,q87,h2,B6,A0,A6,e,hi,A4,Nq,A5,A8,Ad,tV,h3,h4,Aa,Bf,hget,Dn,h1,h1i,Bj,vt,vs]
   refine ⟨by omega,?_⟩
   rw [hK]
   simpa [q4k,q87,hi,Nq,A5,A8,Ad,B6,tV] using ih
theorem qAT (ty:Nat) (es:List (List T)) (cap:Option Nat) (hw:Cm 1 es):F6 Tryz.prog Γ 89 [(1000000,.sl ty 1 es)] [.ls 1000000 0 es.length cap] (.ls 1000000 0 es.length (some es.length)) [(1000000,.sl ty 1 es)]:=by
 refine Gy N8 rfl ?_
 simp [Hg,Hh,qH2,hw]
def tVs (l:List Int):T:=.sl (Ap l) (some l.length) none
theorem qCe (c:B0) (hc:COk c) (nets:Sl Int) (hl:nets.l.length≤1000000000):A3 Tryz.prog Γ 107 [.agg (Nq c nets)] (.agg [tVs (q1O c nets.l),tVs (Df c nets.l)]):=by
 refine A7 q3h rfl ?_
 have hn:=hc.nodes
 have ho:=hc.outs
 have hs:=Di c
 have g1:=fun Q h0=>qDu (Γ:=Γ) (Q:=Q) c nets hl ho (q1O c nets.l) h0 c.outs.l.length 0 [] (by omega) rfl (by simp [q1O])
 have g2:=fun Q h0=>qBv (Γ:=Γ) (Q:=Q) c hc nets hl (Af c) (by omega) (fun x hx=>⟨(Np x hx).1,(Np x hx).2.1⟩) (q1O c nets.l) (Df c nets.l) h0 (Af c).length 0 [] (by omega) rfl (by simp [Df])
 have l1:(q1O c nets.l).length=c.outs.l.length:=by simp [q1O]
 have l2:(Df c nets.l).length=(Af c).length:=by simp [Df]
 have t1:=Cj (l:=q1O c nets.l)
 have t2:=Cj (l:=Df c nets.l)
 generalize q1O c nets.l=O at *
 generalize Df c nets.l=S at *
 simp [We,Nq,A5,A8,Ad,B6,tV,A0]
 refine g1 _ ?_
 simp [q4k,q87,Nq,A5,A8,Ad,B6,tV]
 refine A9 (Et c hc) rfl ?_
 simp [A0]
 refine g2 _ ?_
 have hc1:=qAT (Γ:=Γ) 71 (Ap O) none A6
 have hc2:=qAT (Γ:=Γ) 71 (Ap S) none A6
 simp only [A0] at hc1 hc2
 simp [q4k,q87]
 refine ⟨_,hc1,?_⟩
 simp
 refine ⟨_,hc2,?_⟩
 simp [Wg,tVs,A0,Au,Ai,t1,t2]
def nd (c:B0) (n:Int):Nd:=c.nodes.l.getD n.toNat Nd.d
theorem qAU {c:B0} {n:Int} (h0:0≤n) (h:n<c.nodes.l.length):(Ar Dn c.nodes.l)[n.toNat]?.getD []=Dn (nd c n):=by
 rw [E5 Nd.d (by omega)]; simp [nd,List.getD_eq_getElem?_getD]
theorem qIi {c:B0} {n:Int} (h0:0≤n) (h:n<c.nodes.l.length):nd c n ∈ c.nodes.l:=by
 have hi:n.toNat<c.nodes.l.length:=by omega
 have:nd c n=c.nodes.l[n.toNat]:=by simp [nd,List.getD_eq_getElem?_getD,hi]
 rw [this]; exact List.getElem_mem hi
def Fg:AV:=.t (.sl [] (some 0) (some true))
structure ROk (c:B0):Prop where
 ok:COk c
 inn:∀ x ∈ c.nodes.l,x.inn.l.length≤16∧∀ k ∈ x.inn.l,0≤k∧k<c.nodes.l.length
theorem qGH {c:B0} {nets:List Int} {n:Int} (h:∀ v ∈ nets,V4 v):∀ v ∈ Uz c nets n,V4 v:=by
 intro v hv
 unfold Uz at hv
 split at hv
 ·rcases List.mem_or_eq_of_mem_set hv with hv | rfl
  ·exact h v hv
  ·refine qKD fun u hu=>?_
   obtain ⟨q,_,rfl⟩:=List.mem_map.1 hu
   exact Tn h _
 ·exact h v hv
def qFC (c:B0) (p:Pat):Int:=if Eh c ≠ 0 then Eh c else q7B c p
theorem qML {c:B0} (hc:COk c) (h:Eh c=0):ROk c:=by
 have hs:=(Po h).1
 exact ⟨hc,fun x hx=>⟨(Ih hs).2.1 x hx,qDk hs x hx⟩⟩
theorem q9T:∀ {ns vs nets:List Int},(∀ v ∈ vs,V4 v)→(∀ v ∈ nets,V4 v)→∀ v ∈ G2 ns vs nets,V4 v
 | [],vs,nets,_,h=>by cases vs <;> exact h
 | _::_,[],nets,_,h=>h
 | n::ns,v::vs,nets,hv,h=>by
  simp only [G2]
  refine q9T (fun u hu=>hv u (List.mem_cons_of_mem _ hu)) fun u hu=>?_
  rcases List.mem_or_eq_of_mem_set hu with hu | rfl
  ·exact h u hu
  ·exact hv _ List.mem_cons_self
end Go.Lg
namespace Go.Lg
open Go
section
variable {P:Program} {Γ:Tables} {Q:AX→St→Prop} {s:St}
/- probecard/probecardlaw06.taken (function 109) -/
abbrev q3i:IC:=.gh (.seq (.seq (.reg [om 9 8,om 10 1,od 11 (.bin .lss (tm 9) (tm 10))] [kp [0,1,2,7,8,11] [19]]) (.cond (tm 11) .skip (.exit 0))) (.seq (.block 1 (.seq (.reg [om 14 0,od 15 (le 0 14),od 16 (.bin .eql (tm 15) (ki 0))] [kp
 [0,1,2,7,8,16] [19]]) (.cond (tm 16) (.reg [om 17 7,od 18 (.bsl true 71 1 [(ku 2)]),od 19 (.app false 71 1 (tm 17) (tm 18)),om 7 19] [kp [0,1,2,7,8] [19]]) (.reg [om 20 7,om 21 0,om 22 8,om 23 0,od 24 (le 0 23),od
 25 (.bin .rem (tm 22) (tm 24)),od 26 (ia 1 21 25),od 27 (ld 1 26),om 28 2,od 29 (.bin .rem (tm 27) (tm 28)),od 30 (.bsl true 71 1 [(tm 29)]),oz 31 (.app false 71 1 (tm 20) (tm 30)) 19,om 7 31] [kp [0,1,2,7,8] [19]]))))
 (.reg [om 12 8,od 13 (.bin .add (tm 12) (ki 1)),om 8 13] [kp [0,1,2,7,8] [19]]))) [kp [0,1,2,7,8] [19]]
def Qq:IC:=.loop q3i
abbrev q3j:IC:=(.seq (.reg [od 6 (.mv kN)] [kp [0,1,2] []]) (.seq (.reg [od 7 (.mv kN)] [.nl 7 19 71 1,kp [0,1,2,7] [19]]) (.seq (.seq (.reg [od 8 (.mv (ki 0))] [kp [0,1,2,7,8] [19]]) (.block 0 Qq)) (.seq (.reg [om 32 7,om
 6 32] [kp [6] [19]]) .ret))))
theorem Yt (h:∀ K:St→Prop,K=run P Γ Qq Q→run P Γ q3i (Am K Q) s):run P Γ Qq Q s:=Ae h
def q3k:List RV:=[.tmp 6]
/- probecard/probecardlaw06.count (function 110) -/
abbrev q3l:IC:=.gh (.seq (.seq (.reg [om 7 6,od 8 (fa 0 2),od 9 (ld 1 8),od 10 (le 0 9),od 11 (.bin .lss (tm 7) (tm 10))] [kp [1,2,5,6,11] []]) (.cond (tm 11) .skip (.exit 0))) (.seq (.block 1 (.seq (.reg [od 14 (fa 0 2),od 15 (ld 1 14),
 om 16 6,od 17 (ia 4 15 16),od 18 (fa 0 17),od 19 (ld 1 18),om 20 1,od 21 (.bin .eql (tm 19) (tm 20))] [kp [1,2,5,6,21] []]) (.cond (tm 21) (.reg [om 22 5,od 23 (.bin .add (tm 22) (ki 1)),om 5 23] [kp [1,2,5,6] []])
 .skip))) (.reg [om 12 6,od 13 (.bin .add (tm 12) (ki 1)),om 6 13] [kp [1,2,5,6] []]))) [kp [1,2,5,6] []]
def Qr:IC:=.loop q3l
abbrev q3m:IC:=(.seq (.reg [od 2 (.box true (tm 0)),od 4 (.mv (ki 0))] [kp [1,2] []]) (.seq (.reg [od 5 (.mv (ki 0))] [kp [1,2,5] []]) (.seq (.seq (.reg [od 6 (.mv (ki 0))] [kp [1,2,5,6] []]) (.block 0 Qr)) (.seq (.reg [om 24
 5,om 4 24] [kp [4] []]) .ret))))
theorem Yu (h:∀ K:St→Prop,K=run P Γ Qr Q→run P Γ q3l (Am K Q) s):run P Γ Qr Q s:=Ae h
def q3n:List RV:=[.tmp 4]
/- (probecard/probecardlaw06.P).Of (function 35) -/
abbrev q5B:IC:=(.seq (.reg [od 2 (.box true (tm 0)),od 3 (.box true (tm 1)),od 4 (.alloc false [(.slice none 0 0),(.slice none 0 0)])] [kp [2,3,4] [4,9019,14019]]) (.seq (.reg [od 5 (fa 0 2),od 6 (.ldT 1 false (tm 5)),od 7 (.ldT 4 true
 (tm 3)),od 8 (.callT 110 [(tm 7),(ku 0)]),od 9 (.ncall 109 [(tm 6),(tm 8),(ku 4)] 9000),od 10 (fa 1 2),od 11 (.ldT 1 false (tm 10)),od 12 (.ldT 4 true (tm 3)),od 13 (.callT 110 [(tm 12),(ku 14)]),od 14 (.ncall 109 [(tm
 11),(tm 13),(ku 3)] 14000),od 15 (.build [(1,(tm 9)),(1,(tm 14))]),on (.stR 4 2 (tm 4) (tm 15))] [kp [4] [4,9019,14019]]) .ret))
def q5C:List RV:=[.cell 4 2 true]
/- probecard/probecardlaw06.Same (function 37) -/
abbrev q5D:IC:=.gh (.seq (.reg [od 12 (.bin .lss (tm 11) (tm 10))] [kp [3,9,10,11,12] [8]]) (.seq (.cond (tm 12) .skip (.exit 0)) (.seq (.block 1 (.seq (.reg [om 13 11,od 14 (ia 1 9 11),od 15 (ld 1 14),om 4 13,om 5 15] [kp [3,4,5,9,
 10,11] [8]]) (.reg [om 16 3,om 17 4,om 18 5,od 19 (.call 140 [(tm 18)]),od 20 (.idxS (.const (sV [48,49,88,90])) (tm 19)),od 21 (ia 1 16 17),on (.store 1 (tm 21) (tm 20))] [kp [3,9,10,11] [8]]))) (.reg [od 22 (.bin
 .add (tm 11) (ki 1)),om 11 22] [kp [3,9,10,11] [8]])))) [kp [3,9,10,11] [8]]
def Uf:IC:=.loop q5D
abbrev q5E:IC:=(.seq (.reg [od 2 (.mv (.const (sV [])))] [kp [0] []]) (.seq (.reg [om 6 0,od 7 (le 0 6),od 8 (.mk 5 1 [(.int .u8 0)] (tm 7) (tm 7)),om 3 8] [kp [0,3] [8]]) (.seq (.seq (.reg [om 9 0,od 10 (le 0 9),od 11 (.mv (ki 0))] [kp [3,
 9,10,11] [8]]) (.block 0 Uf)) (.seq (.reg [om 23 3,od 24 (.bytesStr (tm 23)),om 2 24] [kp [2] []]) .ret))))
theorem q09 (h:∀ K:St→Prop,K=run P Γ Uf Q→run P Γ q5D (Am K Q) s):run P Γ Uf Q s:=Ae h
def q5F:List RV:=[.tmp 2]
end
end Go.Lg
namespace Go.Lg
open Go Go.Proofs
theorem q9A:Ao Tryz.prog 109 q3j 33 3 q3k=true:=by kernel_rfl
theorem q9B:Ao Tryz.prog 110 q3m 25 2 q3n=true:=by kernel_rfl
theorem qAV:Ao Tryz.prog 35 q5B 16 2 q5C=true:=by kernel_rfl
theorem qAW:Ao Tryz.prog 78 q5E 25 1 q5F=true:=by kernel_rfl
end Go.Lg
namespace Go.Lg
open Go Go.Proofs
variable {Γ:Tables}
theorem qDv {ks:List Int} {c:B0} {i:Nat} (hi:i<c.nodes.l.length):Ky ks (c.nodes.l.take (i+1)) 0=Ky ks (c.nodes.l.take i) 0++if ks.contains (Az c i) then [(i:Int)] else []:=by
 have hk:Az c i=c.nodes.l[i].k:=by simp [Az,hi]
 rw [List.take_add_one,List.getElem?_eq_getElem hi,q6m,hk]
 have:(c.nodes.l.take i).length=i:=by rw [List.length_take]; omega
 rw [this]
 simp [Ky]
theorem qAX {Q:AX→St→Prop} (c:B0) (hc:COk c) (k:Int)
  (h0:Q (.exit 0) ⟨[(1,.t (tK k)),(2,.t (.ip (tC c) 0)),(5,.t (tI (Ky [k] c.nodes.l 0).length)),(6,.t (tI c.nodes.l.length)),(11,.t (tB false))],[]⟩):∀ (f i:Nat),f+i=c.nodes.l.length →
  run Tryz.prog Γ Qr Q ⟨[(1,.t (tK k)),(2,.t (.ip (tC c) 0)),(5,.t (tI (Ky [k] (c.nodes.l.take i) 0).length)),(6,.t (tI i))],[]⟩
 | 0,i,h=>by
  refine Yu fun K hK=>?_
  have h2:i=c.nodes.l.length:=by omega
  subst h2
  rw [List.take_length]
  simp [tC,A5,A8,Ad,B6,Aa]
  simpa [tC,A5,A8,Ad,B6] using h0
 | f+1,i,h=>by
  refine Yu fun K hK=>?_
  have h2:i<c.nodes.l.length:=by omega
  have hn:=hc.nodes
  have ih:=qAX c hc k h0 f (i+1) (by omega)
  rw [qDv h2] at ih
  have hget:=qAU (c:=c) (n:=(i:Int)) (by omega) (by omega)
  have hk:(nd c i).k=Az c i:=by simp [nd,Az]
  simp only [Int.toNat_natCast] at hget
  have hle:=Xe [k] (c.nodes.l.take i) 0
  rw [List.length_take] at hle
  generalize nd c i=x at *
  by_cases h1:x.k=k
  ·have hkk:[k].contains (Az c i)=true:=by rw [← hk,h1]; simp
   rw [hkk,if_pos rfl,List.length_append] at ih
   simp (disch:=omega) [tC,A5,A8,Ad,B6,Aa,h2,Bf,hget,Dn,h1,A4]
   rw [hK]
   simpa [tC,A5,A8,Ad,B6] using ih
  ·have hkk:[k].contains (Az c i)=false:=by rw [← hk]; simp; exact h1
   rw [hkk,if_neg (by simp),List.append_nil] at ih
   simp (disch:=omega) [tC,A5,A8,Ad,B6,Aa,h2,Bf,hget,Dn,h1,A4]
   rw [hK]
   simpa [tC,A5,A8,Ad,B6] using ih
theorem qAY (c:B0) (hc:COk c) (k:Int):A3 Tryz.prog Γ 110 [.agg (tC c),tK k] (tI (Ky [k] c.nodes.l 0).length):=by
 refine A7 q9B rfl ?_
 have g:=fun Q h0=>qAX (Γ:=Γ) (Q:=Q) c hc k h0 c.nodes.l.length 0 (by omega)
 simp [q3m,tC,A5,A8,Ad,B6]
 refine g _ ?_
 simp [q3n,Au]
def Vw (l:List Int) (n:Nat) (most:Int):List Int:=(List.range' 0 n).map fun i=>if l=[] then 2 else (l.getD (i % l.length) 0).tmod most
theorem q2A {l:List Int} {n:Nat} {most:Int}:(Vw l n most).length=n:=by simp [Vw]
theorem q63 {Q:AX→St→Prop} (l:Sl Int) (n:Nat) (hn:n≤1000000000) (most:Int) (hm:0<most) (R:List Int)
  (h0:Q (.exit 0) ⟨[(0,.t (tV l)),(1,.t (tI n)),(2,.t (tK most)),(7,.ls 19 0 n none),(8,.t (tI n)),(11,.t (tB false))],[(19,.sl 71 1 (Ap R))]⟩):∀ (k i:Nat) (out:List Int),k+i=n→out.length=i→out++(List.range' i k).map (fun i=>if l.l=[] then 2 else (l.l.getD (i % l.l.length) 0).tmod most)=R →
  run Tryz.prog Γ Qq Q ⟨[(0,.t (tV l)),(1,.t (tI n)),(2,.t (tK most)),(7,.ls 19 0 i none),(8,.t (tI i))],[(19,.sl 71 1 (Ap out))]⟩
 | 0,i,out,h,hi,hR=>by
  refine Yt fun K hK=>?_
  have h2:i=n:=by omega
  subst h2
  simp only [List.range'_zero,List.map_nil,List.append_nil] at hR
  subst hR
  simp
  exact h0
 | k+1,i,out,h,hi,hR=>by
  refine Yt fun K hK=>?_
  have h2:i<n:=by omega
  rw [List.range'_succ,List.map_cons] at hR
  have vt:(Ap out).take i=Ap out:=by rw [← hi]; exact Cj
  by_cases h1:l.l=[]
  ·have ih:=q63 l n hn most hm R h0 k (i+1) (out++[2]) (by omega) (by simp [hi]) (by rw [← hR]; simp [h1])
   have vs:=Pz (l:=out) (v:=2)
   simp (disch:=omega) [h2,tV,A0,h1,A4,vt,vs,hi]
   refine ⟨by omega,?_⟩
   rw [hK]
   simpa [tV,h1] using ih
  ·have hpos:0<l.l.length:=List.length_pos_iff.2 h1
   have hlt:i % l.l.length<l.l.length:=Nat.mod_lt _ hpos
   have hmod:(i:Int).tmod (l.l.length:Int)=((i % l.l.length:Nat):Int):=by rw [Int.natCast_emod]; exact Int.tmod_eq_emod_of_nonneg (by omega)
   rw [if_neg h1] at hR
   have e:=ge1 (f:=tK) hlt
   generalize hj:i % l.l.length=j at *
   generalize l.l.getD j 0=v at *
   have ih:=q63 l n hn most hm R h0 k (i+1) (out++[v.tmod most]) (by omega) (by simp [hi]) (by rw [← hR]; simp)
   have vs:=Pz (l:=out) (v:=v.tmod most)
   have hne:¬ (l.l.length:Int)=0:=by omega
   have hm0:¬ most=0:=by omega
   simp (disch:=omega) [h2,tV,A0,A6,h1,hne,hm0,hmod,hlt,e,A4,vt,vs,hi,-Int.natCast_emod]
   refine ⟨by omega,?_⟩
   rw [hK]
   simpa [tV] using ih
theorem qGI (l:Sl Int) (n:Nat) (hn:n≤1000000000) (most:Int) (hm:0<most):F6 Tryz.prog Γ 109 [] [.t (tV l),.t (tI n),.t (tK most)] (.ls 19 0 n none) [(19,.sl 71 1 (Ap (Vw l.l n most)))]:=by
 refine Gy q9A rfl ?_
 have g:=fun Q h0=>q63 (Γ:=Γ) (Q:=Q) l n hn most hm (Vw l.l n most) h0 n 0 [] (by omega) rfl (by simp [Vw])
 simp [q3j]
 refine g _ ?_
 simp [q3k]
def chV (v:Int):Int:=if v=0 then 48 else if v=1 then 49 else if v=2 then 88 else 90
def qBw (l:List Int):List UInt8:=l.map fun v=>UInt8.ofNat (chV (Dw v)).toNat
theorem qBx {Q:AX→St→Prop} (l:Sl Int) (hl:l.l.length≤1000000000) (hv:∀ v ∈ l.l,0≤v) (R:List Int)
  (h0:Q (.exit 0) ⟨[(3,.ls 8 0 l.l.length none),(9,.t (tV l)),(10,.t (tI l.l.length)),(11,.t (tI l.l.length)),(12,.t (tB false))],[(8,.sl 5 1 (Ap R))]⟩):∀ (k i:Nat),k+i=l.l.length→R=l.l.map (fun v=>chV (Dw v)) →
  run Tryz.prog Γ Uf Q ⟨[(3,.ls 8 0 l.l.length none),(9,.t (tV l)),(10,.t (tI l.l.length)),(11,.t (tI i))],[(8,.sl 5 1 (Ap (R.take i++List.replicate (l.l.length - i) 0)))]⟩
 | 0,i,h,hR=>by
  refine q09 fun K hK=>?_
  have h2:i=l.l.length:=by omega
  have h3:R.length=l.l.length:=by rw [hR]; simp
  subst h2
  rw [← h3,List.take_length,h3,Nat.sub_self,List.replicate_zero,List.append_nil]
  simp
  exact h0
 | k+1,i,h,hR=>by
  refine q09 fun K hK=>?_
  have h2:i<l.l.length:=by omega
  have h3:R.length=l.l.length:=by rw [hR]; simp
  have ih:=qBx l hl hv R h0 k (i+1) (by omega) hR
  have e1:=ge1 (f:=tK) h2
  have hv0:=hv (l.l.getD i 0) (by rw [Bv h2]; exact List.getElem_mem h2)
  have hRi:R.getD i 0=chV (Dw (l.l.getD i 0)):=by rw [hR,Bv h2]; simp [List.getD_eq_getElem?_getD,h2]
  have hset:∀ v,v=R.getD i 0→(Ap (R.take i++List.replicate (l.l.length - i) 0)).set i [tK v]=Ap (R.take (i+1)++List.replicate (l.l.length - (i+1)) 0):=by
   rintro v rfl
   show (Ac tK _).set i [tK _]=Ac tK _
   rw [Jb]
   congr 1
   have e:l.l.length - i=(l.l.length - (i+1))+1:=by omega
   have ht:(R.take i).length=i:=by rw [List.length_take]; omega
   have hri:i<R.length:=by omega
   have hta:R.take (i+1)=R.take i++[R.getD i 0]:=by rw [List.take_add_one,List.getElem?_eq_getElem hri,Bv hri]; rfl
   rw [e,List.replicate_succ,List.set_append,if_neg (by rw [ht]; omega),ht,Nat.sub_self,hta]
   simp
  have hlen:(Ap (R.take i++List.replicate (l.l.length - i) 0)).length=l.l.length:=by rw [A0]; simp; omega
  generalize Ap (R.take i++List.replicate (l.l.length - i) 0)=E at *
  generalize l.l.getD i 0=v at *
  have hc4:Dw v=0∨Dw v=1∨Dw v=2∨Dw v=3:=by unfold Dw; split <;> omega
  simp (disch:=omega) [h2,tV,A0,A6,e1,A4]
  refine A1 (Yo v) rfl ?_
  have hch:(ByteArray.mk #[48,49,88,90]).size=4:=rfl
  have hb:∀ q:Int,Dw v=q→(0≤q∧q<4):=fun q hq=>by omega
  generalize Dw v=w at *
  have hval:((([48,49,88,90]:List UInt8)[w.toNat]?.getD 0).toNat:Int)=chV w:=by
   rcases hc4 with rfl | rfl | rfl | rfl <;> rfl
  have hw:=hb w rfl
  have hs:=hset _ (hval.trans hRi.symm)
  simp (disch:=omega) [h2,hlen,hs,A4,sV,hch,hw]
  rw [hK]
  simpa [tV] using ih
theorem qAZ:∀ (l:List Int),(∀ v ∈ l,0≤v∧v<256)→O9 (Ap l)=some (l.map fun v=>UInt8.ofNat v.toNat)
 | [],_=>rfl
 | v::l,h=>by
  have ih:=qAZ l fun u hu=>h u (List.mem_cons_of_mem _ hu)
  have hv:=h v List.mem_cons_self
  show (O9 (Ap l)).map _=_
  rw [ih]; rfl
theorem q4U (l:Sl Int) (hl:l.l.length≤1000000000) (hv:∀ v ∈ l.l,0≤v):A3 Tryz.prog Γ 78 [tV l] (tS (qBw l.l)):=by
 refine A7 qAW rfl ?_
 have g:=fun Q h0=>qBx (Γ:=Γ) (Q:=Q) l hl hv (l.l.map fun v=>chV (Dw v)) h0 l.l.length 0 (by omega) rfl
 have hz:List.replicate l.l.length [T.v (Value.int .u8 0)]=Ap (([]:List Int)++List.replicate (l.l.length - 0) 0):=by simp [Ac]
 have hlen:(l.l.map fun v=>chV (Dw v)).length=l.l.length:=by simp
 have hR:O9 (Ap (l.l.map fun v=>chV (Dw v)))=some (qBw l.l):=by
  rw [qAZ]
  ·simp [qBw]
  ·intro v hv'
   obtain ⟨u,_,rfl⟩:=List.mem_map.1 hv'
   unfold chV; split; omega; split; omega; split <;> omega
 have htk:(Ap (l.l.map fun v=>chV (Dw v))).take l.l.length=Ap (l.l.map fun v=>chV (Dw v)):=by rw [← hlen]; exact Cj
 rw [List.take_zero] at g
 generalize Ap (l.l.map fun v=>chV (Dw v))=E at *
 simp (disch:=omega) [q5E,tV,A0,A4]
 refine ⟨by omega,?_⟩
 rw [hz]
 refine g _ ?_
 simp [q5F,Au,htk,hR,tS,sV]
structure PD where
 i:Sl Int
 s:Sl Int
def tPD (q:PD):List T:=[tV q.i,tV q.s]
def q9C (q:PD):Prop:=(∀ v ∈ q.i.l,Byt v)∧∀ v ∈ q.s.l,Byt v
def qO9 (q:PD) (c:B0):List Int:=Vw q.i.l (Bg c).length 4
def qOA (q:PD) (c:B0):List Int:=Vw q.s.l (Af c).length 3
def qAa (q:PD) (c:B0):Pat:=⟨⟨qO9 q c,none,none⟩,⟨qOA q c,none,none⟩⟩
def v1 (v:Int):Sl Int:=⟨[v],none,none⟩
end Go.Lg
namespace Go.Lg
open Go Go.Proofs Go.Proofs.YtnhgdofpomioeaaGreatDoor
theorem qGJ:Tryz.prog.cellsOf 86=2:=by kernel_rfl
theorem qCf:Rd Tryz.prog 25 fun ts=>∃ s:Sl Int,ts=[tV s]∧∀ b ∈ s.l,Byt b:=by
 refine (q6f Tryz.underlying25 q3S (by decide) qDh).mono fun ts ⟨es,cap,nl,h,_,hes⟩=>?_
 obtain ⟨l,rfl,hl⟩:=q6u (f:=fun n:Int=>[tK n]) (Q:=Byt) fun x hx=>(hes x hx).1
 exact ⟨⟨l,cap,nl⟩,h,hl⟩
theorem qP5:Rd Tryz.prog 86 fun ts=>∃ q,ts=tPD q∧q9C q:=by
 refine (q17 (l:=[(1,fun ts=>∃ s:Sl Int,ts=[tV s]∧∀ b ∈ s.l,Byt b),(1,fun ts=>∃ s:Sl Int,ts=[tV s]∧∀ b ∈ s.l,Byt b)]) Tryz.underlying86 qGJ
  (.cons rfl q9Q qCf (.cons rfl q9Q qCf (.nil _)))).mono fun ts h=>?_
 obtain ⟨_,_,rfl,⟨a,rfl,ha⟩,_,_,rfl,⟨b,rfl,hb⟩,rfl⟩:=h
 exact ⟨⟨a,b⟩,rfl,ha,hb⟩
end Go.Lg
namespace Go.Proofs.YtnhgdofpomioeaaGreatDoor
open Go Go.Lg Go.ChangeShapes Go.WideShapes Go.ChangeAt Go.RowKit
end Go.Proofs.YtnhgdofpomioeaaGreatDoor
namespace Go.Lg
open Go
section
variable {P:Program} {Γ:Tables} {Q:AX→St→Prop} {s:St}
/- probecard/memories.matches (function 162) -/
abbrev Wh:IC:=.gh (.seq (.reg [od 10 (.bin .lss (tm 9) (tm 8))] [kp [0,7,8,9,10] []]) (.seq (.cond (tm 10) .skip (.exit 0)) (.seq (.block 1 (.seq (.reg [od 11 (ia 1 7 9),od 12 (ld 1 11),om 6 12] [kp [0,6,7,8,9] []]) (.seq (.seq (.reg
 [om 13 6,od 14 (.call 31 [(tm 13)]),om 15 14,oT 16 (.mv (tm 6)) 15,oT 17 (.conv .i64 (tm 16)) 15,oT 18 (.mv (tm 0)) 15,oT 19 (.bin .and (tm 18) (ki 1)) 15,oT 20 (.bin .neq (tm 17) (tm 19)) 15,od 21 (.pick (tm 15) (tm 20)
 kF)] [kp [0,7,8,9,21] []]) (.cond (tm 21) (.seq (.reg [od 4 (.mv kF)] [kp [4] []]) .ret) .skip)) (.reg [om 22 0,od 23 (.bin .shr (tm 22) (.const (.int .u64 1))),om 0 23] [kp [0,7,8,9] []])))) (.reg [od 24 (.bin .add (tm 9)
 (ki 1)),om 9 24] [kp [0,7,8,9] []])))) [kp [0,7,8,9] []]
def Ht:IC:=.loop Wh
abbrev Wi:IC:=(.seq (.reg [od 4 (.mv kF)] [kp [0,1] []]) (.seq (.seq (.reg [om 7 1,od 8 (le 0 7),od 9 (.mv (ki 0))] [kp [0,7,8,9] []]) (.block 0 Ht)) (.seq (.reg [om 25 0,od 26 (.bin .eql (tm 25) (ki 0)),om 4 26] [kp [4]
 []]) .ret)))
theorem Q0 (h:∀ K:St→Prop,K=run P Γ Ht Q→run P Γ Wh (Am K Q) s):run P Γ Ht Q s:=Ae h
def Nr:List RV:=[.tmp 4]
/- probecard/memories.bit (function 163) -/
abbrev Vx:IC:=(.seq (.reg [od 4 (.mv (ku 0))] [kp [0,1] []]) (.seq (.seq (.reg [om 5 1,om 6 0,od 7 (le 0 6),od 8 (.bin .geq (tm 5) (tm 7))] [kp [0,1,8] []]) (.cond (tm 8) (.seq (.reg [od 4 (.mv (ku 2))] [kp [4] []]) .ret) .skip)) (.seq
 (.reg [om 9 0,om 10 1,od 11 (ia 1 9 10),od 12 (ld 1 11),od 13 (.call 154 [(tm 12)]),om 4 13] [kp [4] []]) .ret)))
def Vy:List RV:=[.tmp 4]
/- probecard/memories.common (function 164) -/
abbrev Ox:IC:=(.seq (.reg [od 4 (.mv (ku 0))] [kp [0,1] []]) (.seq (.seq (.reg [om 5 0,om 6 1,od 7 (.bin .neq (tm 5) (tm 6))] [kp [0,7] []]) (.cond (tm 7) (.seq (.reg [od 4 (.mv (ku 2))] [kp [4] []]) .ret) .skip)) (.seq (.reg [om 8 0,om 4
 8] [kp [4] []]) .ret)))
def Oy:List RV:=[.tmp 4]
/- probecard/memories.Look (function 91) -/
abbrev q1P:IC:=.gh (.seq (.reg [od 32 (.bin .lss (tm 31) (tm 30))] [kp [1,5,6,8,18,19,20,30,31,32] [22030]]) (.seq (.cond (tm 32) .skip (.exit 2)) (.seq (.block 3 (.seq (.reg [om 33 31,om 9 33] [kp [1,5,6,8,9,18,19,20,30,31]
 [22030]]) (.seq (.reg [om 34 6] [kp [1,5,6,8,9,18,19,20,30,31,34] [22030]]) (.cond (tm 34) (.reg [om 35 5,om 36 9,om 37 8,om 38 9,od 39 (.call 163 [(tm 37),(tm 38)]),od 40 (ia 1 35 36),on (.store 1 (tm 40) (tm
 39))] [kp [1,5,6,8,18,19,20,30,31] [22030]]) (.reg [om 41 5,om 42 9,om 43 5,om 44 9,od 45 (ia 1 43 44),od 46 (.ldR 22030 1 false (tm 45)),om 47 8,om 48 9,od 49 (.call 163 [(tm 47),(tm 48)]),od 50 (.call 164 [(tm
 46),(tm 49)]),od 51 (ia 1 41 42),on (.stR 22030 1 (tm 51) (tm 50))] [kp [1,5,6,8,18,19,20,30,31] [22030]]))))) (.reg [od 52 (.bin .add (tm 31) (ki 1)),om 31 52] [kp [1,5,6,8,18,19,20,30,31] [22030]])))) [kp [1,
 5,6,8,18,19,20,30,31] [22030]]
def Lx:IC:=.loop q1P
abbrev q1Q:IC:=.gh (.seq (.reg [od 21 (.bin .lss (tm 20) (tm 19))] [kp [1,5,6,18,19,20,21] [22030]]) (.seq (.cond (tm 21) .skip (.exit 0)) (.seq (.block 1 (.seq (.reg [om 22 20,od 23 (ia 1 18 20),od 24 (ld 1 23),om 7 22,om 8 24] [kp [1,
 5,6,7,8,18,19,20] [22030]]) (.seq (.seq (.reg [om 25 7,om 26 1,od 27 (.call 162 [(tm 25),(tm 26)]),od 28 (.un .not (tm 27))] [kp [1,5,6,8,18,19,20,28] [22030]]) (.cond (tm 28) (.exit 1) .skip)) (.seq (.seq (.reg
 [om 29 5,od 30 (le 0 29),od 31 (.mv (ki 0))] [kp [1,5,6,8,18,19,20,30,31] [22030]]) (.block 2 Lx)) (.reg [od 6 (.mv kF)] [kp [1,5,6,18,19,20] [22030]]))))) (.reg [od 53 (.bin .add (tm 20) (ki 1)),om 20
 53] [kp [1,5,6,18,19,20] [22030]])))) [kp [1,5,6,18,19,20] [22030]]
def Ly:IC:=.loop q1Q
abbrev Tz:IC:=(.seq (.reg [od 4 (.mv kN)] [kp [0,1] []]) (.seq (.seq (.reg [om 10 0,od 11 (le 0 10),od 12 (.bin .eql (tm 11) (ki 0))] [kp [0,1,12] []]) (.cond (tm 12) (.seq (.reg [od 4 (.mv kN)] [kp [4] [22030]]) .ret) .skip)) (.seq (.reg
 [om 13 0,od 14 (.iadr 1 (tm 13) (ki 0)),od 15 (ld 1 14),od 16 (le 0 15),od 17 (.ncall 97 [(tm 16)] 17000),om 5 17] [kp [0,1,5] [22030]]) (.seq (.reg [od 6 (.mv kT)] [kp [0,1,5,6] [22030]]) (.seq (.seq (.reg [om 18 0,od
 19 (le 0 18),od 20 (.mv (ki 0))] [kp [1,5,6,18,19,20] [22030]]) (.block 0 Ly)) (.seq (.reg [om 54 5,om 4 54] [kp [4] [22030]]) .ret))))))
theorem V7 (h:∀ K:St→Prop,K=run P Γ Lx Q→run P Γ q1P (Am K Q) s):run P Γ Lx Q s:=Ae h
theorem V8 (h:∀ K:St→Prop,K=run P Γ Ly Q→run P Γ q1Q (Am K Q) s):run P Γ Ly Q s:=Ae h
def U0:List RV:=[.tmp 4]
/- probecard/memories.Store (function 92) -/
abbrev q0A:IC:=.gh (.seq (.reg [od 51 (.bin .lss (tm 50) (tm 49))] [kp [1,2,3,9,10,11,12,26,27,28,49,50,51] [25,37]]) (.seq (.cond (tm 51) .skip (.exit 2)) (.seq (.block 3 (.seq (.reg [om 52 50,om 13 52] [kp [1,2,3,9,10,11,12,
 13,26,27,28,49,50] [25,37]]) (.seq (.reg [om 53 12,om 54 13,od 55 (.call 163 [(tm 53),(tm 54)]),om 56 2,om 57 13,od 58 (.call 163 [(tm 56),(tm 57)]),om 14 55,om 15 58] [kp [1,2,3,9,10,11,12,13,14,15,26,27,
 28,49,50] [25,37]]) (.block 4 (.seq (.reg [om 69 3,od 70 (.bin .eql (tm 69) (ku 0)),om 71 70,oF 72 (.mv (tm 11)) 71,oF 73 (.mv (tm 1)) 71,oF 74 (.call 162 [(tm 72),(tm 73)]) 71,oF 75 (.un .not (tm 74)) 71,od 76 (.pick
 (tm 71) kT (tm 75)),om 68 76] [kp [1,2,3,9,10,11,12,13,14,15,26,27,28,49,50,68] [25,37]]) (.cond (tm 68) (.reg [om 77 10,om 78 11,od 79 (ia 1 77 78),od 80 (ld 1 79),om 81 13,om 82 14,od 83 (ia 1 80 81),on
 (.store 1 (tm 83) (tm 82))] [kp [1,2,3,9,10,11,12,26,27,28,49,50] [25,37]]) (.seq (.reg [om 85 9,om 84 85] [kp [1,2,3,9,10,11,12,13,14,15,26,27,28,49,50,84] [25,37]]) (.cond (tm 84) (.reg [om 86 10,om
 87 11,od 88 (ia 1 86 87),od 89 (ld 1 88),om 90 13,om 91 15,od 92 (ia 1 89 90),on (.store 1 (tm 92) (tm 91))] [kp [1,2,3,9,10,11,12,26,27,28,49,50] [25,37]]) (.reg [om 59 10,om 60 11,od 61 (ia 1 59 60),od 62
 (.ldR 25 1 false (tm 61)),om 63 13,om 64 14,om 65 15,od 66 (.call 164 [(tm 64),(tm 65)]),od 67 (ia 1 62 63),on (.stR 37 1 (tm 67) (tm 66))] [kp [1,2,3,9,10,11,12,26,27,28,49,50] [25,37]]))))))))) (.reg [od 93
 (.bin .add (tm 50) (ki 1)),om 50 93] [kp [1,2,3,9,10,11,12,26,27,28,49,50] [25,37]])))) [kp [1,2,3,9,10,11,12,26,27,28,49,50] [25,37]]
def K3:IC:=.loop q0A
abbrev q0B:IC:=.gh (.seq (.reg [od 29 (.bin .lss (tm 28) (tm 27))] [kp [1,2,3,9,10,26,27,28,29] [25,37]]) (.seq (.cond (tm 29) .skip (.exit 0)) (.seq (.block 1 (.seq (.reg [om 30 28,od 31 (ia 1 26 28),od 32 (ld 1 31),om 11 30,om 12
 32] [kp [1,2,3,9,10,11,12,26,27,28] [25,37]]) (.seq (.reg [om 33 10,om 34 11,om 35 12,od 36 (le 0 35),od 37 (.mk 71 1 [(.int .u8 0)] (tm 36) (tm 36)),od 38 (ia 1 33 34),on (.store 1 (tm 38) (tm 37))] [kp [1,2,3,
 9,10,11,12,26,27,28] [25,37]]) (.seq (.reg [om 39 10,om 40 11,od 41 (ia 1 39 40),od 42 (ld 1 41),om 43 12,od 44 (.cpy 1 (tm 42) (tm 43))] [kp [1,2,3,9,10,11,12,26,27,28] [25,37]]) (.seq (.reg [om 45 10,om 46
 11,od 47 (ia 1 45 46),od 48 (ld 1 47),od 49 (le 0 48),od 50 (.mv (ki 0))] [kp [1,2,3,9,10,11,12,26,27,28,49,50] [25,37]]) (.block 2 K3)))))) (.reg [od 94 (.bin .add (tm 28) (ki 1)),om 28 94] [.frz
 37,kp [1,2,3,9,10,26,27,28] [25,37]])))) [kp [1,2,3,9,10,26,27,28] [25,37]]
def K4:IC:=.loop q0B
abbrev Qs:IC:=(.seq (.reg [od 8 (.mv kN)] [kp [0,1,2,3] []]) (.seq (.reg [om 16 3,od 17 (.bin .eql (tm 16) (ku 1)),om 18 17,oT 19 (.mv (tm 1)) 18,oT 20 (.call 101 [(tm 19),(.func 165)]) 18,oT 21 (.un .not (tm 20)) 18,od 22 (.pick (tm
 18) (tm 21) kF),om 9 22] [kp [0,1,2,3,9] []]) (.seq (.reg [om 23 0,od 24 (le 0 23),od 25 (.mkB 55 [(.slice none 0 0)] (tm 24) (tm 24)),om 10 25] [kp [0,1,2,3,9,10] [25,37]]) (.seq (.seq (.reg [om 26 0,od 27 (le 0
 26),od 28 (.mv (ki 0))] [kp [1,2,3,9,10,26,27,28] [25,37]]) (.block 0 K4)) (.seq (.reg [om 95 10,om 8 95] [kp [8] [25,37]]) .ret)))))
theorem Rz (h:∀ K:St→Prop,K=run P Γ K3 Q→run P Γ q0A (Am K Q) s):run P Γ K3 Q s:=Ae h
theorem S0 (h:∀ K:St→Prop,K=run P Γ K4 Q→run P Γ q0B (Am K Q) s):run P Γ K4 Q s:=Ae h
def Qu:List RV:=[.tmp 8]
/- probecard/memories.Store$1 (function 165) -/
abbrev Wj:IC:=(.seq (.reg [od 2 (.mv kF)] [kp [0] []]) (.seq (.reg [om 3 0,od 4 (.call 31 [(tm 3)]),od 5 (.un .not (tm 4)),om 2 5] [kp [2] []]) .ret))
def Wl:List RV:=[.tmp 2]
/- probecard/memories.unknown (function 97) -/
abbrev Wm:IC:=(.seq (.reg [od 2 (.mv kN)] [kp [0] []]) (.seq (.reg [od 3 (.bsl true 71 1 [(ku 2)]),om 4 0,od 5 (.call 144 [(tm 3),(tm 4)]),om 2 5] [kp [2] []]) .ret))
def Wn:List RV:=[.tmp 2]
/- (probecard/memories.machine).values (function 87) -/
abbrev Le:IC:=.gh (.seq (.reg [od 14 (.bin .lss (tm 13) (tm 12))] [kp [2,5,11,12,13,14] [10]]) (.seq (.cond (tm 14) .skip (.exit 0)) (.seq (.block 1 (.seq (.reg [od 15 (ia 1 11 13),od 16 (ld 1 15),om 7 16] [kp [2,5,7,11,12,13] [10]])
 (.reg [om 17 5,od 18 (fa 4 2),od 19 (ld 1 18),om 20 7,od 21 (ia 1 19 20),od 22 (ld 1 21),od 23 (.bsl true 71 1 [(tm 22)]),oz 24 (.app false 71 1 (tm 17) (tm 23)) 10,om 5 24] [kp [2,5,11,12,13] [10]]))) (.reg [od 25
 (.bin .add (tm 13) (ki 1)),om 13 25] [kp [2,5,11,12,13] [10]])))) [kp [2,5,11,12,13] [10]]
def E9:IC:=.loop Le
abbrev Lh:IC:=(.seq (.reg [od 2 (.box true (tm 0)),od 4 (.mv kN)] [kp [1,2] []]) (.seq (.reg [om 8 1,od 9 (le 0 8),od 10 (.mk 71 1 [(.int .u8 0)] (ki 0) (tm 9)),om 5 10] [kp [1,2,5] [10]]) (.seq (.seq (.reg [om 11 1,od 12 (le 0 11),od
 13 (.mv (ki 0))] [kp [2,5,11,12,13] [10]]) (.block 0 E9)) (.seq (.reg [om 26 5,om 4 26] [kp [4] [10]]) .ret))))
theorem I6 (h:∀ K:St→Prop,K=run P Γ E9 Q→run P Γ Le (Am K Q) s):run P Γ E9 Q s:=Ae h
def Lj:List RV:=[.tmp 4]
/- (probecard/memories.machine).load (function 84) -/
abbrev O4:IC:=.gh (.seq (.reg [od 17 (.bin .lss (tm 16) (tm 15))] [kp [2,3,4,14,15,16,17] [3,1000000]]) (.seq (.cond (tm 17) .skip (.exit 0)) (.seq (.block 1 (.seq (.reg [om 18 16,od 19 (ia 1 14 16),od 20 (ld 1 19),om 6 18,om 7 20]
 [kp [2,3,4,6,7,14,15,16] [3,1000000]]) (.reg [od 21 (fa 4 3),od 22 (.ldR 3 1 false (tm 21)),om 23 7,om 24 2,om 25 6,od 26 (ia 1 24 25),od 27 (.ldT 1 false (tm 26)),od 28 (ia 1 22 23),on (.stR 1000000 1 (tm 28) (tm
 27))] [kp [2,3,4,14,15,16] [3,1000000]]))) (.reg [od 29 (.bin .add (tm 16) (ki 1)),om 16 29] [kp [2,3,4,14,15,16] [3,1000000]])))) [kp [2,3,4,14,15,16] [3,1000000]]
def Em:IC:=.loop O4
abbrev O5:IC:=.gh (.seq (.reg [od 35 (.bin .lss (tm 34) (tm 33))] [kp [3,4,32,33,34,35] [3,1000000]]) (.seq (.cond (tm 35) .skip (.exit 2)) (.seq (.block 3 (.seq (.reg [om 36 34,od 37 (ia 1 32 34),od 38 (ld 1 37),om 8 36,om 9 38] [kp
 [3,4,8,9,32,33,34] [3,1000000]]) (.reg [od 39 (fa 4 3),od 40 (.ldR 3 1 false (tm 39)),om 41 9,od 42 (fa 0 4),od 43 (.ldT 1 false (tm 42)),om 44 8,od 45 (ia 1 43 44),od 46 (.ldT 1 false (tm 45)),od 47 (ia 1 40 41),on
 (.stR 1000000 1 (tm 47) (tm 46))] [kp [3,4,32,33,34] [3,1000000]]))) (.reg [od 48 (.bin .add (tm 34) (ki 1)),om 34 48] [kp [3,4,32,33,34] [3,1000000]])))) [kp [3,4,32,33,34] [3,1000000]]
def En:IC:=.loop O5
abbrev O6:IC:=.gh (.seq (.reg [od 55 (.bin .lss (tm 54) (tm 53))] [kp [3,4,52,53,54,55] [3,1000000]]) (.seq (.cond (tm 55) .skip (.exit 4)) (.seq (.block 5 (.seq (.reg [od 56 (ia 1 52 54),od 57 (ld 1 56),om 11 57] [kp [3,4,11,52,53,
 54] [3,1000000]]) (.reg [od 58 (fa 4 3),od 59 (.ldR 3 1 false (tm 58)),om 60 11,od 61 (fa 2 4),od 62 (.ldT 1 false (tm 61)),od 63 (fa 0 3),od 64 (fa 0 63),od 65 (.ldR 3 1 false (tm 64)),om 66 11,od 67 (ia 4 65 66),od 68
 (fa 2 67),od 69 (.ldT 1 false (tm 68)),od 70 (ia 1 62 69),od 71 (.ldT 1 false (tm 70)),od 72 (fa 0 3),od 73 (fa 0 72),od 74 (.ldR 3 1 false (tm 73)),om 75 11,od 76 (ia 4 74 75),od 77 (fa 3 76),od 78 (.ldT 1 false (tm
 77)),od 79 (ia 1 71 78),od 80 (.ldT 1 false (tm 79)),od 81 (ia 1 59 60),on (.stR 1000000 1 (tm 81) (tm 80))] [kp [3,4,52,53,54] [3,1000000]]))) (.reg [od 82 (.bin .add (tm 54) (ki 1)),om 54 82] [kp [3,4,52,53,54] [3,
 1000000]])))) [kp [3,4,52,53,54] [3,1000000]]
def Eo:IC:=.loop O6
abbrev O7:IC:=(.seq (.reg [od 3 (.box false (tm 0)),od 4 (.box true (tm 1))] [kp [2,3,4] [3,1000000]]) (.seq (.seq (.reg [od 12 (fa 0 3),od 13 (lG 4 12),od 14 (.call 56 [(tm 13)]),od 15 (le 0 14),od 16 (.mv (ki 0))] [kp [2,3,4,14,15,
 16] [3,1000000]]) (.block 0 Em)) (.seq (.seq (.reg [od 30 (fa 0 3),od 31 (lG 4 30),od 32 (.call 18 [(tm 31)]),od 33 (le 0 32),od 34 (.mv (ki 0))] [kp [3,4,32,33,34] [3,1000000]]) (.block 2
 En)) (.seq (.reg [od 49 (fa 0 3),od 50 (lG 4 49),od 51 (.bsl true 43 1 [(ku 15)]),od 52 (.call 74 [(tm 50),(tm 51)]),od 53 (le 0 52),od 54 (.mv (ki 0))] [kp [3,4,52,53,54] [3,1000000]]) (.gh (.block
 4 Eo) [.keep [] [1000000]])))))
theorem Ji (h:∀ K:St→Prop,K=run P Γ Em Q→run P Γ O4 (Am K Q) s):run P Γ Em Q s:=Ae h
theorem Jj (h:∀ K:St→Prop,K=run P Γ En Q→run P Γ O5 (Am K Q) s):run P Γ En Q s:=Ae h
theorem Jk (h:∀ K:St→Prop,K=run P Γ Eo Q→run P Γ O6 (Am K Q) s):run P Γ Eo Q s:=Ae h
def O8:List RV:=[]
/- probecard/memories.lists (function 149) -/
abbrev q0C:IC:=.gh (.seq (.reg [od 16 (.bin .lss (tm 15) (tm 14))] [kp [3,13,14,15,16] [11]]) (.seq (.cond (tm 16) .skip (.exit 0)) (.seq (.block 1 (.seq (.reg [od 17 (ia 1 13 15),od 18 (ld 1 17),om 5 18] [kp [3,5,13,14,15] [11]]) (.reg
 [om 19 3,om 20 5,oz 21 (.app false 55 1 (tm 19) (tm 20)) 11,om 3 21] [kp [3,13,14,15] [11]]))) (.reg [od 22 (.bin .add (tm 15) (ki 1)),om 15 22] [kp [3,13,14,15] [11]])))) [kp [3,13,14,15] [11]]
def K5:IC:=.loop q0C
abbrev q0D:IC:=(.seq (.reg [od 1 (.box true (tm 0)),od 2 (.mv kN)] [kp [1] []]) (.seq (.reg [od 6 (fa 0 1),od 7 (ld 1 6),od 8 (.bsl true 55 1 [(tm 7)]),od 9 (fa 2 1),od 10 (ld 1 9),od 11 (.app false 55 1 (tm 8) (tm 10)),om 3 11] [kp [1,3]
 [11]]) (.seq (.seq (.reg [od 12 (fa 1 1),od 13 (ld 1 12),od 14 (le 0 13),od 15 (.mv (ki 0))] [kp [3,13,14,15] [11]]) (.block 0 K5)) (.seq (.reg [om 23 3,om 2 23] [kp [2] [11]]) .ret))))
theorem S1 (h:∀ K:St→Prop,K=run P Γ K5 Q→run P Γ q0C (Am K Q) s):run P Γ K5 Q s:=Ae h
def q0E:List RV:=[.tmp 2]
/- probecard/memories.lists (function 149) -/
abbrev Yv:IC:=.gh (.seq (.reg [od 16 (.bin .lss (tm 15) (tm 14))] [kp [3,13,14,15,16] [21]]) (.seq (.cond (tm 16) .skip (.exit 0)) (.seq (.block 1 (.seq (.reg [od 17 (ia 1 13 15),od 18 (ld 1 17),om 5 18] [kp [3,5,13,14,15] [21]]) (.reg
 [om 19 3,om 20 5,od 21 (.app false 55 1 (tm 19) (tm 20)),om 3 21] [kp [3,13,14,15] [21]]))) (.reg [od 22 (.bin .add (tm 15) (ki 1)),om 15 22] [kp [3,13,14,15] [21]])))) [kp [3,13,14,15] [21]]
def Oz:IC:=.loop Yv
abbrev Yw:IC:=(.seq (.reg [od 1 (.box true (tm 0)),od 2 (.mv kN)] [kp [1] []]) (.seq (.reg [od 6 (fa 0 1),od 7 (ld 1 6),od 8 (.bsl true 55 1 [(tm 7)]),od 9 (fa 2 1),od 10 (ld 1 9),od 11 (.appT 55 1 (tm 8) (tm 10)),om 3 11] [kp [1,3]
 [21]]) (.seq (.seq (.reg [od 12 (fa 1 1),od 13 (ld 1 12),od 14 (le 0 13),od 15 (.mv (ki 0))] [kp [3,13,14,15] [21]]) (.block 0 Oz)) (.seq (.reg [om 23 3,om 2 23] [kp [2] [21]]) .ret))))
theorem q2B (h:∀ K:St→Prop,K=run P Γ Oz Q→run P Γ Yv (Am K Q) s):run P Γ Oz Q s:=Ae h
def Yx:List RV:=[.tmp 2]
/- probecard/memories.unknown (function 97) -/
abbrev V9:IC:=(.seq (.reg [od 2 (.mv kN)] [kp [0] []]) (.seq (.reg [od 3 (.bsl true 71 1 [(ku 2)]),om 4 0,od 5 (.ncall 144 [(tm 3),(tm 4)] 5000),om 2 5] [kp [2] [5030]]) .ret))
def Va:List RV:=[.tmp 2]
/- probecard/memories.fits (function 148) -/
abbrev q1R:IC:=.gh (.seq (.reg [od 37 (.bin .lss (tm 36) (tm 35))] [kp [3,34,35,36,37] []]) (.seq (.cond (tm 37) .skip (.exit 0)) (.seq (.block 1 (.seq (.reg [om 38 36,od 39 (ia 3 34 36),od 40 (lG 3 39),od 6 (.alloc false [(.slice none 0
 0),(.slice none 0 0),(.int .i64 0)]),om 5 38,on (.store 3 (tm 6) (tm 40))] [kp [3,5,6,34,35,36] [6]]) (.seq (.reg [od 41 (.mkf 210 [(tm 6)]),om 7 41] [kp [3,5,6,7,34,35,36] [6]]) (.seq (.reg [od 42 (fa 1 3),od 43
 (ld 1 42),om 44 5,od 45 (ia 1 43 44),od 46 (ld 1 45),od 47 (le 0 46),od 48 (fa 0 6),od 49 (ld 1 48),od 50 (le 0 49),od 51 (.bin .shl (ki 1) (tm 50)),od 52 (.bin .neq (tm 47) (tm 51)),om 53 52,oF 54 (.mv (tm 7)) 53,oF 55
 (fa 2 3) 53,oF 56 (ld 1 55) 53,oF 57 (.mv (tm 5)) 53,oF 58 (ia 1 56 57) 53,oF 59 (ld 1 58) 53,oF 60 (.callv (tm 54) [(tm 59)]) 53,od 61 (.pick (tm 53) kT (tm 60)),om 62 61,oF 63 (fa 1 3) 62,oF 64 (ld 1 63) 62,oF 65 (.mv
 (tm 5)) 62,oF 66 (ia 1 64 65) 62,oF 67 (ld 1 66) 62,oF 68 (.mv (tm 7)) 62,oF 69 (.call 103 [(tm 67),(tm 68)]) 62,od 70 (.pick (tm 62) kT (tm 69))] [kp [3,34,35,36,70] []]) (.cond (tm 70) (.seq (.reg [od 4 (.mv kF)] [kp
 [4] []]) .ret) .skip))))) (.reg [od 71 (.bin .add (tm 36) (ki 1)),om 36 71] [kp [3,34,35,36] []])))) [kp [3,34,35,36] []]
def M1:IC:=.loop q1R
abbrev q1S:IC:=(.seq (.reg [od 2 (.box true (tm 0)),od 3 (.box true (tm 1)),od 4 (.mv kF)] [kp [2,3] []]) (.seq (.seq (.reg [od 8 (fa 0 3),od 9 (ld 1 8),od 10 (le 0 9),od 11 (lG 4 2),od 12 (.call 18 [(tm 11)]),od 13 (le 0 12),od 14 (.bin
 .neq (tm 10) (tm 13)),om 15 14,oF 16 (fa 1 3) 15,oF 17 (ld 1 16) 15,oF 18 (le 0 17) 15,oF 19 (fa 2 2) 15,oF 20 (ld 1 19) 15,oF 21 (le 0 20) 15,oF 22 (.bin .neq (tm 18) (tm 21)) 15,od 23 (.pick (tm 15) kT (tm 22)),om 24
 23,oF 25 (fa 2 3) 24,oF 26 (ld 1 25) 24,oF 27 (le 0 26) 24,oF 28 (fa 2 2) 24,oF 29 (ld 1 28) 24,oF 30 (le 0 29) 24,oF 31 (.bin .neq (tm 27) (tm 30)) 24,od 32 (.pick (tm 24) kT (tm 31))] [kp [2,3,32] []]) (.cond (tm 32)
 (.seq (.reg [od 4 (.mv kF)] [kp [4] []]) .ret) .skip)) (.seq (.seq (.reg [od 33 (fa 2 2),od 34 (ld 1 33),od 35 (le 0 34),od 36 (.mv (ki 0))] [kp [3,34,35,36] []]) (.block 0 M1)) (.seq (.reg [od 4 (.mv kT)] [kp
 [4] []]) .ret))))
theorem Vb (h:∀ K:St→Prop,K=run P Γ M1 Q→run P Γ q1R (Am K Q) s):run P Γ M1 Q s:=Ae h
def q1T:List RV:=[.tmp 4]
/- probecard/memories.fits$1 (function 210) -/
abbrev Yy:IC:=(.seq (.reg [od 3 (.mv kF)] [kp [0,1] []]) (.seq (.reg [om 4 0,od 5 (le 0 4),od 6 (fa 1 1),od 7 (ld 1 6),od 8 (le 0 7),od 9 (.bin .neq (tm 5) (tm 8)),om 3 9] [kp [3] []]) .ret))
def Yz:List RV:=[.tmp 3]
/- probecard/memories.Check (function 82) -/
abbrev q0F:IC:=(.seq (.reg [od 3 (.box true (tm 0)),od 4 (.box true (tm 1)),od 6 (.mv (ki 0))] [kp [2,3,4] []]) (.seq (.seq (.reg [od 10 (lG 4 3),od 11 (.call 19 [(tm 10)]),om 7 11] [kp [2,3,4,7] []]) (.seq (.reg [om 12 7,od 13 (.bin
 .neq (tm 12) (ki 0))] [kp [2,3,4,7,13] []]) (.cond (tm 13) (.seq (.reg [om 14 7,om 6 14] [kp [6] []]) .ret) .skip))) (.seq (.reg [od 8 (.alloc false [.nilFunc]),on (.store 1 (tm 8) (.func 145))] [kp [2,3,4,8] [8]]) (.seq
 (.reg [od 15 (.mkf 147 [(tm 8)]),om 9 15] [kp [2,3,4,8,9] [8]]) (.seq (.block 0 (.seq (.reg [om 17 2,od 18 (le 0 17),od 19 (lG 4 3),od 20 (.call 56 [(tm 19)]),od 21 (le 0 20),od 22 (.bin .neq (tm 18) (tm 21)),om 23 22,
 oF 24 (lG 4 3) 23,oF 25 (lG 3 4) 23,oF 26 (.call 148 [(tm 24),(tm 25)]) 23,oF 27 (.un .not (tm 26)) 23,od 28 (.pick (tm 23) kT (tm 27)),om 16 28] [kp [2,4,8,9,16] [8]]) (.cond (tm 16) (.seq (.reg [od 6 (.mv (ki 8))] [kp
 [6] []]) .ret) (.seq (.reg [om 30 2,od 31 (ld 1 8),od 32 (.callv (tm 31) [(ku 3)]),od 33 (.call 101 [(tm 30),(tm 32)]),om 34 33,oF 35 (lG 3 4) 34,oF 36 (.call 149 [(tm 35)]) 34,oF 37 (.mv (tm 9)) 34,oF 38 (.call 103 [(tm
 36),(tm 37)]) 34,od 39 (.pick (tm 34) kT (tm 38)),om 29 39] [kp [29] []]) (.cond (tm 29) (.seq (.reg [od 6 (.mv (ki 1))] [kp [6] []]) .ret) .skip))))) (.seq (.reg [od 6 (.mv (ki 0))] [kp [6] []]) .ret))))))
def q0G:List RV:=[.tmp 6]
/- probecard/memories.Check$1 (function 145) -/
abbrev Wp:IC:=(.seq (.reg [od 1 (.box true (tm 0)),od 2 (.mv (.const .nilFunc))] [kp [1] []]) (.seq (.reg [od 3 (.mkf 146 [(tm 1)]),om 2 3] [kp [2] []]) .ret))
def Wq:List RV:=[.tmp 2]
/- probecard/memories.Check$1$1 (function 146) -/
abbrev S3:IC:=(.seq (.reg [od 3 (.mv kF)] [kp [0,1] []]) (.seq (.reg [om 4 0,od 5 (ld 1 1),od 6 (.bin .gtr (tm 4) (tm 5)),om 3 6] [kp [3] []]) .ret))
def S4:List RV:=[.tmp 3]
/- probecard/memories.Check$2 (function 147) -/
abbrev Ws:IC:=(.seq (.reg [od 3 (.mv kF)] [kp [0,1] []]) (.seq (.reg [om 4 0,od 5 (ld 1 1),od 6 (.callv (tm 5) [(ku 2)]),od 7 (.call 101 [(tm 4),(tm 6)]),om 3 7] [kp [3] []]) .ret))
def Wt:List RV:=[.tmp 3]
/- probecard/memories.Cycle (function 25) -/
abbrev q0H:IC:=.gh (.seq (.reg [od 49 (.bin .lss (tm 48) (tm 47))] [kp [3,4,6,7,11,46,47,48,49] [6,7,11,35,105,127]]) (.seq (.cond (tm 49) .skip (.exit 0)) (.seq (.block 1 (.seq (.reg [od 50 (ia 1 46 48),od 51 (ld 1 50),om 15 51]
 [kp [3,4,6,7,11,15,46,47,48] [6,7,11,35,105,127]]) (.seq (.reg [od 52 (fa 0 11),od 53 (fa 0 52),od 54 (ld 1 53),om 55 15,od 56 (ia 4 54 55),od 57 (lG 4 56),od 16 (.alloc false [(.int .u8 0),(.slice none 0 0),
 (.int .i64 0),(.int .i64 0)]),on (.store 4 (tm 16) (tm 57))] [kp [3,4,6,7,11,15,16,46,47,48] [6,7,11,16,35,105,127]]) (.seq (.reg [od 58 (fa 0 16),od 59 (ld 1 58),od 60 (.call 47 [(tm 59)])] [kp [3,4,6,7,11,
 15,16,46,47,48,60] [6,7,11,16,35,105,127]]) (.cond (tm 60) (.reg [od 61 (fa 4 11),od 62 (.ldR 11 1 false (tm 61)),om 63 15,od 64 (fa 0 16),od 65 (.ldR 16 1 false (tm 64)),od 66 (.ldR 11 5 true (tm 11)),od 67 (fa 1
 16),od 68 (.ldR 16 1 false (tm 67)),od 69 (.call 87 [(tm 66),(tm 68)]),od 70 (.call 86 [(tm 65),(tm 69)]),od 71 (ia 1 62 63),on (.stR 35 1 (tm 71) (tm 70))] [kp [3,4,6,7,11,46,47,48] [6,7,11,35,105,127]])
 .skip))))) (.reg [od 72 (.bin .add (tm 48) (ki 1)),om 48 72] [kp [3,4,6,7,11,46,47,48] [6,7,11,35,105,127]])))) [kp [3,4,6,7,11,46,47,48] [6,7,11,35,105,127]]
def K6:IC:=.loop q0H
abbrev q0I:IC:=.gh (.seq (.reg [od 87 (.bin .lss (tm 86) (tm 85))] [kp [4,6,7,11,17,18,84,85,86,87] [6,7,11,17,18,35,105,127]]) (.seq (.cond (tm 87) .skip (.exit 2)) (.seq (.block 3 (.seq (.reg [om 88 86,od 89 (ia 3 84 86),od 90
 (lG 3 89),od 20 (.alloc false [(.slice none 0 0),(.slice none 0 0),(.int .i64 0)]),om 19 88,on (.store 3 (tm 20) (tm 90))] [kp [4,6,7,11,17,18,19,20,84,85,86] [6,7,11,17,18,20,35,105,127]]) (.seq (.reg [od 91
 (lG 5 11),od 92 (fa 0 20),od 93 (ld 1 92),od 94 (.call 87 [(tm 91),(tm 93)]),om 21 94] [kp [4,6,7,11,17,18,19,20,21,84,85,86] [6,7,11,17,18,20,35,105,127]]) (.seq (.reg [od 95 (fa 2 18),od 96 (.ldR 18 1
 false (tm 95)),od 97 (fa 1 4),od 98 (.ldT 1 false (tm 97)),om 99 19,od 100 (ia 1 98 99),od 101 (.ldT 1 false (tm 100)),om 102 21,od 103 (.call 91 [(tm 101),(tm 102)]),od 104 (.bsl true 55 1 [(tm 103)]),od 105 (.app false
 55 1 (tm 96) (tm 104)),od 106 (fa 2 18),on (.stR 18 1 (tm 106) (tm 105))] [kp [4,6,7,11,17,18,19,20,21,84,85,86] [6,7,11,17,18,20,35,105,127]]) (.reg [od 107 (fa 1 18),od 108 (.ldR 18 1 false (tm 107)),od 109
 (fa 1 4),od 110 (.ldT 1 false (tm 109)),om 111 19,od 112 (ia 1 110 111),od 113 (.ldT 1 false (tm 112)),om 114 21,od 115 (.ldR 11 5 true (tm 11)),od 116 (fa 1 20),od 117 (.ldR 20 1 false (tm 116)),od 118 (.call 87 [(tm
 115),(tm 117)]),od 119 (fa 4 11),od 120 (.ldR 11 1 false (tm 119)),od 121 (fa 2 20),od 122 (.ldR 20 1 false (tm 121)),od 123 (ia 1 120 122),od 124 (.ldT 1 false (tm 123)),od 125 (.call 92 [(tm 113),(tm 114),(tm 118),(tm
 124)]),od 126 (.bsl true 57 1 [(tm 125)]),od 127 (.app false 57 1 (tm 108) (tm 126)),od 128 (fa 1 18),on (.stR 18 1 (tm 128) (tm 127))] [kp [4,6,7,11,17,18,84,85,86] [6,7,11,17,18,35,105,127]]))))) (.reg [od 129
 (.bin .add (tm 86) (ki 1)),om 86 129] [kp [4,6,7,11,17,18,84,85,86] [6,7,11,17,18,35,105,127]])))) [kp [4,6,7,11,17,18,84,85,86] [6,7,11,17,18,35,105,127]]
def K7:IC:=.loop q0I
abbrev q0J:IC:=(.seq (.reg [od 3 (.box true (tm 0)),od 4 (.box true (tm 1)),od 6 (.alloc false [(.slice none 0 0),(.slice none 0 0),(.slice none 0 0)]),od 7 (.alloc false [(.slice none 0 0),(.slice none 0 0)]),od 8 (.mv kN),od 9 (.mv (ki
 0))] [kp [2,3,4,6,7] [6,7,105,127]]) (.seq (.seq (.reg [od 22 (lG 4 3),od 23 (lG 3 4),om 24 2,od 25 (.call 82 [(tm 22),(tm 23),(tm 24)]),om 10 25] [kp [2,3,4,6,7,10] [6,7,105,127]]) (.seq (.reg [om 26 10,od 27
 (.bin .neq (tm 26) (ki 0))] [kp [2,3,4,6,7,10,27] [6,7,105,127]]) (.cond (tm 27) (.seq (.reg [od 28 (.build [(1,kN),(1,kN),(1,kN)]),od 29 (.build [(1,kN),(1,kN)]),om 30 10,on (.store 3 (tm 6) (tm 28)),on
 (.store 2 (tm 7) (tm 29)),od 8 (.mv kN),om 9 30] [kp [6,7,8,9] [6,7,35,105,127]]) .ret) .skip))) (.seq (.reg [od 31 (.ldT 4 true (tm 3)),od 32 (fa 0 3),od 33 (.ldT 1 false (tm 32)),od 34 (le 0 33),od 35 (.mkE 71 1
 [(.int .u8 0)] (tm 34) (tm 34)),od 36 (.build [(4,(tm 31)),(1,(tm 35))]),od 11 (.alloc false [(.slice none 0 0),(.slice none 0 0),(.slice none 0 0),(.slice none 0 0),(.slice none 0 0)]),on (.stR 11 5 (tm 11) (tm 36))] [kp
 [2,3,4,6,7,11] [6,7,11,35,105,127]]) (.seq (.reg [od 37 (lG 5 11),od 38 (lG 3 4),om 39 2,od 40 (.hcall 84 [(tm 37),(tm 38),(tm 39)] [35] 40000)] [kp [3,4,6,7,11] [6,7,11,35,105,127]]) (.seq (.reg [od 42 (lG
 4 3),od 43 (.call 85 [(tm 42)]),om 41 43,od 44 (ex 41 0),od 45 (ex 41 1),om 12 44,om 13 45] [kp [3,4,6,7,11,12] [6,7,11,35,105,127]]) (.seq (.seq (.reg [om 46 12,od 47 (le 0 46),od 48 (.mv (ki 0))] [kp [3,4,6,
 7,11,46,47,48] [6,7,11,35,105,127]]) (.gh (.block 0 K6) [.frz 35])) (.seq (.reg [od 73 (lG 4 3),od 74 (fa 4 11),od 75 (ld 1 74),od 76 (.call 88 [(tm 73),(tm 75)]),od 17 (.alloc false [(.slice none 0 0),
 (.slice none 0 0)]),on (.store 2 (tm 17) (tm 76))] [kp [4,6,7,11,17] [6,7,11,17,35,105,127]]) (.seq (.reg [od 77 (fa 1 17),od 78 (ld 1 77),od 79 (.call 90 [(tm 78)]),od 80 (.call 89 [(tm 79)]),od 81 (.build [(1,(tm
 80)),(1,kN),(1,kN)]),od 18 (.alloc false [(.slice none 0 0),(.slice none 0 0),(.slice none 0 0)]),on (.store 3 (tm 18) (tm 81))] [.nlb 18 1 127 57 1,.nlb 18 2 105 55 1,kp [4,6,7,11,17,18] [6,7,11,17,18,35,105,
 127]]) (.seq (.seq (.reg [od 82 (fa 0 11),od 83 (fa 2 82),od 84 (ld 1 83),od 85 (le 0 84),od 86 (.mv (ki 0))] [kp [4,6,7,11,17,18,84,85,86] [6,7,11,17,18,35,105,127]]) (.gh (.block 2 K7) [.frz 127,
 .frz 105])) (.seq (.reg [od 130 (fa 1 18),od 131 (.ldR 18 1 false (tm 130)),od 132 (.call 93 [(tm 131)]),od 133 (fa 2 18),od 134 (.ldR 18 1 false (tm 133)),od 135 (.call 94 [(tm 134)]),od 136 (fa 1 18),on (.stR 18 1 (tm 136)
 (tm 132)),od 137 (fa 2 18),on (.stR 18 1 (tm 137) (tm 135))] [kp [6,7,11,17,18] [6,7,11,17,18,35,105,127]]) (.seq (.reg [od 138 (.ldR 18 3 true (tm 18)),od 139 (.ldR 17 2 true (tm 17)),od 140 (fa 4 11),od 141 (.ldR
 11 1 false (tm 140)),on (.stR 6 3 (tm 6) (tm 138)),on (.stR 7 2 (tm 7) (tm 139)),om 8 141,od 9 (.mv (ki 0))] [kp [6,7,8,9] [6,7,35,105,127]]) .ret)))))))))))
theorem S5 (h:∀ K:St→Prop,K=run P Γ K6 Q→run P Γ q0H (Am K Q) s):run P Γ K6 Q s:=Ae h
theorem S7 (h:∀ K:St→Prop,K=run P Γ K7 Q→run P Γ q0I (Am K Q) s):run P Γ K7 Q s:=Ae h
def q0K:List RV:=[.cell 6 3 true,.cell 7 2 true,.tmp 8,.tmp 9]
/- probecard/memories.Blank (function 29) -/
abbrev q0L:IC:=.gh (.seq (.reg [od 32 (.bin .lss (tm 31) (tm 30))] [kp [2,3,5,6,18,19,20,30,31,32] [2,3,5,28,46,55]]) (.seq (.cond (tm 32) .skip (.exit 2)) (.seq (.block 3 (.seq (.reg [om 33 31,om 7 33] [kp [2,3,5,6,7,18,19,
 20,30,31] [2,3,5,28,46,55]]) (.reg [om 34 6,om 35 7,od 36 (fa 1 5),od 37 (ld 1 36),od 38 (le 0 37),od 39 (.call 97 [(tm 38)]),od 40 (ia 1 34 35),on (.store 1 (tm 40) (tm 39))] [kp [2,3,5,6,18,19,20,30,31] [2,
 3,5,28,46,55]]))) (.reg [od 41 (.bin .add (tm 31) (ki 1)),om 31 41] [kp [2,3,5,6,18,19,20,30,31] [2,3,5,28,46,55]])))) [kp [2,3,5,6,18,19,20,30,31] [2,3,5,28,46,55]]
def K8:IC:=.loop q0L
abbrev q0M:IC:=.gh (.seq (.reg [od 21 (.bin .lss (tm 20) (tm 19))] [kp [2,3,18,19,20,21] [2,3,46,55]]) (.seq (.cond (tm 21) .skip (.exit 0)) (.seq (.block 1 (.seq (.reg [od 22 (ia 3 18 20),od 23 (lG 3 22),od 5 (.alloc false [(.slice
 none 0 0),(.slice none 0 0),(.int .i64 0)]),on (.store 3 (tm 5) (tm 23))] [kp [2,3,5,18,19,20] [2,3,5,46,55]]) (.seq (.reg [od 24 (fa 0 5),od 25 (ld 1 24),od 26 (le 0 25),od 27 (.bin .shl (ki 1) (tm 26)),od 28 (.mk
 55 1 [(.slice none 0 0)] (tm 27) (tm 27)),om 6 28] [kp [2,3,5,6,18,19,20] [2,3,5,28,46,55]]) (.seq (.seq (.reg [om 29 6,od 30 (le 0 29),od 31 (.mv (ki 0))] [kp [2,3,5,6,18,19,20,30,31] [2,3,5,28,46,55]])
 (.gh (.block 2 K8) [.frz 28])) (.seq (.reg [od 42 (fa 1 3),od 43 (ld 1 42),om 44 6,od 45 (.bsl true 57 1 [(tm 44)]),od 46 (.app false 57 1 (tm 43) (tm 45)),od 47 (fa 1 3),on (.store 1 (tm 47) (tm 46))] [kp [2,
 3,5,18,19,20] [2,3,5,46,55]]) (.reg [od 48 (fa 2 3),od 49 (.ldR 3 1 false (tm 48)),od 50 (fa 1 5),od 51 (.ldR 5 1 false (tm 50)),od 52 (le 0 51),od 53 (.call 97 [(tm 52)]),od 54 (.bsl true 55 1 [(tm 53)]),od 55 (.app
 false 55 1 (tm 49) (tm 54)),od 56 (fa 2 3),on (.stR 3 1 (tm 56) (tm 55))] [kp [2,3,18,19,20] [2,3,46,55]])))))) (.reg [od 57 (.bin .add (tm 20) (ki 1)),om 20 57] [kp [2,3,18,19,20] [2,3,46,55]])))) [kp [2,3,18,
 19,20] [2,3,46,55]]
def K9:IC:=.loop q0M
abbrev q0N:IC:=(.seq (.reg [od 1 (.box true (tm 0)),od 2 (.alloc false [(.slice none 0 0),(.slice none 0 0),(.slice none 0 0)])] [kp [1,2] [2,46,55]]) (.seq (.seq (.reg [od 8 (lG 4 1),od 9 (.call 19 [(tm 8)]),od 10 (.bin .neq (tm 9) (ki
 0))] [kp [1,2,10] [2,46,55]]) (.cond (tm 10) (.seq (.reg [od 11 (.build [(1,kN),(1,kN),(1,kN)]),on (.store 3 (tm 2) (tm 11))] [kp [2] [2,46,55]]) .ret) .skip)) (.seq (.reg [od 12 (lG 4 1),od 13 (.call 18 [(tm 12)]),od
 14 (le 0 13),od 15 (.call 97 [(tm 14)]),od 16 (.build [(1,(tm 15)),(1,kN),(1,kN)]),od 3 (.alloc false [(.slice none 0 0),(.slice none 0 0),(.slice none 0 0)]),on (.store 3 (tm 3) (tm 16))] [.nlb 3 1 46 57 1,.nlb 3 2 55
 55 1,kp [1,2,3] [2,3,46,55]]) (.seq (.seq (.reg [od 17 (fa 2 1),od 18 (ld 1 17),od 19 (le 0 18),od 20 (.mv (ki 0))] [kp [2,3,18,19,20] [2,3,46,55]]) (.gh (.block 0 K9) [.frz 46,.frz 55])) (.seq (.reg
 [od 58 (fa 1 3),od 59 (.ldR 3 1 false (tm 58)),od 60 (.call 93 [(tm 59)]),od 61 (fa 2 3),od 62 (.ldR 3 1 false (tm 61)),od 63 (.call 94 [(tm 62)]),od 64 (fa 1 3),on (.stR 3 1 (tm 64) (tm 60)),od 65 (fa 2 3),on (.stR 3 1
 (tm 65) (tm 63))] [kp [2,3] [2,3,46,55]]) (.seq (.reg [od 66 (lG 3 3),on (.store 3 (tm 2) (tm 66))] [kp [2] [2,46,55]]) .ret))))))
theorem S8 (h:∀ K:St→Prop,K=run P Γ K8 Q→run P Γ q0L (Am K Q) s):run P Γ K8 Q s:=Ae h
theorem S9 (h:∀ K:St→Prop,K=run P Γ K9 Q→run P Γ q0M (Am K Q) s):run P Γ K9 Q s:=Ae h
def q0O:List RV:=[.cell 2 3 true]
/- slices.Clip[[][][]probecard/api.Value,[][]probecard/api.Value] (function 93) -/
abbrev Ll:IC:=(.seq (.reg [od 2 (.mv kN)] [kp [0] []]) (.seq (.reg [om 3 0,om 4 0,od 5 (le 0 4),om 6 0,od 7 (le 0 6),od 8 (.slice 1 (tm 3) none (some (tm 5)) (some (tm 7))),om 2 8] [kp [2] []]) .ret))
def Lm:List RV:=[.tmp 2]
/- slices.Grow[[][]probecard/api.Value,[]probecard/api.Value] (function 142) -/
abbrev N9:IC:=(.seq (.reg [od 4 (.mv kN)] [kp [0,1] [22]]) (.seq (.seq (.reg [om 5 1,od 6 (.bin .lss (tm 5) (ki 0))] [kp [0,1,6] [22]]) (.cond (tm 6) .dead .skip)) (.seq (.seq (.reg [om 8 1,om 9 0,od 10 (.cap (tm 9)),om 11 0,od 12 (le 0
 11),od 13 (.bin .sub (tm 10) (tm 12)),od 14 (.bin .sub (tm 8) (tm 13)),om 1 14] [kp [0,1] [22]]) (.seq (.reg [om 15 1,od 16 (.bin .gtr (tm 15) (ki 0))] [kp [0,1,16] [22]]) (.cond (tm 16) (.reg [om 17 0,om 18 0,od 19 (.cap
 (tm 18)),od 20 (.slice 1 (tm 17) none (some (tm 19)) none),om 21 1,od 22 (.appZ 55 1 [(.slice none 0 0)] (tm 20) (tm 21)),om 23 0,od 24 (le 0 23),od 25 (.slice 1 (tm 22) none (some (tm 24)) none),om 0 25] [kp [0] [22]])
 .skip))) (.seq (.reg [om 26 0,om 4 26] [kp [4] [22]]) .ret))))
def Na:List RV:=[.tmp 4]
/- slices.Concat[[][]probecard/api.Value,[]probecard/api.Value] (function 80) -/
abbrev Ko:IC:=.gh (.seq (.reg [od 12 (.bin .lss (tm 11) (tm 10))] [kp [0,3,9,10,11,12] []]) (.seq (.cond (tm 12) .skip (.exit 0)) (.seq (.block 1 (.seq (.reg [od 13 (ia 1 9 11),od 14 (ld 1 13),om 5 14] [kp [0,3,5,9,10,11] []]) (.seq
 (.reg [om 15 3,om 16 5,od 17 (le 0 16),od 18 (.bin .add (tm 15) (tm 17)),om 3 18] [kp [0,3,9,10,11] []]) (.seq (.reg [om 19 3,od 20 (.bin .lss (tm 19) (ki 0))] [kp [0,3,9,10,11,20] []]) (.cond (tm 20) .dead .skip)))))
 (.reg [od 22 (.bin .add (tm 11) (ki 1)),om 11 22] [kp [0,3,9,10,11] []])))) [kp [0,3,9,10,11] []]
def E1:IC:=.loop Ko
abbrev Kp:IC:=.gh (.seq (.reg [od 28 (.bin .lss (tm 27) (tm 26))] [kp [6,25,26,27,28] [24022]]) (.seq (.cond (tm 28) .skip (.exit 2)) (.seq (.block 3 (.seq (.reg [od 29 (ia 1 25 27),od 30 (ld 1 29),om 8 30] [kp [6,8,25,26,27] [24022]])
 (.reg [om 31 6,om 32 8,oz 33 (.app false 55 1 (tm 31) (tm 32)) 24022,om 6 33] [kp [6,25,26,27] [24022]]))) (.reg [od 34 (.bin .add (tm 27) (ki 1)),om 27 34] [kp [6,25,26,27] [24022]])))) [kp [6,25,26,27] [24022]]
def E2:IC:=.loop Kp
abbrev Kq:IC:=(.seq (.reg [od 2 (.mv kN)] [kp [0] []]) (.seq (.reg [od 3 (.mv (ki 0))] [kp [0,3] []]) (.seq (.seq (.reg [om 9 0,od 10 (le 0 9),od 11 (.mv (ki 0))] [kp [0,3,9,10,11] []]) (.block 0 E1)) (.seq (.reg
 [om 23 3,od 24 (.hcall 142 [kN,(tm 23)] [] 24000),om 6 24] [kp [0,6] [24022]]) (.seq (.seq (.reg [om 25 0,od 26 (le 0 25),od 27 (.mv (ki 0))] [kp [6,25,26,27] [24022]]) (.block 2 E2)) (.seq (.reg
 [om 35 6,om 2 35] [kp [2] [24022]]) .ret))))))
theorem Hi (h:∀ K:St→Prop,K=run P Γ E1 Q→run P Γ Ko (Am K Q) s):run P Γ E1 Q s:=Ae h
theorem Hj (h:∀ K:St→Prop,K=run P Γ E2 Q→run P Γ Kp (Am K Q) s):run P Γ E2 Q s:=Ae h
def Kr:List RV:=[.tmp 2]
/- slices.ContainsFunc[[][]probecard/api.Value,[]probecard/api.Value] (function 103) -/
abbrev Gt:IC:=(.seq (.reg [od 4 (.mv kF)] [kp [0,1] []]) (.seq (.reg [om 5 0,om 6 1,od 7 (.call 172 [(tm 5),(tm 6)]),od 8 (.bin .geq (tm 7) (ki 0)),om 4 8] [kp [4] []]) .ret))
def Gu:List RV:=[.tmp 4]
/- slices.IndexFunc[[][]probecard/api.Value,[]probecard/api.Value] (function 172) -/
abbrev I7:IC:=.gh (.seq (.reg [od 9 (.bin .lss (tm 8) (tm 7))] [kp [0,1,7,8,9] []]) (.seq (.cond (tm 9) .skip (.exit 0)) (.seq (.block 1 (.seq (.reg [om 10 8,om 5 10] [kp [0,1,5,7,8] []]) (.seq (.reg [om 11 1,om 12 0,om 13 5,od 14
 (ia 1 12 13),od 15 (ld 1 14),od 16 (.callv (tm 11) [(tm 15)])] [kp [0,1,5,7,8,16] []]) (.cond (tm 16) (.seq (.reg [om 17 5,om 4 17] [kp [4] []]) .ret) .skip)))) (.reg [od 18 (.bin .add (tm 8) (ki 1)),om 8 18] [kp [0,1,7,
 8] []])))) [kp [0,1,7,8] []]
def D7:IC:=.loop I7
abbrev I8:IC:=(.seq (.reg [od 4 (.mv (ki 0))] [kp [0,1] []]) (.seq (.seq (.reg [om 6 0,od 7 (le 0 6),od 8 (.mv (ki 0))] [kp [0,1,7,8] []]) (.block 0 D7)) (.seq (.reg [od 4 (.mv (.const (.int .i64 (-1))))] [kp
 [4] []]) .ret)))
theorem Gj (h:∀ K:St→Prop,K=run P Γ D7 Q→run P Γ I7 (Am K Q) s):run P Γ D7 Q s:=Ae h
def I9:List RV:=[.tmp 4]
end
end Go.Lg
namespace Go.Lg
open Go Go.Proofs
theorem q3o:Ao Tryz.prog 162 Wi 27 2 Nr=true:=by kernel_rfl
theorem q88:Ao Tryz.prog 163 Vx 14 2 Vy=true:=by kernel_rfl
theorem q4l:Ao Tryz.prog 164 Ox 9 2 Oy=true:=by kernel_rfl
theorem q7C:Ao Tryz.prog 91 Tz 55 2 U0=true:=by kernel_rfl
theorem q64:Ao Tryz.prog 92 Qs 96 4 Qu=true:=by kernel_rfl
theorem q3p:Ao Tryz.prog 165 Wj 6 1 Wl=true:=by kernel_rfl
theorem q3q:Ao Tryz.prog 97 Wm 6 1 Wn=true:=by kernel_rfl
theorem Xm:Ao Tryz.prog 87 Lh 27 2 Lj=true:=by kernel_rfl
theorem Zl:Ao Tryz.prog 84 O7 83 3 O8=true:=by kernel_rfl
theorem q65:Ao Tryz.prog 149 q0D 24 1 q0E=true:=by kernel_rfl
theorem q4m:Ao Tryz.prog 149 Yw 24 1 Yx=true:=by kernel_rfl
theorem q2z:Ao Tryz.prog 97 V9 6 1 Va=true:=by kernel_rfl
theorem q7D:Ao Tryz.prog 148 q1S 72 2 q1T=true:=by kernel_rfl
theorem q4n:Ao Tryz.prog 210 Yy 10 2 Yz=true:=by kernel_rfl
theorem q66:Ao Tryz.prog 82 q0F 40 3 q0G=true:=by kernel_rfl
theorem q3r:Ao Tryz.prog 145 Wp 4 1 Wq=true:=by kernel_rfl
theorem q2C:Ao Tryz.prog 146 S3 7 2 S4=true:=by kernel_rfl
theorem q3s:Ao Tryz.prog 147 Ws 8 2 Wt=true:=by kernel_rfl
theorem q67:Ao Tryz.prog 25 q0J 142 3 q0K=true:=by kernel_rfl
theorem q68:Ao Tryz.prog 29 q0N 67 1 q0O=true:=by kernel_rfl
theorem Xn:Ao Tryz.prog 93 Ll 9 1 Lm=true:=by kernel_rfl
theorem Z0:Ao Tryz.prog 142 N9 27 2 Na=true:=by kernel_rfl
theorem Vz:Ao Tryz.prog 80 Kq 36 1 Kr=true:=by kernel_rfl
theorem P0:Ao Tryz.prog 103 Gt 9 2 Gu=true:=by kernel_rfl
theorem Rm:Ao Tryz.prog 172 I8 19 2 I9=true:=by kernel_rfl
end Go.Lg
namespace Go.Lg
open Go
section
variable {P:Program} {Γ:Tables} {Q:AX→St→Prop} {s:St}
/- probecard/logic.Below (function 98) -/
abbrev q3t:IC:=(.seq (.reg [od 4 (.mv kF)] [kp [0,1] []]) (.seq (.reg [om 5 0,od 6 (.call 140 [(tm 5)]),om 7 1,od 8 (.call 140 [(tm 7)]),om 0 6,om 1 8] [kp [0,1] []]) (.seq (.reg [om 9 0,om 10 1,od 11 (.bin .eql (tm 9) (tm 10)),om 12
 11,oF 13 (.mv (tm 0)) 12,oF 14 (.bin .eql (tm 13) (ku 2)) 12,od 15 (.pick (tm 12) kT (tm 14)),om 4 15] [kp [4] []]) .ret)))
def q3u:List RV:=[.tmp 4]
end
end Go.Lg
namespace Go.Lg
open Go Go.Proofs
theorem q9D:Ao Tryz.prog 98 q3t 16 2 q3u=true:=by kernel_rfl
end Go.Lg
namespace Go.Lg
open Go Go.Proofs
variable {Γ:Tables}
theorem qFD (a b:Int):A3 Tryz.prog Γ 98 [tK a,tK b] (tB (qCa a b)):=by
 refine A7 q9D rfl ?_
 simp [q3t]
 refine A1 (Yo a) rfl ?_
 simp
 refine A1 (Yo b) rfl ?_
 simp
 by_cases h:Dw a=Dw b <;> simp [q3u,Au,qCa,h]
end Go.Lg
namespace Go.Lg
open Go Go.Proofs
structure NG (B:Bool) (ns:List Nd) (i:Nat) (x:Nd):Prop where
 k:0≤x.k∧x.k≤15
 f:(Vs x.k).1≤x.inn.l.length∧(x.inn.l.length:Int)≤(Vs x.k).2
 inn:∀ p ∈ x.inn.l,0≤p∧p<ns.length
 top:1≤x.k∧x.k≤13→∀ p ∈ x.inn.l,p<i
 bus:x.k=13→∀ p ∈ x.inn.l,(ns.getD p.toNat Nd.d).k=12
 mm:(x.k ≠ 15→x.mem=0∧x.bit=0)∧(x.k=15→B=true∧x.mem=0∧0≤x.bit∧x.bit≤1)
theorem NG.mono {B:Bool} {ns ys:List Nd} {i:Nat} {x:Nd} (h:NG B ns i x):NG B (ns++ys) i x :=
 ⟨h.k,h.f,fun p hp=>by have:=h.inn p hp; simp; omega,h.top,fun hk p hp=>by
  have h1:=h.inn p hp
  rw [List.getD_eq_getElem?_getD,List.getElem?_append_left (by omega),← List.getD_eq_getElem?_getD]
  exact h.bus hk p hp,h.mm⟩
def GNs (B:Bool) (ns:List Nd):Prop:=∀ i (h:i<ns.length),NG B ns i ns[i]
theorem GNs.add {B:Bool} {ns:List Nd} {y:Nd} (h:GNs B ns) (hy:NG B (ns++[y]) ns.length y):GNs B (ns++[y]):=by
 intro i hi
 by_cases h1:i<ns.length
 ·rw [List.getElem_append_left h1]; exact (h i h1).mono
 ·have:i=ns.length:=by simp at hi; omega
  subst this
  simpa using hy
theorem U1:Vs 0=(0,0)∧Vs 1=(0,0)∧Vs 2=(0,0)∧Vs 3=(1,1)∧Vs 4=(1,1)∧Vs 5=(2,16)∧Vs 6=(2,16)∧Vs 7=(2,16)∧Vs 8=(2,16)∧Vs 9=(2,16)∧Vs 10=(2,16)∧Vs 11=(3,3)∧Vs 12=(2,2)∧Vs 13=(1,16)∧Vs 14=(1,1)∧Vs 15=(0,0):=by decide
theorem qMM {B:Bool} {ns:List Nd} {i:Nat}:NG B ns i q94:=⟨by decide,by decide,by simp [q94],by simp [q94],by simp [q94],by simp [q94]⟩
theorem qMN {B:Bool} {ns:List Nd} {i:Nat} {v:Int} (h:0≤v∧v<ns.length):NG B ns i (q7y v):=⟨by simp [q7y],by simp [q7y,U1],by simp [q7y]; exact h,by simp [q7y],by simp [q7y],by simp [q7y]⟩
theorem qIj {ns:List Nd} {i:Nat} {b:Int} (h:b=0∨b=1):NG true ns i (q5w b):=⟨by simp [q5w],by simp [q5w,U1],by simp [q5w],by simp [q5w],by simp [q5w],by simp [q5w]; omega⟩
theorem qMO {ns:List Nd}:∀ p ∈ q6s ns,0≤p∧p<ns.length∧(ns.getD p.toNat Nd.d).k=12:=by
 intro p hp
 obtain ⟨h1,h2,h3⟩:=q6r [12] ns 0 p hp
 refine ⟨by omega,by omega,?_⟩
 simpa using h3
theorem qGK {l:List Int} {q:Nat} (h:q<l.length):l.getD q 0 ∈ l:=by
 rw [List.getD_eq_getElem?_getD,List.getElem?_eq_getElem h]; exact List.getElem_mem h
theorem qKK {B bus:Bool} {g:Gd} {ns:List Nd} (hg:qCZ g) (h0:1≤ns.length):NG B (ns++[q6t bus g ns]) ns.length (q6t bus g ns):=by
 have a:=D1 (n:=ns.length) hg.2.1.1 (by omega)
 have b:=D1 (n:=ns.length) hg.2.2.1.1 (by omega)
 have d:=D1 (n:=ns.length) hg.2.2.2.1 (by omega)
 have m13:0≤g.k.tmod 13∧g.k.tmod 13<13:=D1 (n:=13) hg.1.1 (by omega)
 have m9:0≤g.k.tmod 9∧g.k.tmod 9<9:=D1 (n:=9) hg.1.1 (by omega)
 have ma:0≤g.a.tmod 2∧g.a.tmod 2<2:=D1 (n:=2) hg.2.1.1 (by omega)
 have hkk:0≤(if bus then g.k.tmod 13 else g.k.tmod 9)∧(if bus then g.k.tmod 13 else g.k.tmod 9)<13:=by cases bus <;> simp <;> omega
 have ht:=qMO (ns:=ns)
 obtain ⟨y,hy⟩:∃ y,y=q6t bus g ns:=⟨_,rfl⟩
 rw [← hy]
 have hlen:(ns++[y]).length=ns.length+1:=by simp
 have old:∀ p:Int,0≤p→p<ns.length→((ns++[y]).getD p.toNat Nd.d).k=(ns.getD p.toNat Nd.d).k:=fun p h1 h2=>by
  rw [List.getD_eq_getElem?_getD,List.getElem?_append_left (by omega),← List.getD_eq_getElem?_getD]
 -- what suffices of a plain gate
 have mk:∀ (k:Int) (l:List Int) (cap:Option Nat) (nl:Option Bool),0≤k→k≤15→k ≠ 13→k ≠ 15→(Vs k).1≤l.length→(l.length:Int)≤(Vs k).2→(∀ p ∈ l,0≤p∧p<ns.length)→NG B (ns++[y]) ns.length ⟨k,⟨l,cap,nl⟩,0,0⟩:=fun k l cap nl h1 h2 h3 h4 h5 h6 h7 =>
  ⟨⟨h1,h2⟩,⟨h5,h6⟩,fun p hp=>by have:=h7 p hp; omega,fun _ p hp=>(h7 p hp).2,fun e=>absurd e h3,fun _=>⟨rfl,rfl⟩,fun e=>absurd e h4⟩
 unfold q6t qDb at hy
 simp only at hy
 generalize g.a.tmod ns.length=a' at *
 generalize g.b.tmod ns.length=b' at *
 generalize g.d.tmod ns.length=d' at *
 generalize (if bus=true then g.k.tmod 13 else g.k.tmod 9)=kk at *
 have two:∀ p ∈ [a',b'],0≤p∧p<ns.length:=by intro p hp; simp at hp; rcases hp with rfl | rfl; exact a; exact b
 have three:∀ p ∈ [a',b',d'],0≤p∧p<ns.length:=by intro p hp; simp at hp; rcases hp with rfl | rfl | rfl; exact a; exact b; exact d
 have one:∀ p ∈ [a'],0≤p∧p<ns.length:=by intro p hp; simp at hp; rcases hp with rfl; exact a
 split at hy
 ·rename_i h6
  have hc:kk=0∨kk=1∨kk=2∨kk=3∨kk=4∨kk=5:=by omega
  split at hy
  ·rw [hy]
   have hf:(Vs (5+kk)).1=2∧(Vs (5+kk)).2=16:=by rcases hc with rfl | rfl | rfl | rfl | rfl | rfl <;> decide
   rw [← hy]
   have:=mk (5+kk) [a',b',d'] none none (by omega) (by omega) (by omega) (by omega) (by rw [hf.1]; simp) (by rw [hf.2]; simp) three
   rw [← hy] at this; exact this
  ·have hf:(Vs (5+kk)).1=2∧(Vs (5+kk)).2=16:=by rcases hc with rfl | rfl | rfl | rfl | rfl | rfl <;> decide
   have:=mk (5+kk) [a',b'] none none (by omega) (by omega) (by omega) (by omega) (by rw [hf.1]; simp) (by rw [hf.2]; simp) two
   rw [← hy] at this; exact this
 split at hy
 ·have:=mk 4 [a'] none none (by omega) (by omega) (by omega) (by omega) (by simp [U1]) (by simp [U1]) one
  rw [← hy] at this; exact this
 split at hy
 ·have:=mk 11 [a',b',d'] none none (by omega) (by omega) (by omega) (by omega) (by simp [U1]) (by simp [U1]) three
  rw [← hy] at this; exact this
 split at hy
 ·have:=mk 12 [a',b'] none none (by omega) (by omega) (by omega) (by omega) (by simp [U1]) (by simp [U1]) two
  rw [← hy] at this; exact this
 split at hy
 ·rename_i ht2
  generalize q6s ns=t at *
  have mt:=D1 (n:=t.length) hg.2.1.1 ht2.2
  have mt2:=D1 (a:=g.a.tmod t.length+1) (n:=t.length) (by omega) ht2.2
  have q1:=ht _ (qGK (l:=t) (q:=(g.a.tmod t.length).toNat) (by omega))
  have q2:=ht _ (qGK (l:=t) (q:=((g.a.tmod t.length+1).tmod t.length).toNat) (by omega))
  generalize t.getD (g.a.tmod t.length).toNat 0=u1 at *
  generalize t.getD ((g.a.tmod t.length+1).tmod t.length).toNat 0=u2 at *
  have mkb:∀ (l:List Int) (cap:Option Nat) (nl:Option Bool),1≤l.length→l.length≤16→(∀ p ∈ l,0≤p∧p<ns.length∧(ns.getD p.toNat Nd.d).k=12)→NG B (ns++[y]) ns.length ⟨13,⟨l,cap,nl⟩,0,0⟩:=fun l cap nl h5 h6 h7 =>
   ⟨by simp,⟨by simp [U1]; omega,by simp [U1]; omega⟩,fun p hp=>by have:=h7 p hp; omega,fun _ p hp=>(h7 p hp).2.1,fun _ p hp=>by rw [old p (h7 p hp).1 (h7 p hp).2.1]; exact (h7 p hp).2.2,fun _=>⟨rfl,rfl⟩,fun e=>by simp at e⟩
  split at hy
  ·have:=mkb [u1,u2] none none (by simp) (by simp) (by intro p hp; simp at hp; rcases hp with rfl | rfl; exact q1; exact q2)
   rw [← hy] at this; exact this
  ·have:=mkb [u1] none none (by simp) (by simp) (by intro p hp; simp at hp; rcases hp with rfl; exact q1)
   rw [← hy] at this; exact this
 split at hy
 ·have hc:g.a.tmod 2=0∨g.a.tmod 2=1:=by omega
  have hf:(Vs (1+g.a.tmod 2)).1=0∧(Vs (1+g.a.tmod 2)).2=0:=by rcases hc with e | e <;> rw [e] <;> decide
  have:=mk (1+g.a.tmod 2) [] (some 0) (some true) (by omega) (by omega) (by omega) (by omega) (by rw [hf.1]; simp) (by rw [hf.2]; simp) (by simp)
  rw [← hy] at this; exact this
 ·have:=mk 3 [a'] none none (by omega) (by omega) (by omega) (by omega) (by simp [U1]) (by simp [U1]) one
  rw [← hy] at this; exact this
theorem qBy {B bus:Bool}:∀ {l:List Gd} {ns:List Nd},(∀ g ∈ l,qCZ g)→1≤ns.length→GNs B ns→GNs B (Tm bus l ns)
 | [],ns,_,_,h=>h
 | g::l,ns,hg,h0,h=>by
  simp only [Tm]
  exact qBy (fun y hy=>hg y (List.mem_cons_of_mem _ hy)) (by simp) (h.add (qKK (hg g List.mem_cons_self) h0))
theorem qKL {B:Bool} {ns:List Nd} {j:Nat} {v:Int} (h:GNs B ns) (hj:j<ns.length) (hk:ns[j].k=14) (hv:0≤v∧v<ns.length):GNs B (W8 ns j v):=by
 have hm:=(h j hj).mm.1 (by rw [hk]; decide)
 have hgd:ns.getD j Nd.d=ns[j]:=by simp [List.getD_eq_getElem?_getD,hj]
 have kinds:∀ q:Nat,((W8 ns j v).getD q Nd.d).k=(ns.getD q Nd.d).k:=fun q=>by
  unfold W8
  simp only [List.getD_eq_getElem?_getD,List.getElem?_set]
  split
  ·rename_i e; subst e; simp [hj]
  ·rfl
 intro i hi
 have hi':i<ns.length:=by rw [Pn] at hi; exact hi
 by_cases hij:i=j
 ·subst hij
  have:(W8 ns i v)[i]=⟨14,⟨[v],some 1,some false⟩,0,0⟩:=by
   simp only [W8,hgd,hk,hm.1,hm.2,List.getElem_set_self]
  rw [this]
  exact ⟨by simp,by simp [U1],by simp [Pn]; exact hv,by simp,by simp,by simp⟩
 ·have:(W8 ns j v)[i]=ns[i]:=by
   simp only [W8]
   rw [List.getElem_set_ne (fun e=>hij e.symm)]
  rw [this]
  have hn:=h i hi'
  exact ⟨hn.k,hn.f,fun p hp=>by rw [Pn]; exact hn.inn p hp,hn.top,fun hk p hp=>by rw [kinds]; exact hn.bus hk p hp,hn.mm⟩
theorem qFE {ns:List Nd} {j q:Nat} {v:Int}:((W8 ns j v).getD q Nd.d).k=(ns.getD q Nd.d).k:=by
 unfold W8
 simp only [List.getD_eq_getElem?_getD,List.getElem?_set]
 split
 ·rename_i e; subst e
  split
  ·simp
  ·rename_i h; simp [List.getElem?_eq_none (Nat.le_of_not_lt h)]
 ·rfl
theorem qDw {B:Bool} {x:CD} {first:Nat} (h0:Byt x.d0) (h1:Byt x.d1):∀ {k i:Nat} {ns:List Nd},GNs B ns→(∀ q,q<i+k→first+q<ns.length∧(ns.getD (first+q) Nd.d).k=14)→GNs B (q3R x first k i ns)
 | 0,_,_,h,_=>h
 | k+1,i,ns,h,hq=>by
  simp only [q3R]
  obtain ⟨hl,hk⟩:=hq i (by omega)
  have hd:0≤ddN x i:=by unfold ddN; split; exact h0.1; exact h1.1
  have hv:=D1 (n:=ns.length) hd (by omega)
  refine qDw h0 h1 (qKL h hl (by simpa [List.getD_eq_getElem?_getD,hl] using hk) hv) fun q hq'=>?_
  rw [Pn,qFE]
  exact hq q (by omega)
theorem q8h {bus:Bool}:∀ {l:List Gd} {ns:List Nd} {q:Nat},q<ns.length→((Tm bus l ns).getD q Nd.d)=(ns.getD q Nd.d)
 | [],_,_,_=>rfl
 | g::l,ns,q,h=>by
  simp only [Tm]
  rw [q8h (by simp; omega)]
  rw [List.getD_eq_getElem?_getD,List.getElem?_append_left h,← List.getD_eq_getElem?_getD]
theorem qCg {B:Bool} {x:Nd} (h:∀ ns:List Nd,1≤ns.length→∀ i,NG B ns i x):∀ (k:Nat) {ns:List Nd},GNs B ns→GNs B (ns++List.replicate k x)
 | 0,ns,hn=>by simpa using hn
 | k+1,ns,hn=>by
  rw [List.replicate_succ,List.append_cons]
  exact qCg h k (hn.add (h _ (by simp) _))
theorem q8i {x:CD} (hx:q80 x):GNs x.mem (Hf x):=by
 have m4:0≤x.i.tmod 4∧x.i.tmod 4<4:=D1 (n:=4) hx.i.1 (by omega)
 have m3:0≤x.f.tmod 3∧x.f.tmod 3<3:=D1 (n:=3) hx.f.1 (by omega)
 have g0:GNs x.mem []:=fun i h=>by simp at h
 have g1:GNs x.mem (J4 x):=by
  have:=qCg (B:=x.mem) (x:=q94) (fun ns _ i=>qMM) (x.i.tmod 4+1).toNat g0
  simpa [J4] using this
 have l1:1≤(J4 x).length:=by simp [J4]; omega
 have g2:GNs x.mem (G8 x):=qCg (fun ns h i=>qMN ⟨by omega,by omega⟩) _ g1
 have l2:(G8 x).length=(J4 x).length+(x.f.tmod 3).toNat:=by simp [G8]
 have g3:GNs x.mem (F9 x):=by
  unfold F9
  split
  ·rename_i hm
   rw [hm] at g2 ⊢
   have a1:=g2.add (y:=q5w 0) (qIj (.inl rfl))
   have a2:=a1.add (y:=q5w 1) (qIj (.inr rfl))
   rw [List.append_assoc] at a2
   exact a2
  ·exact g2
 have l3:(G8 x).length≤(F9 x).length:=by unfold F9; split <;> simp
 have g4:GNs x.mem (C6 x):=qBy (fun g hg=>hx.gates g (List.mem_of_mem_take hg)) (by omega) g3
 have l4:(F9 x).length≤(C6 x).length:=by unfold C6; rw [q24]; omega
 refine qDw hx.d0 hx.d1 g4 fun q hq=>⟨by omega,?_⟩
 unfold C6
 rw [q8h (by omega)]
 have e:(F9 x).getD ((J4 x).length+q) Nd.d=(G8 x).getD ((J4 x).length+q) Nd.d:=by
  unfold F9
  split
  ·rw [List.getD_eq_getElem?_getD,List.getElem?_append_left (by omega),← List.getD_eq_getElem?_getD]
  ·rfl
 rw [e]
 unfold G8
 rw [List.getD_eq_getElem?_getD,List.getElem?_append_right (by omega)]
 simp only [Nat.add_sub_cancel_left]
 rw [List.getElem?_replicate,if_pos (by omega)]
 rfl
theorem q2D {α:Type} {f:α→Int}:∀ {l:List α},(∀ x ∈ l,f x=0)→Do (l.map f)=0
 | [],_=>rfl
 | x::l,h=>by
  simp only [List.map_cons,Do,h x List.mem_cons_self,ne_eq,not_true_eq_false,if_false]
  exact q2D fun y hy=>h y (List.mem_cons_of_mem _ hy)
theorem qFF:∀ n,n≤16→Jd [] ((List.range' 0 n).map q1F)=0:=by
 intro n hn
 have:n=0∨n=1∨n=2∨n=3∨n=4∨n=5∨n=6∨n=7∨n=8∨n=9∨n=10∨n=11∨n=12∨n=13∨n=14∨n=15∨n=16:=by omega
 rcases this with rfl | rfl | rfl | rfl | rfl | rfl | rfl | rfl | rfl | rfl | rfl | rfl | rfl | rfl | rfl | rfl | rfl <;> decide +kernel
theorem qHM {x:CD} (hx:q80 x):Dz (ofC x)=0:=by
 have hl:=q5y hx
 have h5:=q5z hx
 have hg:=q8i hx
 have hN:(ofC x).nodes.l=Hf x:=rfl
 have hmods:∀ b,Byt b→0≤b.tmod (C6 x).length∧b.tmod (C6 x).length<(Hf x).length:=fun b hb=>by
  have:=D1 (n:=(C6 x).length) hb.1 (by omega); omega
 have hout:∀ n,0≤n∧n<((Hf x).length:Int)→Qj (ofC x) n=false:=fun n h=>by simp [Qj,hN]; omega
 have hnode:∀ y ∈ Hf x,Dq (ofC x) y=0:=by
  intro y hy
  obtain ⟨i,hi,rfl⟩:=List.getElem_of_mem hy
  have hn:=hg i hi
  unfold Dq
  rw [if_neg (by have:=hn.k; omega),if_neg (by have:=hn.f; omega)]
  have h1:(Hf x)[i].inn.l.any (Qj (ofC x))=false:=List.any_eq_false.2 fun p hp=>by rw [hout p (hn.inn p hp)]; simp
  rw [h1]
  have h2:¬ ((Hf x)[i].k=13∧(Hf x)[i].inn.l.any (q3M (ofC x))=true):=by
   rintro ⟨hk,ha⟩
   obtain ⟨p,hp,hq⟩:=List.any_eq_true.1 ha
   have:=hn.bus hk p hp
   simp [q3M,hN] at hq
   rw [List.getD_eq_getElem?_getD] at this
   exact hq this
  rw [if_neg (by simp),if_neg h2]
  have h3:q1D (ofC x) (Hf x)[i]=true:=by
   unfold q1D
   by_cases hk:(Hf x)[i].k=15
   ·obtain ⟨hm,e1,e2,e3⟩:=hn.mm.2 hk
    simp only [hk,ne_eq,not_true_eq_false,if_false,decide_eq_true_eq]
    simp [ofC,qB6,hm,e1]
    omega
   ·have:=hn.mm.1 hk
    simp [hk,this]
  rw [h3]; simp
 unfold Dz
 have e1:¬ (16384<(ofC x).nodes.l.length∨16<(ofC x).mems.l.length∨16384<(ofC x).outs.l.length):=by
  have:(ofC x).mems.l.length≤1:=by simp only [ofC,qB6]; split <;> simp
  have:(ofC x).outs.l.length≤4:=by simp [ofC]; omega
  rw [hN]; omega
 have e2:(ofC x).names.l.length=(ofC x).nodes.l.length:=by rw [hN]; simp [ofC]; omega
 rw [if_neg e1,if_neg (by simp [e2]),if_neg (by rw [hN,q2D hnode]; simp),if_neg (by
  rw [show (ofC x).names.l=(List.range' 0 (C6 x).length).map q1F from rfl,qFF _ hl.2]; simp),if_neg (by
  rw [q2D]
  ·simp
  ·intro m hm
   simp only [ofC,qB6] at hm
   split at hm
   ·simp at hm; subst hm
    unfold On
    have a0:=hout _ (hmods _ hx.p0)
    have a1:=hout _ (hmods _ hx.p1)
    have a2:=hout _ (hmods _ hx.p2)
    have a3:=hout _ (hmods _ hx.p3)
    simp [Vt,a0,a1,a2,a3]
   ·cases hm)]
 have ho:(ofC x).outs.l.any (Qj (ofC x))=false:=by
  refine List.any_eq_false.2 fun p hp=>?_
  have:0≤p∧p<((Hf x).length:Int):=by
   simp only [ofC,List.mem_append,List.mem_map,List.mem_singleton] at hp
   rcases hp with ⟨b,hb,rfl⟩ | rfl
   ·exact hmods b (hx.outs b (List.mem_of_mem_take hb))
   ·omega
  rw [hout p this]; simp
 rw [ho]; rfl
theorem qBz {x:CD} (hx:q80 x):Eh (ofC x)=0:=by
 have hs:=qHM hx
 have hg:=q8i hx
 have hN:(ofC x).nodes.l=Hf x:=rfl
 have hin:∀ y ∈ (ofC x).nodes.l,∀ p ∈ y.inn.l,0≤p∧p<(ofC x).nodes.l.length:=by
  intro y hy p hp
  rw [hN] at hy ⊢
  obtain ⟨i,hi,rfl⟩:=List.getElem_of_mem hy
  exact (hg i hi).inn p hp
 have hd:=qDj (ofC x) (Ih hs).2.1 hin (by
  intro i hi hc p hp
  rw [hN] at hi
  have e:(ofC x).nodes.l.getD i Nd.d=(Hf x)[i]:=by rw [hN]; simp [List.getD_eq_getElem?_getD,hi]
  simp only [Az,I5,e] at hc hp
  exact (hg i hi).top (by simpa [E6] using hc) p hp)
 unfold Eh
 rw [if_neg (by simp [hs]),if_neg hd]
end Go.Lg
namespace Go.Lg
open Go Go.Proofs
variable {Γ:Tables}
theorem M3 {f:FuncId} {as':List AV} {ts:List T} {res:T} {K:T→Prop} (h:A3 Tryz.prog Γ f ts res) (ht:Ah (as'.map toT)=some ts) (hk:K res):qCU Tryz.prog Γ f as' K ⟨⟩:=⟨ts,res,ht,.inr h,hk⟩
theorem qHN (q:PD) (hq:q9C q) (c:B0) (hc:COk c):A3 Tryz.prog Γ 35 [.agg (tPD q),.agg (tC c)] (.agg (tP (qAa q c))):=by
 refine A7 qAV rfl ?_
 have h1:=qGI (Γ:=Γ) q.i (Bg c).length (Nat.le_trans (Ov c) hc.nodes) 4 (by omega)
 have h2:=qGI (Γ:=Γ) q.s (Af c).length (Nat.le_trans (Di c) hc.nodes) 3 (by omega)
 have l1:(Vw q.i.l (Bg c).length 4).length=(Bg c).length:=q2A
 have l2:(Vw q.s.l (Af c).length 3).length=(Af c).length:=q2A
 have k1:=Cj (l:=Vw q.i.l (Bg c).length 4)
 have k2:=Cj (l:=Vw q.s.l (Af c).length 3)
 rw [l1] at k1
 rw [l2] at k2
 simp [q5B,tC,A5,A8,Ad,B6,tPD,tV]
 refine M3 (qAY c hc 0) rfl ?_
 simp
 refine ⟨_,_,h1,?_⟩
 simp
 refine M3 (qAY c hc 14) rfl ?_
 simp
 refine ⟨_,_,h2,?_⟩
 simp [q5C,Au,Ai,k1,k2,tP,tV,qAa,qO9,qOA]
structure NOk (c:B0):Prop where
 ok:COk c
 lev:Eh c=0
 mm:c.mems.l=[]
 m0:mems c=[]
 n1:1≤c.nodes.l.length
 n2:c.nodes.l.length≤16
 k:∀ i,i<c.nodes.l.length→0≤Az c i∧Az c i≤14
theorem qGL {l:List Int} {n:Nat} {most:Int} (hl:∀ v ∈ l,0≤v) (hm:0<most∧most≤4):∀ v ∈ Vw l n most,V4 v:=by
 intro v hv
 obtain ⟨i,_,rfl⟩:=List.mem_map.1 hv
 split
 ·simp [V4]
 ·rename_i h
  have hpos:0<l.length:=List.length_pos_iff.2 h
  have h0:0≤l.getD (i % l.length) 0:=by
   rw [Bv (Nat.mod_lt _ hpos)]; exact hl _ (List.getElem_mem _)
  generalize l.getD (i % l.length) 0=u at *
  rw [Int.tmod_eq_emod_of_nonneg h0]
  have:=Int.emod_nonneg u (show most ≠ 0 by omega)
  have:=Int.emod_lt_of_pos u hm.1
  unfold V4; omega
structure POk (c:B0) (p:Pat):Prop where
 i:p.inn.l.length=(Bg c).length
 s:p.st.l.length=(Af c).length
 vi:∀ v ∈ p.inn.l,V4 v
 vs:∀ v ∈ p.st.l,V4 v
theorem qIk {q:PD} (hq:q9C q) (c:B0):POk c (qAa q c) :=
 ⟨q2A,q2A,qGL (fun v hv=>(hq.1 v hv).1) (by omega),qGL (fun v hv=>(hq.2 v hv).1) (by omega)⟩
theorem qHO {c:B0} (hc:NOk c) {p:Pat} (hp:POk c p):qFC c p=0:=by
 unfold qFC
 rw [if_neg (by simp [hc.lev])]
 unfold q7B
 have a1:∀ {l:List Int},(∀ v ∈ l,V4 v)→l.any q0r=false:=fun h=>List.any_eq_false.2 fun v hv=>by have:=(h v hv).2; simp [q0r]; omega
 rw [if_neg (by rw [hc.mm,hc.m0]; simp),if_neg (by simp [hp.i,hp.s]),a1 hp.vi,a1 hp.vs]
 simp
theorem Og.below {a b:Int} (h:Og a b):qCa a b=true:=by
 unfold qCa
 rcases h with rfl | rfl
 ·simp
 ·simp [Dw]
theorem Og.clean {a b:Int} (h:Og a b):Og (Dw a) (Dw b):=by
 rcases h with rfl | rfl
 ·exact .inl rfl
 ·exact .inr (by simp [Dw])
theorem Yl.map {α:Type} {f g:α→Int} {l:List α} (h:∀ x ∈ l,Og (f x) (g x)):Yl (l.map f) (l.map g):=by
 refine ⟨by simp,fun i=>?_⟩
 by_cases hi:i<l.length
 ·rw [Bv (by simpa using hi),Bv (by simpa using hi),List.getElem_map,List.getElem_map]
  exact h _ (List.getElem_mem hi)
 ·rw [List.getD_eq_getElem?_getD,List.getD_eq_getElem?_getD,List.getElem?_eq_none (by simp; omega),List.getElem?_eq_none (by simp; omega)]
  exact .refl _
theorem qDx {l m:List Int} (h:Yl l m) (n:Int):Og (Tv l n) (Tv m n):=by
 unfold Tv
 rw [h.1]
 split
 ·exact .refl _
 ·exact (h.2 _).clean
theorem qFG {c:B0} {l m:List Int} (h:Yl l m) (n:Int):Og (q2W c l n) (q2W c m n):=by
 unfold q2W
 split
 ·exact G9 (qDx h _)
 ·exact .refl _
end Go.Lg
namespace Go.Lg
open Go Go.Proofs
structure T3 where
 a:Int
 b:Int
 d:Int
deriving DecidableEq
theorem qIl {c:B0} (h:Eh c=0) {i1 i2 f1 f2:List Int} (h1:qKG c i1 f1) (h2:qKG c i2 f2)
  (hb:∀ i,i<c.nodes.l.length→E6 (Az c i)=false→Og (i1.getD i 0) (i2.getD i 0)):Yl f1 f2:=by
 have key:=qKF h (Q:=fun i=>Og (f1.getD i 0) (f2.getD i 0)) fun i hi hcb=>by
  rw [h1.2 i hi,h2.2 i hi]
  by_cases hk:E6 (Az c i)=true
  ·rw [if_pos hk,if_pos hk]
   exact qF7 (Yl.map fun q hq=>(hcb hk q hq).2)
  ·rw [if_neg hk,if_neg hk]
   exact hb i hi (by simpa using hk)
 refine ⟨by rw [h1.1,h2.1],fun i=>?_⟩
 by_cases hi:i<c.nodes.l.length
 ·exact key i hi
 ·rw [List.getD_eq_getElem?_getD,List.getD_eq_getElem?_getD,List.getElem?_eq_none (by rw [h1.1]; omega),List.getElem?_eq_none (by rw [h2.1]; omega)]
  exact .refl _
def Xo (c:B0) (rd:List (List Int)):List Int:=(mems c).map fun n=>(rd.getD (nd c n).mem.toNat []).getD (nd c n).bit.toNat 0
def Wu (c:B0) (pin pst:List Int) (rd:List (List Int)):List Int:=G2 (mems c) (Xo c rd) (q8e c pin pst)
def qC0 (c:B0) (pin pst:List Int) (rd:List (List Int)):List Int:=q95 c (Vu c) (Wu c pin pst rd)
theorem qDy {c:B0} {rd:List (List Int)}:(Xo c rd).length=(mems c).length:=by simp [Xo]
theorem q4V {c:B0} {pin pst:List Int} {rd:List (List Int)}:(Wu c pin pst rd).length=c.nodes.l.length:=by unfold Wu; rw [Pq,qBr]
theorem qHP {c:B0} {pin pst:List Int} {rd:List (List Int)}:(qC0 c pin pst rd).length=c.nodes.l.length:=by unfold qC0; rw [qAK,q4V]
theorem qC1 {c:B0} (h:Eh c=0) (pin pst:List Int) (rd:List (List Int)):qKG c (Wu c pin pst rd) (qC0 c pin pst rd):=qKH h (q1H c).1 (q1H c).2 q4V
theorem qDz {c:B0} {pin pst:List Int} {rd:List (List Int)} {i:Nat} (hi:i<c.nodes.l.length) :
  (Wu c pin pst rd).getD i 0=if Az c i=15 then (Xo c rd).getD (Pv 15 c i) 0 else (q8e c pin pst).getD i 0:=by
 have n15:=(q4R [15] c.nodes.l 0).2
 have r15:∀ n ∈ mems c,0≤n:=fun n hn=>(Np n hn).1
 unfold Wu
 by_cases hk:Az c i=15
 ·obtain ⟨a,b⟩:=q9S hi hk
  have e:(mems c)[Pv 15 c i]'a=(i:Int):=by show (Ky [15] c.nodes.l 0)[Pv 15 c i]=_; rw [← b,Bv a]
  have:=q6z (ns:=mems c) (vs:=Xo c rd) (nets:=q8e c pin pst) (j:=Pv 15 c i) n15 (fun n hn=>by rw [qBr]; have:=Np n hn; omega) qDy.symm a
  rw [e] at this
  simp only [Int.toNat_natCast] at this
  rw [this,if_pos hk]
 ·have:(i:Int) ∉ mems c:=fun hm=>hk ((qCc hi).1 hm)
  rw [q1I r15 this,if_neg hk]
theorem qAb {c:B0} {rd:List (List Int)} {i:Nat} (hi:i<c.nodes.l.length) (hk:Az c i=15) :
  (Xo c rd).getD (Pv 15 c i) 0=(rd.getD (nd c i).mem.toNat []).getD (nd c i).bit.toNat 0:=by
 obtain ⟨a,b⟩:=q9S hi hk
 have e:(mems c)[Pv 15 c i]'a=(i:Int):=by show (Ky [15] c.nodes.l 0)[Pv 15 c i]=_; rw [← b,Bv a]
 have e2:(mems c)[Pv 15 c i]? = some (i:Int):=by rw [List.getElem?_eq_getElem (l:=mems c) a,e]
 unfold Xo
 rw [List.getD_eq_getElem?_getD,List.getElem?_map,e2]
 rfl
theorem qFH {c:B0} (h:Eh c=0) {a b a' b':List Int} {rd rd':List (List Int)} (ha:a.length=(Bg c).length) (hb:b.length=(Af c).length) (ha':a'.length=(Bg c).length) (hb':b'.length=(Af c).length)
  (h1:∀ j,Og (a.getD j 0) (a'.getD j 0)) (h2:∀ j,Og (b.getD j 0) (b'.getD j 0)) (h3:∀ m j,Og ((rd.getD m []).getD j 0) ((rd'.getD m []).getD j 0)):Yl (qC0 c a b rd) (qC0 c a' b' rd'):=by
 refine qIl h (qC1 h a b rd) (qC1 h a' b' rd') fun i hi hc=>?_
 rw [qDz hi,qDz hi,qGF ha hb hi,qGF ha' hb' hi]
 split
 ·rename_i hk
  rw [qAb hi hk,qAb hi hk]
  exact h3 _ _
 split
 ·exact h1 _
 split
 ·exact h2 _
 ·exact .refl _
def Qv:Nat→List Int→Bool
 | i,[]=>decide (i=0)
 | i,v::l=>if v≤1∧v ≠ (i:Int) % 2 then false else Qv (i / 2) l
def q5G (a b:Int):Int:=if a=b then a else 2
def q0s (w:List Int) (b:Nat):Int:=if b<w.length then E8 (w.getD b 0) else 2
def Wv (w:List Int) (first:Bool):Nat→Nat→List Int→List Int
 | 0,_,out=>out
 | k+1,b,out=>Wv w first k (b+1) (out.set b (if first then q0s w b else q5G (out.getD b 0) (q0s w b)))
def q3v (addr:List Int):Nat→List (List Int)→List Int × Bool→List Int × Bool
 | _,[],s=>s
 | i,w::ws,s=>q3v addr (i+1) ws (if Qv i addr then (Wv w s.2 s.1.length 0 s.1,false) else s)
def Z1 (words:List (List Int)) (addr:List Int):List Int:=match words with
 | []=>[]
 | w::ws=>(q3v addr 0 (w::ws) (List.replicate w.length 2,true)).1
def q7E (addr:List Int) (en:Int):Bool:=decide (en=1) && !addr.any fun v=>!I4 v
def q3w (i:Nat) (addr:List Int) (en old new:Int):Int:=if en=0∨Qv i addr=false then old else if q7E addr en=true then new else q5G old new
def U2 (i:Nat) (addr data:List Int) (en:Int) (w:List Int):Nat→Nat→List Int
 | 0,_=>[]
 | k+1,b=>q3w i addr en (q0s w b) (q0s data b)::U2 i addr data en w k (b+1)
def Ez (addr data:List Int) (en:Int):Nat→List (List Int)→List (List Int)
 | _,[]=>[]
 | i,w::ws=>U2 i addr data en w w.length 0::Ez addr data en (i+1) ws
def q8j (v x y:Int):Int:=if v=0 then x else if v=1 then y else q5G x y
def qBG (i:Int) (v en w d:Int):Int:=if en=0∨v≤1∧v ≠ i then w else if en=1∧v≤1 then d else q5G w d
theorem qIm {v:Int} (h:0≤v):(Qv 0 [v]=!decide (v=1))∧(Qv 1 [v]=!decide (v=0)):=by
 constructor
 ·simp only [Qv]
  by_cases h1:v=1
  ·simp [h1]
  ·rw [if_neg (by omega)]; simp [h1]
 ·simp only [Qv]
  by_cases h1:v=0
  ·simp [h1]
  ·rw [if_neg (by omega)]; simp [h1]
theorem qL3 {a b c d v:Int} (h:0≤v):Z1 [[a,b],[c,d]] [v]=[q8j v (E8 a) (E8 c),q8j v (E8 b) (E8 d)]:=by
 obtain ⟨h0,h1⟩:=qIm h
 simp only [Z1,q3v,h0,h1]
 by_cases e1:v=1
 ·subst e1; simp [Wv,q0s,q8j,List.replicate]
 by_cases e0:v=0
 ·subst e0; simp [Wv,q0s,q8j,List.replicate]
 simp [e0,e1,Wv,q0s,q8j,List.replicate]
theorem qIn {a b c d v x y en:Int} (h:0≤v):Ez [v] [x,y] en 0 [[a,b],[c,d]]=[[qBG 0 v en (E8 a) (E8 x),qBG 0 v en (E8 b) (E8 y)],[qBG 1 v en (E8 c) (E8 x),qBG 1 v en (E8 d) (E8 y)]]:=by
 obtain ⟨h0,h1⟩:=qIm h
 have e:∀ (o n:Int),q3w 0 [v] en o n=qBG 0 v en o n∧q3w 1 [v] en o n=qBG 1 v en o n:=fun o n=>by
  unfold q3w qBG q7E
  rw [h0,h1]
  simp only [List.any_cons,List.any_nil,I4]
  constructor
  ·by_cases e1:v=1 <;> by_cases e2:en=0 <;> by_cases e3:en=1 <;> by_cases e4:v≤1 <;> simp_all <;> omega
  ·by_cases e1:v=0 <;> by_cases e2:en=0 <;> by_cases e3:en=1 <;> by_cases e4:v≤1 <;> simp_all <;> omega
 simp [Ez,U2,q0s,e]
theorem qAc {v v' x y x' y':Int} (hv:Og v v') (hx:Og x x') (hy:Og y y'):Og (q8j v x y) (q8j v' x' y'):=by
 unfold Og q8j q5G at *
 repeat' split
 all_goals omega
theorem q4W {i v v' en en' w w' d d':Int} (hi:i=0∨i=1) (hv:Og v v') (he:Og en en') (hw:Og w w') (hd:Og d d'):Og (qBG i v en w d) (qBG i v' en' w' d'):=by
 unfold Og qBG q5G at *
 repeat' split
 all_goals omega
end Go.Lg
namespace Go.Lg
open Go
section
variable {P:Program} {Γ:Tables} {Q:AX→St→Prop} {s:St}
/- slices.Repeat[[]probecard/api.Value,probecard/api.Value] (function 144) -/
abbrev Ln:IC:=.gh (.seq (.seq (.reg [om 34 8,om 35 7,od 36 (le 0 35),od 37 (.bin .lss (tm 34) (tm 36))] [kp [7,8,37] [30]]) (.cond (tm 37) .skip (.exit 0))) (.block 1 (.reg [om 38 8,om 39 7,om 40 8,od 41 (.slice 1 (tm 39) (some (tm 40))
 none none),om 42 7,om 43 8,od 44 (.slice 1 (tm 42) none (some (tm 43)) none),od 45 (.cpy 1 (tm 41) (tm 44)),od 46 (.bin .add (tm 38) (tm 45)),om 8 46] [kp [7,8] [30]]))) [kp [7,8] [30]]
def Ea:IC:=.loop Ln
abbrev Gk:IC:=(.seq (.reg [od 4 (.mv kN)] [kp [0,1] []]) (.seq (.seq (.reg [om 9 1,od 10 (.bin .lss (tm 9) (ki 0))] [kp [0,1,10] []]) (.cond (tm 10) .dead .skip)) (.seq (.reg [om 13 0,od 14 (le 0 13),od 15 (.conv .u64 (tm 14)),om 16 1,od
 17 (.conv .u64 (tm 16)),od 18 (.call 209 [(tm 15),(tm 17)]),om 12 18,od 19 (ex 12 0),od 20 (ex 12 1),om 5 19,om 6 20] [kp [0,5,6] []]) (.seq (.seq (.reg [om 21 5,od 22 (.bin .gtr (tm 21) (.const (.int .u64 0))),om 23 22,
 oF 24 (.mv (tm 6)) 23,oF 25 (.bin .gtr (tm 24) (.const (.int .u64 9223372036854775807))) 23,od 26 (.pick (tm 23) kT (tm 25))] [kp [0,6,26] []]) (.cond (tm 26) .dead .skip)) (.seq (.reg [om 28 6,od 29 (.conv .i64 (tm 28)),od
 30 (.mk 71 1 [(.int .u8 0)] (tm 29) (tm 29)),om 7 30] [kp [0,7] [30]]) (.seq (.reg [om 31 7,om 32 0,od 33 (.cpy 1 (tm 31) (tm 32)),om 8 33] [kp [7,8] [30]]) (.seq (.block 0 Ea) (.seq (.reg [om 47 7,om
 4 47] [kp [4] [30]]) .ret))))))))
theorem D8 (h:∀ K:St→Prop,K=run P Γ Ea Q→run P Γ Ln (Am K Q) s):run P Γ Ea Q s:=Ae h
def D5:List RV:=[.tmp 4]
/- probecard/sims.Blank (function 81) -/
abbrev q5H:IC:=(.seq (.reg [od 1 (.box true (tm 0)),od 2 (.alloc false [(.slice none 0 0),(.slice none 0 0)])] [kp [1,2] [2]]) (.seq (.reg [od 3 (.mv (.func 143))] [kp [1,2,3] [2]]) (.seq (.reg [om 4 3,od 5 (.ldT 4 true (tm 1)),od 6 (.call
 56 [(tm 5)]),od 7 (le 0 6),od 8 (.callv (tm 4) [(tm 7)]),om 9 3,od 10 (.ldT 4 true (tm 1)),od 11 (.call 18 [(tm 10)]),od 12 (le 0 11),od 13 (.callv (tm 9) [(tm 12)]),od 14 (.build [(1,(tm 8)),(1,(tm 13))]),on (.stR 2 2
 (tm 2) (tm 14))] [kp [2] [2]]) .ret)))
def q5I:List RV:=[.cell 2 2 true]
/- probecard/sims.Blank$1 (function 143) -/
abbrev q2X:IC:=(.seq (.reg [od 2 (.mv kN)] [kp [0] []]) (.seq (.reg [od 3 (.bsl true 71 1 [(ku 2)]),om 4 0,od 5 (.call 144 [(tm 3),(tm 4)]),om 2 5] [kp [2] []]) .ret))
def q2Y:List RV:=[.tmp 2]
/- math/bits.Mul (function 209) -/
abbrev q8k:IC:=(.seq (.reg [od 4 (.mv (.const (.int .u64 0))),od 5 (.mv (.const (.int .u64 0)))] [kp [0,1] []]) (.seq (.cond kF (.seq (.reg [om 11 0,od 12 (.conv .u32 (tm 11)),om 13 1,od 14 (.conv .u32 (tm 13)),od 15 (.call 251 [(tm 12),
 (tm 14)]),om 10 15,od 16 (ex 10 0),od 17 (ex 10 1),om 6 16,om 7 17] [kp [6,7] []]) (.seq (.reg [om 18 6,od 19 (.conv .u64 (tm 18)),om 20 7,od 21 (.conv .u64 (tm 20)),om 4 19,om 5 21] [kp [4,5] []]) .ret)) .skip) (.seq
 (.reg [om 23 0,om 24 1,od 25 (.call 252 [(tm 23),(tm 24)]),om 22 25,od 26 (ex 22 0),od 27 (ex 22 1),om 8 26,om 9 27] [kp [8,9] []]) (.seq (.reg [om 28 8,om 29 9,om 4 28,om 5 29] [kp [4,5] []]) .ret))))
def q8l:List RV:=[.tmp 4,.tmp 5]
/- math/bits.Mul64 (function 252) -/
abbrev q5J:IC:=(.seq (.reg [od 4 (.mv (.const (.int .u64 0))),od 5 (.mv (.const (.int .u64 0)))] [kp [0,1] []]) (.seq (.reg [om 14 0,od 15 (.bin .and (tm 14) (.const (.int .u64 4294967295))),om 6 15] [kp [0,1,6] []]) (.seq (.reg [om 16 0,
 od 17 (.bin .shr (tm 16) (.const (.int .u64 32))),om 7 17] [kp [0,1,6,7] []]) (.seq (.reg [om 18 1,od 19 (.bin .and (tm 18) (.const (.int .u64 4294967295))),om 8 19] [kp [0,1,6,7,8] []]) (.seq (.reg [om 20 1,od 21 (.bin
 .shr (tm 20) (.const (.int .u64 32))),om 9 21] [kp [0,1,6,7,8,9] []]) (.seq (.reg [om 22 6,om 23 8,od 24 (.bin .mul (tm 22) (tm 23)),om 10 24] [kp [0,1,6,7,8,9,10] []]) (.seq (.reg [om 25 7,om 26 8,od 27 (.bin .mul
 (tm 25) (tm 26)),om 28 10,od 29 (.bin .shr (tm 28) (.const (.int .u64 32))),od 30 (.bin .add (tm 27) (tm 29)),om 11 30] [kp [0,1,6,7,9,11] []]) (.seq (.reg [om 31 11,od 32 (.bin .and (tm 31) (.const (.int .u64
 4294967295))),om 12 32] [kp [0,1,6,7,9,11,12] []]) (.seq (.reg [om 33 11,od 34 (.bin .shr (tm 33) (.const (.int .u64 32))),om 13 34] [kp [0,1,6,7,9,12,13] []]) (.seq (.reg [om 35 12,om 36 6,om 37 9,od 38 (.bin
 .mul (tm 36) (tm 37)),od 39 (.bin .add (tm 35) (tm 38)),om 12 39] [kp [0,1,7,9,12,13] []]) (.seq (.reg [om 40 7,om 41 9,od 42 (.bin .mul (tm 40) (tm 41)),om 43 13,od 44 (.bin .add (tm 42) (tm 43)),om 45 12,od 46 (.bin
 .shr (tm 45) (.const (.int .u64 32))),od 47 (.bin .add (tm 44) (tm 46)),om 4 47] [kp [0,1,4] []]) (.seq (.reg [om 48 0,om 49 1,od 50 (.bin .mul (tm 48) (tm 49)),om 5 50] [kp [4,5] []]) .ret))))))))))))
def q5K:List RV:=[.tmp 4,.tmp 5]
end
end Go.Lg
namespace Go.Lg
open Go Go.Proofs
theorem Ks:Ao Tryz.prog 144 Gk 48 2 D5=true:=by kernel_rfl
theorem qAd:Ao Tryz.prog 81 q5H 15 1 q5I=true:=by kernel_rfl
theorem q89:Ao Tryz.prog 143 q2X 6 1 q2Y=true:=by kernel_rfl
theorem qCh:Ao Tryz.prog 209 q8k 30 2 q8l=true:=by kernel_rfl
theorem qAe:Ao Tryz.prog 252 q5J 51 2 q5K=true:=by kernel_rfl
end Go.Lg
namespace Go.Lg
open Go
section
variable {P:Program} {Γ:Tables} {Q:AX→St→Prop} {s:St}
/- slices.Clone[[]probecard/api.Value,probecard/api.Value] (function 90) -/
abbrev Ed:IC:=(.seq (.reg [od 2 (.mv kN)] [kp [0] []]) (.seq (.seq (.reg [om 3 0,od 4 (.isNil true (tm 3))] [kp [0,4] []]) (.cond (tm 4) (.seq (.reg [od 2 (.mv kN)] [kp [2] []]) .ret) .skip)) (.seq (.reg [od 5 (.bsl true 71 1 []),om 6 0,od 7
 (.appT 71 1 (tm 5) (tm 6)),om 2 7] [kp [2] []]) .ret)))
def Ee:List RV:=[.tmp 2]
end
end Go.Lg
namespace Go.Lg
open Go Go.Proofs
theorem Z2:Ao Tryz.prog 90 Ed 8 1 Ee=true:=by kernel_rfl
end Go.Lg
namespace Go.Lg
open Go
section
variable {P:Program} {Γ:Tables} {Q:AX→St→Prop} {s:St}
/- probecard/netlists.Copy (function 175) -/
abbrev Q1:IC:=(.seq (.reg [od 2 (.mv kN)] [kp [0] [1000000]]) (.seq (.reg [om 3 0,om 4 0,od 5 (le 0 4),om 6 0,od 7 (le 0 6),od 8 (.slice 4 (tm 3) none (some (tm 5)) (some (tm 7))),om 2 8] [kp [2] [1000000]]) .ret))
def Q2:List RV:=[.tmp 2]
/- slices.Clip[[]string,string] (function 73) -/
abbrev Si:IC:=(.seq (.reg [od 2 (.mv kN)] [kp [0] []]) (.seq (.reg [om 3 0,om 4 0,od 5 (le 0 4),om 6 0,od 7 (le 0 6),od 8 (.slice 1 (tm 3) none (some (tm 5)) (some (tm 7))),om 2 8] [kp [2] []]) .ret))
def Sj:List RV:=[.tmp 2]
/- slices.Clip[[]probecard/api.Memory,probecard/api.Memory] (function 258) -/
abbrev q2Z:IC:=(.seq (.reg [od 2 (.mv (.const (sV [])))] [kp [0] []]) (.seq (.reg [om 3 0,od 4 (.call 76 [(tm 3)]),om 2 4] [kp [2] []]) .ret))
def q2a:List RV:=[.tmp 2]
/- internal/strconv.Itoa (function 76) -/
abbrev q0P:IC:=(.seq (.reg [od 2 (.mv (.const (sV [])))] [kp [0] []]) (.seq (.reg [om 3 0,od 4 (.call 139 [(tm 3),(ki 10)]),om 2 4] [kp [2] []]) .ret))
def q0Q:List RV:=[.tmp 2]
/- internal/strconv.FormatInt (function 139) -/
abbrev Qx:IC:=(.seq (.reg [od 4 (.mv (.const (sV [])))] [kp [0,1] []]) (.seq (.seq (.reg [om 10 1,od 11 (.bin .eql (tm 10) (ki 10))] [kp [0,1,11] []]) (.cond (tm 11) (.seq (.seq (.reg [om 12 0,od 13 (.bin .leq (ki 0) (tm 12)),om 14 13,oT
 15 (.mv (tm 0)) 14,oT 16 (.bin .lss (tm 15) (ki 100)) 14,od 17 (.pick (tm 14) (tm 16) kF)] [kp [0,17] []]) (.cond (tm 17) (.seq (.reg [om 18 0,od 19 (.call 205 [(tm 18)]),om 4 19] [kp [4] []]) .ret) .skip)) (.seq (.reg [od 5
 (.alloc false [(.int .u8 0),(.int .u8 0),(.int .u8 0),(.int .u8 0),(.int .u8 0),(.int .u8 0),(.int .u8 0),(.int .u8 0),(.int .u8 0),(.int .u8 0),(.int .u8 0),(.int .u8 0),(.int .u8 0),(.int .u8 0),(.int .u8 0),(.int
 .u8 0),(.int .u8 0),(.int .u8 0),(.int .u8 0),(.int .u8 0),(.int .u8 0),(.int .u8 0),(.int .u8 0),(.int .u8 0)])] [kp [0,5] [5]]) (.seq (.reg [om 20 0,od 21 (.conv .u64 (tm 20)),om 6 21] [kp [0,5,6] [5]]) (.seq (.seq
 (.reg [om 22 0,od 23 (.bin .lss (tm 22) (ki 0))] [kp [0,5,6,23] [5]]) (.cond (tm 23) (.reg [om 24 6,od 25 (.un .neg (tm 24)),om 6 25] [kp [0,5,6] [5]]) .skip)) (.seq (.reg [om 26 6,od 27 (.call 206 [(tm 26)]),om 7 27] [kp
 [0,5,6,7] [5]]) .dead))))) .skip)) (.seq (.reg [om 45 0,od 46 (.conv .u64 (tm 45)),om 47 1,om 48 0,od 49 (.bin .lss (tm 48) (ki 0)),od 50 (.call 208 [kN,(tm 46),(tm 47),(tm 49),kF]),om 44 50,od 51 (ex 44 0),od 52 (ex
 44 1),om 8 51,om 9 52] [kp [9] []]) (.seq (.reg [om 53 9,om 4 53] [kp [4] []]) .ret))))
def Qy:List RV:=[.tmp 4]
/- internal/strconv.small (function 205) -/
abbrev P1:IC:=(.seq (.reg [od 2 (.mv (.const (sV [])))] [kp [0] []]) (.seq (.seq (.reg [om 3 0,od 4 (.bin .lss (tm 3) (ki 10))] [kp [0,4] []]) (.cond (tm 4) (.seq (.reg [om 5 0,om 6 0,od 7 (.bin .add (tm 6) (ki 1)),od 8 (.slice 0 (.const
 (sV [48,49,50,51,52,53,54,55,56,57,97,98,99,100,101,102,103,104,105,106,107,108,109,110,111,112,113,114,115,116,117,118,119,120,121,122])) (some (tm 5)) (some (tm 7)) none),om 2 8] [kp [2] []])
 .ret) .skip)) (.seq (.reg [om 9 0,od 10 (.bin .mul (tm 9) (ki 2)),om 11 0,od 12 (.bin .mul (tm 11) (ki 2)),od 13 (.bin .add (tm 12) (ki 2)),od 14 (.slice 0 (.const (sV [48,48,48,49,48,50,48,51,48,52,48,53,48,54,
 48,55,48,56,48,57,49,48,49,49,49,50,49,51,49,52,49,53,49,54,49,55,49,56,49,57,50,48,50,49,50,50,50,51,50,52,50,53,50,54,50,55,50,56,50,57,51,48,51,49,51,50,51,51,51,52,51,53,
 51,54,51,55,51,56,51,57,52,48,52,49,52,50,52,51,52,52,52,53,52,54,52,55,52,56,52,57,53,48,53,49,53,50,53,51,53,52,53,53,53,54,53,55,53,56,53,57,54,48,54,49,54,50,54,51,54,52,
 54,53,54,54,54,55,54,56,54,57,55,48,55,49,55,50,55,51,55,52,55,53,55,54,55,55,55,56,55,57,56,48,56,49,56,50,56,51,56,52,56,53,56,54,56,55,56,56,56,57,57,48,57,49,57,50,57,51,
 57,52,57,53,57,54,57,55,57,56,57,57])) (some (tm 10)) (some (tm 13)) none),om 2 14] [kp [2] []]) .ret)))
def P2:List RV:=[.tmp 2]
end
end Go.Lg
namespace Go.Lg
open Go Go.Proofs
theorem q0t:Ao Tryz.prog 72 Q1 9 1 Q2=true:=by kernel_rfl
theorem q2E:Ao Tryz.prog 73 Si 9 1 Sj=true:=by kernel_rfl
theorem q8A:Ao Tryz.prog 21 q2Z 5 1 q2a=true:=by kernel_rfl
theorem q69:Ao Tryz.prog 76 q0P 5 1 q0Q=true:=by kernel_rfl
theorem q1U:Ao Tryz.prog 139 Qx 54 2 Qy=true:=by kernel_rfl
theorem q4o:Ao Tryz.prog 205 P1 15 1 P2=true:=by kernel_rfl
end Go.Lg
namespace Go.Lg
open Go Go.Proofs
variable {Γ:Tables}
def q2b (i:Nat):List UInt8:=if i<10 then [UInt8.ofNat (48+i)] else [UInt8.ofNat (48+i / 10),UInt8.ofNat (48+i % 10)]
def qOB:List UInt8:=[48,49,50,51,52,53,54,55,56,57,97,98,99,100,101,102,103,104,105,106,107,108,109,110,111,112,113,114,115,116,117,118,119,120,121,122]
def qOC:List UInt8:=(List.range 100).flatMap fun i=>[UInt8.ofNat (48+i / 10),UInt8.ofNat (48+i % 10)]
theorem qKM:∀ i,i<10→((ByteArray.mk qOB.toArray).extract i (i+1)).data.toList=[UInt8.ofNat (48+i)]:=by decide +kernel
theorem qKN:∀ i,i<100→((ByteArray.mk qOC.toArray).extract (i*2) (i*2+2)).data.toList=[UInt8.ofNat (48+i / 10),UInt8.ofNat (48+i % 10)]:=by decide +kernel
theorem qL4 {a:ByteArray} {l:List UInt8} (h:a.data.toList=l):a=ByteArray.mk l.toArray:=by
 cases a; simp only at h; subst h; rfl
theorem qFI (i:Nat) (hi:i<100):A3 Tryz.prog Γ 205 [tI i] (tS (q2b i)):=by
 refine A7 q4o rfl ?_
 by_cases h:i<10
 ·have h':(i:Int)<10:=by omega
  have e:=qL4 (qKM i h)
  simp only [qOB] at e
  simp (disch:=omega) [P1,sV,h,h',A4]
  have e1:((i:Int)+1).toNat=i+1:=by omega
  simp [P2,e1,e,q2b,h,tS,sV]
  omega
 ·have h':¬ (i:Int)<10:=by omega
  have e:=qL4 (qKN i hi)
  have d2:qOC=[48,48,48,49,48,50,48,51,48,52,48,53,48,54,48,55,48,56,48,57,49,48,49,49,49,50,49,51,49,52,49,53,49,54,49,55,49,56,49,57,50,48,50,49,50,50,50,51,50,52,50,53,50,54,50,55,50,56,50,57,51,48,51,49,51,50,51,51,51,52,51,53,51,54,51,55,51,56,51,57,52,48,52,49,52,50,52,51,52,52,52,53,52,54,52,55,52,56,52,57,53,48,53,49,53,50,53,51,53,52,53,53,53,54,53,55,53,56,53,57,54,48,54,49,54,50,54,51,54,52,54,53,54,54,54,55,54,56,54,57,55,48,55,49,55,50,55,51,55,52,55,53,55,54,55,55,55,56,55,57,56,48,56,49,56,50,56,51,56,52,56,53,56,54,56,55,56,56,56,57,57,48,57,49,57,50,57,51,57,52,57,53,57,54,57,55,57,56,57,57]:=by decide +kernel
  rw [d2] at e
  simp (disch:=omega) [P1,sV,h,h',A4]
  have e1:((i:Int)*2).toNat=i*2:=by omega
  have e2:((i:Int)*2+2).toNat=i*2+2:=by omega
  simp [P2,e1,e2,e,q2b,h,tS,sV]
  omega
theorem qC2 (i:Nat) (hi:i<100):A3 Tryz.prog Γ 21 [tI i] (tS (q2b i)):=by
 have h1:A3 Tryz.prog Γ 139 [tI i,tI 10] (tS (q2b i)):=by
  refine A7 q1U rfl ?_
  have h0:(0:Int)≤i:=by omega
  have h2:(i:Int)<100:=by omega
  simp (disch:=omega) [Qx,h2]
  refine A1 (qFI i hi) rfl ?_
  simp [Qy,tS,sV]
 have h2:A3 Tryz.prog Γ 76 [tI i] (tS (q2b i)):=by
  refine A7 q69 rfl ?_
  simp [q0P]
  refine A1 h1 rfl ?_
  simp [q0Q,tS,sV]
 refine A7 q8A rfl ?_
 simp [q2Z]
 refine A1 h2 rfl ?_
 simp [q2a,tS,sV]
abbrev Pnt:=Int × Int
def qIo (l:List (Int × Pnt)) (n:Int):Pnt:=match l.find? (fun p=>p.1 == n) with | some p=>p.2 | none=>(0,0)
def qL5 (l:List (Int × Pnt)):Prop:=∀ p ∈ l,-1000000≤p.2.1∧p.2.1≤1000000 ∧ -1000000≤p.2.2∧p.2.2≤1000000
theorem qL5.at {l:List (Int × Pnt)} (h:qL5 l) (n:Int) : -1000000≤(qIo l n).1∧(qIo l n).1≤1000000 ∧ -1000000≤(qIo l n).2∧(qIo l n).2≤1000000:=by
 unfold qIo
 split
 ·rename_i p hp
  exact h p (List.mem_of_find?_eq_some hp)
 ·simp
def qP6 {α:Type} (s:Sl α):Prop:=(s.nl=some true→s.l=[])∧(s.nl=none→s.l ≠ [])∧s.l.length≤1000000
theorem q8B (s:Sl Int) (hs:qP6 s):Ab Tryz.prog Γ 90 [tV s] (if s.nl=some true then .sl [] (some 0) (some true) else .sl (Ap s.l) none none):=by
 refine Aq Z2 rfl ?_
 obtain ⟨l,cap,nl⟩:=s
 obtain ⟨h1,h2,h3⟩:=hs
 simp only at h1 h2 h3
 rcases nl with _ | _ | _
 ·have h4:Ap l ≠ []:=by simpa [Ac] using h2 rfl
  simp (disch:=omega) [Ed,Ee,A6,A0,h4,Bj,tV]
  omega
 ·simp (disch:=omega) [Ed,Ee,A6,A0,Bj,tV]
  omega
 ·have:=h1 rfl
  subst this
  simp [Ed,Ee,tV]
theorem qIp {w:World} {X:Nat→Prop} {cap:Option Nat} {v:Value} (h:TR w X (.sl [] cap none) v):TR w X (.sl [] cap (some true)) v∨TR w X (.sl [] cap (some false)) v:=by
 cases h with
 | nil _ _ a c hc hn hz =>
  cases a with
  | none=>exact .inl (.nil cap (some true) none c hc (fun b hb=>by cases hb; rfl) hz)
  | some a=>exact .inr (.nil cap (some false) (some a) c hc (fun b hb=>by cases hb; rfl) hz)
 | sl _ _ _ s b off c f hcell hlen hrel hone hx hle hc hq =>
  exact .inr (.sl [] cap (some false) s b off c f hcell hlen hrel hone hx hle hc (fun q hq=>by cases hq; rfl))
theorem qKO {w:World} {X:Nat→Prop} {es:List (List T)} {cap:Option Nat} {nl:Option Bool} {v:Value} (h:TR w X (.sl es cap nl) v):TR w X (.sl es none none) v:=by
 cases h with
 | nil _ _ a c hc hn hz=>exact .nil none none a c (fun n h=>nomatch h) (fun n h=>nomatch h) hz
 | sl _ _ _ s b off c f hcell hlen hrel hone hx hle hc hq=>exact .sl es none none s b off c f hcell hlen hrel hone hx hle (fun n h=>nomatch h) (fun n h=>nomatch h)
theorem qC3 {P:Program} {f:FuncId} {args:List T} {es:List (List T)} {cap:Option Nat} {nl:Option Bool} (h:Ab P Γ f args (.sl es cap nl)):Ab P Γ f args (.sl es none none) :=
 fun w X vs hg hx hr=>(h w X vs hg hx hr).mono fun v w' ⟨hb,ht⟩=>⟨hb,qKO ht⟩
theorem qFJ {P:Program} {f:FuncId} {cap:Option Nat} {r:T} (h1:Ab P Γ f [.sl [] cap (some true)] r) (h2:Ab P Γ f [.sl [] cap (some false)] r):Ab P Γ f [.sl [] cap none] r :=
 fun w X vs hg hx hr=>by
  obtain ⟨x,ys,rfl,hx1,hy⟩:=hr.cons_inv
  rcases qIp hx1 with h | h
  ·exact h1 w X _ hg hx (Fa.cons h hy)
  ·exact h2 w X _ hg hx (Fa.cons h hy)
def W0 (s:Sl Int):Sl Int:=if s.nl=some true then ⟨[],some 0,some true⟩ else ⟨s.l,none,none⟩
theorem qC4 (s:Sl Int) (h1:s.nl=some true→s.l=[]) (h2:s.l.length≤1000000):Ab Tryz.prog Γ 90 [tV s] (tV (W0 s)):=by
 obtain ⟨l,cap,nl⟩:=s
 simp only at h1 h2
 by_cases h3:nl=none∧l=[]
 ·obtain ⟨rfl,rfl⟩:=h3
  have a1:=q8B (Γ:=Γ) ⟨[],cap,some true⟩ ⟨fun _=>rfl,(fun h=>nomatch h),Nat.zero_le _⟩
  have a2:=q8B (Γ:=Γ) ⟨[],cap,some false⟩ ⟨(fun h=>nomatch h),(fun h=>nomatch h),Nat.zero_le _⟩
  exact qFJ (qC3 a1) (qC3 a2)
 ·have:=q8B (Γ:=Γ) ⟨l,cap,nl⟩ ⟨h1,fun a b=>h3 ⟨a,b⟩,h2⟩
  unfold W0
  by_cases hn:nl=some true
  ·have hl:=h1 hn
   subst hn
   subst hl
   simpa [tV,Cd] using this
  ·simpa [tV,hn] using this
end Go.Lg
namespace Go.Lg
open Go
section
variable {P:Program} {Γ:Tables} {Q:AX→St→Prop} {s:St}
/- slices.Clip[[][]probecard/api.Value,[]probecard/api.Value] (function 94) -/
abbrev Nb:IC:=(.seq (.reg [od 2 (.mv kN)] [kp [0] []]) (.seq (.reg [om 3 0,om 4 0,od 5 (le 0 4),om 6 0,od 7 (le 0 6),od 8 (.slice 1 (tm 3) none (some (tm 5)) (some (tm 7))),om 2 8] [kp [2] []]) .ret))
def Nc:List RV:=[.tmp 2]
end
end Go.Lg
namespace Go.Lg
open Go Go.Proofs
theorem Z3:Ao Tryz.prog 94 Nb 9 1 Nc=true:=by kernel_rfl
end Go.Lg
namespace Go.Lg
open Go Go.Proofs
variable {Γ:Tables}
def Ax:T:=.sl [] (some 0) (some true)
theorem qHQ (es:List (List T)) (cap:Option Nat) (nl:Option Bool) (hw:Cm 4 es):Ab Tryz.prog Γ 72 [.sl es cap nl] (.sl es (some es.length) nl):=by
 refine Aq q0t rfl ?_
 simp [Q1,Q2,hw]
theorem qE0 (es:List (List T)) (cap:Option Nat) (nl:Option Bool) (hw:Cm 1 es):Ab Tryz.prog Γ 73 [.sl es cap nl] (.sl es (some es.length) nl):=by
 refine Aq q2E rfl ?_
 simp [Si,Sj,hw]
def qOD (l:List (Sl Int)):List Int:=(l.map fun s=>s.l).flatten
end Go.Lg
namespace Go.Lg
open Go Go.Proofs
def m0 (c:B0) (ch:List (Sl Int)):Nat:=c.nodes.l.length+1+ch.length
end Go.Lg
namespace Go.Lg
open Go Go.Proofs
variable {Γ:Tables}
theorem gE' {α:Type} {f:α→T} {l:List α} {i:Nat} (d:α) (h0:i<l.length):∀ h:i<(Ac f l).length,(Ac f l)[i]=[f (l.getD i d)]:=fun h=>by
 have:=By (f:=f) d h0
 rw [List.getElem?_eq_getElem h] at this
 simpa [List.getD_eq_getElem?_getD] using this
theorem gE {α:Type} {f:α→T} {l:List α} {i:Nat} (d:α) (h0:i<l.length):(Ac f l)[i]?.getD []=[f (l.getD i d)]:=by
 rw [List.getElem?_eq_getElem (by rw [A0]; exact h0)]
 exact gE' d h0 _
structure Rsp where
 out:Sl Int
 next:Sl Int
def qOE (r:Rsp):List T:=[tV r.out,tV r.next]
def qOF:Rsp:=⟨⟨[],none,none⟩,⟨[],none,none⟩⟩
theorem gR {l:List Rsp} {i:Nat} (h:i<l.length):(Ar qOE l)[i]?.getD []=qOE (l.getD i qOF):=by
 rw [E5 qOF h]; rfl
theorem q7F {n:Int} (h1:0≤n) (h2:n<18446744073709551616):IntKind.u64.wrap n=n:=by
 simp [IntKind.wrap,IntKind.signed,IntKind.bits]
 omega
theorem qOG {n:Nat} (h:n<4294967296):IntKind.u64.wrap ((BitVec.ofInt 64 (n:Int) &&& BitVec.ofInt 64 4294967295).toNat:Int)=n:=by
 have e:(BitVec.ofInt 64 (n:Int) &&& BitVec.ofInt 64 4294967295).toNat=n:=by
  rw [BitVec.toNat_and]
  have h1:(BitVec.ofInt 64 (n:Int)).toNat=n:=by
   simp [BitVec.toNat_ofInt]; omega
  have h2:(BitVec.ofInt 64 4294967295).toNat=2 ^ 32 - 1:=by decide
  rw [h1,h2,Nat.and_two_pow_sub_one_eq_mod]
  omega
 rw [e,q7F] <;> omega
theorem qFK {n:Nat} (h:n<4294967296):IntKind.u64.wrap ((BitVec.ofNat 64 n &&& 4294967295#64).toNat:Int)=n:=by
 have:=qOG h
 rwa [show BitVec.ofInt 64 (n:Int)=BitVec.ofNat 64 n from by simp,show BitVec.ofInt 64 4294967295=4294967295#64 from rfl] at this
abbrev tU (n:Int):T:=.v (.int .u64 n)
theorem qFL {n:Nat} (h:n<4294967296):(n:Int).fdiv 4294967296=0:=by
 rw [Int.fdiv_eq_ediv_of_nonneg _ (by omega)]; omega
theorem qFM (a b:Nat) (ha:a<65536) (hb:b<65536):A3 Tryz.prog Γ 252 [tU a,tU b] (.tup [tU 0,tU (a*b:Nat)]):=by
 refine A7 qAe rfl ?_
 have hab:a*b≤65535*65535:=Nat.mul_le_mul (by omega) (by omega)
 have a1:=qFK (n:=a) (by omega)
 have b1:=qFK (n:=b) (by omega)
 have z1:=qFK (n:=0) (by omega)
 have a2:=qFL (n:=a) (by omega)
 have b2:=qFL (n:=b) (by omega)
 have c2:=qFL (n:=a*b) (by omega)
 have m32:min (32:Int).toNat 64=32:=by decide
 have c1:IntKind.u64.wrap ((a:Int)*b)=((a*b:Nat):Int):=by rw [← Int.natCast_mul,q7F] <;> omega
 have z2:IntKind.u64.wrap 0=0:=by decide
 simp [q5J,q5K,IntKind.bits,a1,b1,a2,b2,c1,c2,z1,z2,m32,-Int.natCast_mul]
 erw [a1,b1,c1,c2,z2]
theorem qE1 (a b:Nat) (ha:a<65536) (hb:b<65536):A3 Tryz.prog Γ 209 [tU a,tU b] (.tup [tU 0,tU (a*b:Nat)]):=by
 refine A7 qCh rfl ?_
 simp [q8k]
 refine A1 (qFM a b ha hb) rfl ?_
 simp [q8l]
theorem qIq {j n:Nat} (h1:0<j) (h2:j<n):(List.replicate j [tK 2]++List.replicate (n - j) [tK 0]).take j++((List.replicate j [tK 2]++List.replicate (n - j) [tK 0]).take j).take (min (n - j) j)++(List.replicate j [tK 2]++List.replicate (n - j) [tK 0]).drop (j+min (n - j) j)=List.replicate (j+min (n - j) j) [tK 2]++List.replicate (n - (j+min (n - j) j)) [tK 0]:=by
 have e1:(List.replicate j [tK 2]++List.replicate (n - j) [tK 0]).take j=List.replicate j [tK 2]:=by
  rw [List.take_append_of_le_length (by simp),List.take_of_length_le (by simp)]
 have e2:(List.replicate j [tK 2]).take (min (n - j) j)=List.replicate (min (n - j) j) [tK 2]:=by
  rw [List.take_replicate,Nat.min_eq_left (Nat.min_le_right _ _)]
 rw [e1,e2,← List.replicate_append_replicate (n:=j),List.drop_append,List.drop_of_length_le (by simp),List.nil_append,List.drop_replicate]
 congr 2
 simp; omega
theorem qAf {Q:AX→St→Prop} (n:Nat) (hn:n≤1000000)
  (h0:Q (.exit 0) ⟨[(7,.ls 30 0 n none),(8,.t (tI n)),(37,.t (tB false))],[(30,.sl 71 1 (List.replicate n [tK 2]))]⟩) :
  ∀ (f j:Nat),n - j≤f→0<j→j≤n →
  run Tryz.prog Γ Ea Q ⟨[(7,.ls 30 0 n none),(8,.t (tI j))],[(30,.sl 71 1 (List.replicate j [tK 2]++List.replicate (n - j) [tK 0]))]⟩
 | 0,j,hf,h1,h2=>by
  refine D8 fun K hK=>?_
  have h3:j=n:=by omega
  subst h3
  simp
  simpa using h0
 | f+1,j,hf,h1,h2=>by
  refine D8 fun K hK=>?_
  by_cases h3:j=n
  ·subst h3
   simp
   simpa using h0
  ·have h4:j<n:=by omega
   have ih:=qAf n hn h0 f (j+min (n - j) j) (by omega) (by omega) (by omega)
   rw [← qIq h1 h4] at ih
   have hw:Cm 1 (List.replicate j [tK 2]++List.replicate (n - j) [tK 0]):=by
    intro e he
    rcases List.mem_append.1 he with he | he <;> rw [List.eq_of_mem_replicate he] <;> rfl
   have hl:(List.replicate j [tK 2]++List.replicate (n - j) [tK 0]).length=n:=by simp; omega
   generalize List.replicate j [tK 2]++List.replicate (n - j) [tK 0]=es at *
   have hwt:Cm 1 (es.take j):=fun e he=>hw e (List.mem_of_mem_take he)
   have hjn:min j n=j:=by omega
   have w1:IntKind.i64.wrap ((j:Int)+((min (n - j) j:Nat):Int))=((j+min (n - j) j:Nat):Int):=by rw [A4] <;> omega
   simp [h4,h2,hl,hwt,hjn,w1,-Int.natCast_add]
   rw [hK]
   simpa using ih
theorem q8m (n:Nat) (hn:n≤60000):Ab Tryz.prog Γ 144 [.sl [[tK 2]] (some 1) (some false),tI n] (.sl (List.replicate n [tK 2]) none none):=by
 refine Aq Ks rfl ?_
 have em:A3 Tryz.prog Γ 209 [tU 1,tU n] (.tup [tU 0,tU n]):=by
  have:=qE1 (Γ:=Γ) 1 n (by omega) (by omega)
  rwa [Nat.one_mul] at this
 have u1:IntKind.u64.wrap (n:Int)=n:=by rw [q7F] <;> omega
 have u2:IntKind.u64.wrap 1=1:=by decide
 have u3:IntKind.i64.wrap (n:Int)=n:=by rw [A4] <;> omega
 have u4:¬ (9223372036854775807:Int)<n:=by omega
 have u5:¬ (n:Int)<0:=by omega
 have hw2:Cm 1 [[tK 2]]:=by intro e he; simp at he; subst he; rfl
 simp [Gk,u1,u2,u5]
 refine A1 em rfl ?_
 simp [u3,u4]
 refine ⟨by omega,?_⟩
 by_cases h0:n=0
 ·subst h0
  simp
  refine D8 fun K hK=>?_
  simp [D5,Ai]
 ·have hm1:min n 1=1:=by omega
  have hdr:(List.replicate n [tK 0]).drop 1=List.replicate (n - 1) [tK 0]:=by rw [List.drop_replicate]
  have g:=fun Q h0=>qAf (Γ:=Γ) (Q:=Q) n (by omega) h0 n 1 (by omega) (by omega) (by omega)
  simp at g
  simp [hm1]
  refine g _ ?_
  simp [D5,Ai]
theorem q8n (n:Nat) (hn:n≤60000):Ab Tryz.prog Γ 143 [tI n] (.sl (List.replicate n [tK 2]) none none):=by
 refine Aq q89 rfl ?_
 simp [q2X]
 refine A9 (q8m n hn) rfl ?_
 simp [q2Y]
theorem qAg (c:B0) (hc:COk c) (hi:(Bg c).length≤60000) (hs:(Af c).length≤60000):Ab Tryz.prog Γ 81 [.agg (tC c)] (.agg [.sl (Ap (List.replicate (Bg c).length 2)) none none,.sl (Ap (List.replicate (Af c).length 2)) none none]):=by
 refine Aq qAd rfl ?_
 have e1:=V6 (Γ:=Γ) c hc
 have e2:=Et (Γ:=Γ) c hc
 have b1:=q8n (Γ:=Γ) (Bg c).length hi
 have b2:=q8n (Γ:=Γ) (Af c).length hs
 have v1:∀ n,Ap (List.replicate n 2)=List.replicate n [tK 2]:=fun n=>by simp [Ac]
 simp [tC,A5,A8,Ad,B6] at e1 e2
 simp [q5H,tC,A5,A8,Ad,B6]
 refine A9 e1 rfl ?_
 simp [A0]
 refine A9 b1 rfl ?_
 simp
 refine A9 e2 rfl ?_
 simp [A0]
 refine A9 b2 rfl ?_
 simp [q5I,v1]
theorem qP7 {n:Nat} (h:n<4611686018427387904):IntKind.i64.wrap ((n % 2 ^ IntKind.i64.bits &&& 1 % 2 ^ IntKind.i64.bits:Nat):Int)=((n % 2:Nat):Int):=by
 have e:(n % 2 ^ IntKind.i64.bits &&& 1 % 2 ^ IntKind.i64.bits:Nat)=n % 2:=by
  have h0:IntKind.i64.bits=64:=rfl
  rw [h0,Nat.mod_eq_of_lt (show n<2 ^ 64 by omega),show 1 % 2 ^ 64=2 ^ 1 - 1 by decide,Nat.and_two_pow_sub_one_eq_mod]
 rw [e,A4] <;> omega
theorem qOH {n:Nat}:(n:Int).fdiv (2 ^ min 1 IntKind.i64.bits)=((n / 2:Nat):Int):=by
 have h1:min 1 IntKind.i64.bits=1:=by decide
 rw [h1,Int.fdiv_eq_ediv_of_nonneg _ (by omega)]; omega
theorem qFN {Q:AX→St→Prop} (addr:Sl Int) (hl:addr.l.length≤1000000) (hv:∀ v ∈ addr.l,0≤v) (R:Bool)
  (h0:∀ i:Nat,decide (i=0)=R→Q (.exit 0) ⟨[(0,.t (tI i)),(7,.t (tV addr)),(8,.t (tI addr.l.length)),(9,.t (tI addr.l.length)),(10,.t (tB false))],[]⟩)
  (h1:R=false→Q .ret ⟨[(4,.t (tB false))],[]⟩) :
  ∀ (k j i:Nat),k+j=addr.l.length→i≤1000000000→Qv i (addr.l.drop j)=R →
  run Tryz.prog Γ Ht Q ⟨[(0,.t (tI i)),(7,.t (tV addr)),(8,.t (tI addr.l.length)),(9,.t (tI j))],[]⟩
 | 0,j,i,h,hi,hR=>by
  refine Q0 fun K hK=>?_
  have h2:j=addr.l.length:=by omega
  subst h2
  rw [List.drop_of_length_le (Nat.le_refl _)] at hR
  have:=h0 i hR
  simp
  simpa using this
 | k+1,j,i,h,hi,hR=>by
  refine Q0 fun K hK=>?_
  have h2:j<addr.l.length:=by omega
  rw [List.drop_eq_getElem_cons h2] at hR
  have e1:=gE (f:=tK) 0 h2
  have e1':=gE' (f:=tK) 0 h2
  have hv0:=hv _ (List.getElem_mem h2)
  rw [Bv h2] at e1 e1'
  generalize addr.l[j]=v at *
  have w1:IntKind.i64.wrap ((j:Int)+1)=(j:Int)+1:=by rw [A4] <;> omega
  have a1:=qP7 (n:=i) (by omega)
  have f1:=qOH (n:=i)
  have hk:=Ot (Γ:=Γ) v
  simp only [Qv] at hR
  simp [tV,A0,A6,h2,e1,e1']
  refine A1 hk rfl ?_
  by_cases hv1:v≤1
  ·have wv:IntKind.i64.wrap v=v:=by rw [A4] <;> omega
   by_cases hne:v=(i:Int) % 2
   ·rw [if_neg (by simp [hne])] at hR
    have ih:=qFN addr hl hv R h0 h1 k (j+1) (i / 2) (by omega) (by omega) hR
    simp [I4,hv1,wv,a1,← hne,f1,w1]
    rw [hK]
    simpa [tV] using ih
   ·rw [if_pos ⟨hv1,hne⟩] at hR
    simp [I4,hv1,wv,a1,hne]
    exact h1 hR.symm
  ·rw [if_neg (by simp [hv1])] at hR
   have ih:=qFN addr hl hv R h0 h1 k (j+1) (i / 2) (by omega) (by omega) hR
   simp [I4,hv1,f1,w1]
   rw [hK]
   simpa [tV] using ih
theorem B5 {i:Nat} (h:i≤1000000000):IntKind.i64.wrap ((i:Int)+1)=(i:Int)+1:=by rw [A4] <;> omega
theorem q7G (i:Nat) (hi:i≤1000000000) (addr:Sl Int) (hl:addr.l.length≤1000000) (hv:∀ v ∈ addr.l,0≤v):A3 Tryz.prog Γ 162 [tI i,tV addr] (tB (Qv i addr.l)):=by
 refine A7 q3o rfl ?_
 have g:=fun Q h0 h1=>qFN (Γ:=Γ) (Q:=Q) addr hl hv (Qv i addr.l) h0 h1 addr.l.length 0 i (by omega) hi rfl
 simp [Wi,tV,A0] at g ⊢
 refine g _ (fun q hq=>?_) (fun hq=>?_)
 ·simp [Nr,← hq]
 ·simp [Nr,hq]
theorem q8C (w:Sl Int) (b:Nat) (hb:b≤1000000000) (hw:w.l.length≤1000000000):A3 Tryz.prog Γ 163 [tV w,tI b] (tK (q0s w.l b)):=by
 refine A7 q88 rfl ?_
 unfold q0s
 by_cases h:b<w.l.length
 ·have e1:=gE (f:=tK) 0 h
  have e1':=gE' (f:=tK) 0 h
  rw [if_pos h]
  have hr:=Tu (Γ:=Γ) (w.l.getD b 0)
  generalize w.l.getD b 0=v at *
  have h2:¬ (w.l.length:Int)≤b:=by omega
  have h3:¬ w.l.length≤b:=by omega
  simp [Vx,tV,A0,A6,h,h2,h3,e1,e1']
  refine A1 hr rfl ?_
  simp [Vy]
 ·rw [if_neg h]
  have h2:(w.l.length:Int)≤b:=by omega
  have h3:w.l.length≤b:=by omega
  simp [Vx,tV,A0,h2,h3,Vy]
theorem q8o (a b:Int):A3 Tryz.prog Γ 164 [tK a,tK b] (tK (q5G a b)):=by
 refine A7 q4l rfl ?_
 unfold q5G
 by_cases h:a=b
 ·simp [Ox,h,Oy]
 ·simp [Ox,h,Oy]
theorem qIr (n:Nat) (hn:n≤60000):F6 Tryz.prog Γ 144 [] [.t (.sl [[tK 2]] (some 1) (some false)),.t (tI n)] (.ls 30 0 n none) [(30,.sl 71 1 (Ap (List.replicate n 2)))]:=by
 refine Gy Ks rfl ?_
 have em:A3 Tryz.prog Γ 209 [tU 1,tU n] (.tup [tU 0,tU n]):=by
  have:=qE1 (Γ:=Γ) 1 n (by omega) (by omega)
  rwa [Nat.one_mul] at this
 have u1:IntKind.u64.wrap (n:Int)=n:=by rw [q7F] <;> omega
 have u2:IntKind.u64.wrap 1=1:=by decide
 have u3:IntKind.i64.wrap (n:Int)=n:=by rw [A4] <;> omega
 have u4:¬ (9223372036854775807:Int)<n:=by omega
 have u5:¬ (n:Int)<0:=by omega
 have hw2:Cm 1 [[tK 2]]:=by intro e he; simp at he; subst he; rfl
 have v1:Ap (List.replicate n 2)=List.replicate n [tK 2]:=by simp [Ac]
 rw [v1]
 simp [Gk,u1,u2,u5]
 refine A1 em rfl ?_
 simp [u3,u4]
 refine ⟨by omega,?_⟩
 by_cases h0:n=0
 ·subst h0
  simp
  refine D8 fun K hK=>?_
  simp [D5]
 ·have hm1:min n 1=1:=by omega
  have hdr:(List.replicate n [tK 0]).drop 1=List.replicate (n - 1) [tK 0]:=by rw [List.drop_replicate]
  have g:=fun Q h0=>qAf (Γ:=Γ) (Q:=Q) n (by omega) h0 n 1 (by omega) (by omega) (by omega)
  simp at g
  simp [hm1]
  refine g _ ?_
  simp [D5]
theorem q2F (n:Nat) (hn:n≤60000):Ab Tryz.prog Γ 97 [tI n] (.sl (Ap (List.replicate n 2)) none none):=by
 refine Aq q3q rfl ?_
 have v1:Ap (List.replicate n 2)=List.replicate n [tK 2]:=by simp [Ac]
 simp [Wm]
 refine A9 (q8m n hn) rfl ?_
 simp [Wn,v1]
theorem qHR (n:Nat) (hn:n≤60000):F6 Tryz.prog Γ 97 [] [.t (tI n)] (.ls 5030 0 n none) [(5030,.sl 71 1 (Ap (List.replicate n 2)))]:=by
 refine Gy q2z rfl ?_
 simp [V9]
 refine ⟨_,_,qIr n hn,?_⟩
 simp [Va]
def tW (s:Sl (Sl Int)):T:=.sl (Ac tV s.l) s.cap s.nl
def Sl.z:Sl Int:=⟨[],none,none⟩
theorem qL6 {Q:AX→St→Prop} (addr:Sl Int) (n:Nat) (hn:n≤1000000) (first:Bool) (w:Sl Int) (hw:w.l.length≤1000000) (tw:T) (len i:Int) (R:List Int)
  (h0:R.length=n→Q (.exit 2) ⟨[(1,.t (tV addr)),(5,.ls 22030 0 n none),(6,.t (tB first)),(8,.t (tV w)),(18,.t tw),(19,.t (tI len)),(20,.t (tI i)),(30,.t (tI n)),(31,.t (tI n)),(32,.t (tB false))],[(22030,.sl 71 1 (Ap R))]⟩) :
  ∀ (k b:Nat) (out:List Int),k+b=n→out.length=n→Wv w.l first k b out=R →
  run Tryz.prog Γ Lx Q ⟨[(1,.t (tV addr)),(5,.ls 22030 0 n none),(6,.t (tB first)),(8,.t (tV w)),(18,.t tw),(19,.t (tI len)),(20,.t (tI i)),(30,.t (tI n)),(31,.t (tI b))],[(22030,.sl 71 1 (Ap out))]⟩
 | 0,b,out,h,ho,hR=>by
  refine V7 fun K hK=>?_
  have h2:b=n:=by omega
  subst h2
  have hR:out=R:=hR
  subst hR
  simp
  simpa using h0 ho
 | k+1,b,out,h,ho,hR=>by
  refine V7 fun K hK=>?_
  have h2:b<n:=by omega
  have hbo:b<out.length:=by omega
  simp only [Wv] at hR
  have ih:=qL6 addr n hn first w hw tw len i R h0 k (b+1) _ (by omega) (by rw [List.length_set]; exact ho) hR
  have e1:=gE (f:=tK) 0 hbo
  have e1':=gE' (f:=tK) 0 hbo
  have hb:=q8C (Γ:=Γ) w b (by omega) (by omega)
  have hs:∀ v:Int,(Ap out).set b [tK v]=Ap (out.set b v):=fun v=>Jb
  have w1:=B5 (i:=b) (by omega)
  generalize out.getD b 0=o at *
  cases first with
  | true =>
   simp only [if_pos] at ih
   simp [h2]
   refine A1 hb rfl ?_
   simp [h2,hbo,A0,hs,w1,ho]
   rw [hK]
   simpa using ih
  | false =>
   simp only [Bool.false_eq_true,if_false] at ih
   simp [h2,hbo,A0,A6,e1,e1',ho]
   refine A1 hb rfl ?_
   simp
   refine A1 (q8o o (q0s w.l b)) rfl ?_
   simp [h2,hbo,A0,hs,w1,ho]
   rw [hK]
   simpa using ih
theorem qIs {Q:AX→St→Prop} (addr:Sl Int) (ha:addr.l.length≤1000000) (hv:∀ v ∈ addr.l,0≤v) (n:Nat) (hn:n≤1000000) (words:Sl (Sl Int)) (hl:words.l.length≤1000000) (hw:∀ w ∈ words.l,w.l.length≤1000000) (R:List Int × Bool)
  (h0:R.1.length=n→Q (.exit 0) ⟨[(1,.t (tV addr)),(5,.ls 22030 0 n none),(6,.t (tB R.2)),(18,.t (tW words)),(19,.t (tI words.l.length)),(20,.t (tI words.l.length)),(21,.t (tB false))],[(22030,.sl 71 1 (Ap R.1))]⟩) :
  ∀ (k i:Nat) (out:List Int) (first:Bool),k+i=words.l.length→out.length=n→q3v addr.l i ((words.l.drop i).map (·.l)) (out,first)=R →
  run Tryz.prog Γ Ly Q ⟨[(1,.t (tV addr)),(5,.ls 22030 0 n none),(6,.t (tB first)),(18,.t (tW words)),(19,.t (tI words.l.length)),(20,.t (tI i))],[(22030,.sl 71 1 (Ap out))]⟩
 | 0,i,out,first,h,ho,hR=>by
  refine V8 fun K hK=>?_
  have h2:i=words.l.length:=by omega
  subst h2
  rw [List.drop_of_length_le (Nat.le_refl _)] at hR
  have hR:(out,first)=R:=hR
  subst hR
  have:=h0 ho
  simp
  simpa using this
 | k+1,i,out,first,h,ho,hR=>by
  refine V8 fun K hK=>?_
  have h2:i<words.l.length:=by omega
  rw [List.drop_eq_getElem_cons h2,List.map_cons] at hR
  simp only [q3v] at hR
  have e1:=gE (f:=tV) Sl.z h2
  have e1':=gE' (f:=tV) Sl.z h2
  have hwi:=hw _ (List.getElem_mem h2)
  rw [show words.l.getD i Sl.z=words.l[i] by simp [List.getD_eq_getElem?_getD,h2]] at e1 e1'
  have hm:=q7G (Γ:=Γ) i (by omega) addr ha hv
  have w1:=B5 (i:=i) (by omega)
  by_cases hmm:Qv i addr.l=true
  ·rw [if_pos hmm] at hR
   have hlen:∀ (w:List Int) (f:Bool) (k b:Nat) (o:List Int),(Wv w f k b o).length=o.length:=by
    intro w f k
    induction k with
    | zero=>intro b o; rfl
    | succ k ih=>intro b o; simp only [Wv]; rw [ih,List.length_set]
   have ih:=qIs addr ha hv n hn words hl hw R h0 k (i+1) _ _ (by omega) (by rw [hlen]; exact ho) hR
   generalize words.l[i]=w at *
   have g:=fun Q h0=>qL6 (Γ:=Γ) (Q:=Q) addr n hn first w hwi (tW words) words.l.length i (Wv w.l first n 0 out) h0 n 0 out (by omega) ho rfl
   simp only [ho] at ih
   generalize Wv w.l first n 0 out=R1 at *
   rw [hmm] at hm
   simp [tW] at ih g
   simp [tW,A0,A6,h2,e1,e1']
   refine A1 hm rfl ?_
   simp [h2]
   refine g _ fun hR1=>?_
   simp [w1]
   rw [hK]
   simpa using ih
  ·rw [if_neg hmm] at hR
   have ih:=qIs addr ha hv n hn words hl hw R h0 k (i+1) _ _ (by omega) ho hR
   generalize words.l[i]=w at *
   simp only [Bool.not_eq_true] at hmm
   rw [hmm] at hm
   simp [tW] at ih
   simp [tW,A0,A6,h2,e1,e1']
   refine A1 hm rfl ?_
   simp [w1]
   rw [hK]
   simpa using ih
theorem qHS (words:Sl (Sl Int)) (hl:words.l.length≤1000000) (hw:∀ w ∈ words.l,w.l.length≤60000) (addr:Sl Int) (ha:addr.l.length≤1000000) (hv:∀ v ∈ addr.l,0≤v) :
  Ab Tryz.prog Γ 91 [tW words,tV addr] (if words.l=[] then .sl [] (some 0) (some true) else .sl (Ap (Z1 (words.l.map (·.l)) addr.l)) none none):=by
 refine Aq q7C rfl ?_
 by_cases h0:words.l=[]
 ·rw [if_pos h0]
  simp [Tz,tW,h0,Cd,U0]
 ·rw [if_neg h0]
  have h1:0<words.l.length:=List.length_pos_iff.2 h0
  have e1:=gE (f:=tV) Sl.z h1
  have e1':=gE' (f:=tV) Sl.z h1
  rw [show words.l.getD 0 Sl.z=words.l[0] by simp [List.getD_eq_getElem?_getD,h1]] at e1 e1'
  have hw0:=hw _ (List.getElem_mem h1)
  have hu:=qHR (Γ:=Γ) words.l[0].l.length hw0
  have hR:Z1 (words.l.map (·.l)) addr.l=(q3v addr.l 0 (words.l.map (·.l)) (List.replicate words.l[0].l.length 2,true)).1:=by
   obtain ⟨l,cp,n0⟩:=words
   cases l with
   | nil=>exact absurd rfl h0
   | cons w ws=>rfl
  rw [hR]
  generalize words.l[0]=w at *
  have g:=fun Q h0=>qIs (Γ:=Γ) (Q:=Q) addr ha hv w.l.length (by omega) words hl (fun w h=>by have:=hw w h; omega) (q3v addr.l 0 (words.l.map (·.l)) (List.replicate w.l.length 2,true)) h0 words.l.length 0 (List.replicate w.l.length 2) true (by omega) (by simp) (by rw [List.drop_zero])
  generalize q3v addr.l 0 (words.l.map (·.l)) (List.replicate w.l.length 2,true)=R at *
  obtain ⟨R1,R2⟩:=R
  simp [tW] at g
  simp only [tV] at e1 e1'
  have h0':¬ (words.l.length:Int)=0:=by omega
  simp [Tz,tW,h0,h0',h1,A0,A6,e1,e1']
  refine ⟨_,_,hu,?_⟩
  simp [A0]
  refine g _ fun hR1=>?_
  have vt:(Ap R1).take w.l.length=Ap R1:=by rw [← hR1]; exact Cj
  simp [U0,Ai,vt]
theorem q2G {i:Nat} {addr data w:List Int} {en:Int}:∀ {k b:Nat},(U2 i addr data en w k b).length=k
 | 0,_=>rfl
 | k+1,b=>by simp [U2,q2G]
theorem q6A {i:Nat} {addr data w:List Int} {en:Int}:∀ {k b j:Nat},j<k→(U2 i addr data en w k b).getD j 0=q3w i addr en (q0s w (b+j)) (q0s data (b+j))
 | k+1,b,0,_=>rfl
 | k+1,b,j+1,h=>by
  show (U2 i addr data en w k (b+1)).getD j 0=_
  rw [q6A (by omega),show b+1+j=b+(j+1) by omega]
theorem qE2 {hp:List (Nat × B9)} {k:Nat}:∀ (l:List T),Ah ((l.map AV.t).map (Ai hp k))=some l
 | []=>rfl
 | t::l=>by
  have ih:=qE2 (hp:=hp) (k:=k) l
  cases k <;> simp only [List.map_cons,Ai,Ah,ih] <;> rfl
theorem qL7 {Q:AX→St→Prop} (addr data:Sl Int) (ha:addr.l.length≤1000000) (hv:∀ v ∈ addr.l,0≤v) (hd:data.l.length≤1000000) (en:Int) (tw:T) (n i:Nat) (hi:i<n) (hn:n≤1000000) (w:Sl Int) (hw:w.l.length≤1000000) (cells:List AV)
  (hcl:i+1≤cells.length) (hc:(cells.drop i).take 1=[.ls 37 0 w.l.length none]) (R:List Int) (hRl:R.length=w.l.length) (hR:∀ b,b<w.l.length→R.getD b 0=q3w i addr.l en (q0s w.l b) (q0s data.l b))
  (h0:Q (.exit 2) ⟨[(1,.t (tV addr)),(2,.t (tV data)),(3,.t (tK en)),(9,.t (tB (q7E addr.l en))),(10,.lb 25 n),(11,.t (tI i)),(12,.t (tV w)),(26,.t tw),(27,.t (tI n)),(28,.t (tI i)),(49,.t (tI w.l.length)),(50,.t (tI w.l.length)),(51,.t (tB false))],[(25,.bx cells),(37,.sl 71 1 (Ap R))]⟩) :
  ∀ (k b:Nat) (row:List Int),k+b=w.l.length→row=R.take b++w.l.drop b →
  run Tryz.prog Γ K3 Q ⟨[(1,.t (tV addr)),(2,.t (tV data)),(3,.t (tK en)),(9,.t (tB (q7E addr.l en))),(10,.lb 25 n),(11,.t (tI i)),(12,.t (tV w)),(26,.t tw),(27,.t (tI n)),(28,.t (tI i)),(49,.t (tI w.l.length)),(50,.t (tI b))],[(25,.bx cells),(37,.sl 71 1 (Ap row))]⟩
 | 0,b,row,h,hr=>by
  refine Rz fun K hK=>?_
  have h2:b=w.l.length:=by omega
  subst h2
  rw [List.drop_length,List.append_nil,← hRl,List.take_length] at hr
  subst hr
  simp
  simpa using h0
 | k+1,b,row,h,hr=>by
  refine Rz fun K hK=>?_
  have h2:b<w.l.length:=by omega
  have h2R:b<R.length:=by omega
  have hrl:row.length=w.l.length:=by rw [hr]; simp; omega
  have ih:=qL7 addr data ha hv hd en tw n i hi hn w hw cells hcl hc R hRl hR h0 k (b+1) _ (by omega) rfl
  have hset:∀ v:Int,v=R.getD b 0→(Ap row).set b [tK v]=Ap (R.take (b+1)++w.l.drop (b+1)):=by
   rintro v rfl
   rw [show (Ap row).set b [tK (R.getD b 0)]=Ap (row.set b (R.getD b 0)) from Jb,hr]
   congr 1
   have ht:(R.take b).length=b:=by rw [List.length_take]; omega
   rw [List.set_append_right _ _ (by omega),ht,Nat.sub_self,List.drop_eq_getElem_cons h2,List.set_cons_zero,show R.take (b+1)=R.take b++[R.getD b 0] by rw [List.take_add_one,List.getElem?_eq_getElem h2R,Bv h2R]; rfl,List.append_assoc]
   rfl
  have hRb:=hR b h2
  have hb1:=q8C (Γ:=Γ) w b (by omega) (by omega)
  have hb2:=q8C (Γ:=Γ) data b (by omega) (by omega)
  have hm:=q7G (Γ:=Γ) i (by omega) addr ha hv
  have w1:=B5 (i:=b) (by omega)
  generalize R.take (b+1)++w.l.drop (b+1)=row' at *
  generalize R.getD b 0=v at *
  generalize q0s w.l b=o at *
  generalize q0s data.l b=d at *
  unfold q3w at hRb
  generalize q7E addr.l en=su at *
  have hcv:=q8o (Γ:=Γ) o d
  have hii:(i:Int)<n:=by omega
  simp [h2]
  refine A1 hb1 rfl ?_
  simp
  refine A1 hb2 rfl ?_
  by_cases he:en=0
  ·rw [if_pos (.inl he)] at hRb
   subst hRb
   simp [he,hi,hii,hcl,hc,hrl,h2,A0,hset,w1]
   rw [hK]
   simpa [he] using ih
  ·simp [he]
   refine A1 hm rfl ?_
   cases hmm:Qv i addr.l with
   | false =>
    rw [if_pos (.inr hmm)] at hRb
    subst hRb
    simp [hmm,hi,hii,hcl,hc,hrl,h2,A0,hset,w1]
    rw [hK]
    simpa using ih
   | true =>
    rw [if_neg (by simp [he,hmm])] at hRb
    cases su with
    | true =>
     rw [if_pos rfl] at hRb
     subst hRb
     simp [hmm,hi,hii,hcl,hc,hrl,h2,A0,hset,w1]
     rw [hK]
     simpa using ih
    | false =>
     rw [if_neg (by simp)] at hRb
     simp [hmm,hi,hii,hcl,hc,hrl,h2,A0,w1]
     refine A1 hcv rfl ?_
     rw [← hRb]
     simp [hi,hii,hcl,hc,hrl,h2,A0,hset,w1]
     rw [hK]
     simpa using ih
def q6B (done:List (List Int)) (n:Nat):List AV:=(done.map fun r=>T.sl (Ap r) none none).map AV.t++List.replicate (n - done.length) (AV.t (T.sl [] (some 0) (some true)))
theorem qIt {done:List (List Int)} {n:Nat} (h:done.length≤n):(q6B done n).length=n:=by simp [q6B]; omega
theorem qIu {done:List (List Int)} {n:Nat} (h:done.length<n) (a:AV):(q6B done n).take done.length++[a]++(q6B done n).drop (done.length+1)=(done.map fun r=>T.sl (Ap r) none none).map AV.t++[a]++List.replicate (n - (done.length+1)) (AV.t (T.sl [] (some 0) (some true))):=by
 have e:((done.map fun r=>T.sl (Ap r) none none).map AV.t).length=done.length:=by simp
 unfold q6B
 rw [show n - done.length=(n - (done.length+1))+1 by omega,List.replicate_succ]
 rw [List.take_append_of_le_length (by omega),List.take_of_length_le (by omega),List.drop_append,List.drop_of_length_le (by omega),e,show done.length+1 - done.length=1 by omega]
 simp
theorem qIv {done:List (List Int)} {n:Nat} (h:done.length<n) (R:List Int) (ty:Nat) :
  ((done.map fun r=>T.sl (Ap r) none none).map AV.t++[AV.ls 37 0 R.length none]++List.replicate (n - (done.length+1)) (AV.t (T.sl [] (some 0) (some true)))).map (Bl 37 (.sl ty 1 (Ap R)))=q6B (done++[R]) n:=by
 have vt:(Ap R).take R.length=Ap R:=Cj
 unfold q6B
 simp [Bl,frz1,frz0,Ai,A2,vt,Function.comp_def]
theorem qL8 {Q:AX→St→Prop} (addr data:Sl Int) (ha:addr.l.length≤1000000) (hv:∀ v ∈ addr.l,0≤v) (hd:data.l.length≤1000000) (en:Int) (words:Sl (Sl Int)) (hl:words.l.length≤1000000) (hw:∀ w ∈ words.l,w.l.length≤1000000) (R:List (List Int)) (hRl:R.length=words.l.length)
  (h0:Q (.exit 0) ⟨[(1,.t (tV addr)),(2,.t (tV data)),(3,.t (tK en)),(9,.t (tB (q7E addr.l en))),(10,.lb 25 words.l.length),(26,.t (tW words)),(27,.t (tI words.l.length)),(28,.t (tI words.l.length)),(29,.t (tB false))],[(25,.bx (q6B R words.l.length))]⟩) :
  ∀ (k:Nat) (done:List (List Int)),k+done.length=words.l.length→done++Ez addr.l data.l en done.length ((words.l.drop done.length).map (·.l))=R →
  run Tryz.prog Γ K4 Q ⟨[(1,.t (tV addr)),(2,.t (tV data)),(3,.t (tK en)),(9,.t (tB (q7E addr.l en))),(10,.lb 25 words.l.length),(26,.t (tW words)),(27,.t (tI words.l.length)),(28,.t (tI done.length))],[(25,.bx (q6B done words.l.length))]⟩
 | 0,done,h,hR=>by
  refine S0 fun K hK=>?_
  have h2:done.length=words.l.length:=by omega
  rw [List.drop_of_length_le (by omega)] at hR
  simp only [List.map_nil,Ez,List.append_nil] at hR
  subst hR
  simp [h2]
  simpa using h0
 | k+1,done,h,hR=>by
  refine S0 fun K hK=>?_
  have h2:done.length<words.l.length:=by omega
  rw [List.drop_eq_getElem_cons h2,List.map_cons] at hR
  simp only [Ez] at hR
  have e1:=gE (f:=tV) Sl.z h2
  have e1':=gE' (f:=tV) Sl.z h2
  have hwi:=hw _ (List.getElem_mem h2)
  rw [show words.l.getD done.length Sl.z=words.l[done.length] by simp [List.getD_eq_getElem?_getD,h2]] at e1 e1'
  have hrow:(U2 done.length addr.l data.l en words.l[done.length].l words.l[done.length].l.length 0).length=words.l[done.length].l.length:=q2G
  have hget:=fun b (hb:b<words.l[done.length].l.length)=>q6A (i:=done.length) (addr:=addr.l) (data:=data.l) (en:=en) (w:=words.l[done.length].l) (b:=0) hb
  simp only [Nat.zero_add] at hget
  have ih:=qL8 addr data ha hv hd en words hl hw R hRl h0 k (done++[U2 done.length addr.l data.l en words.l[done.length].l words.l[done.length].l.length 0]) (by simp; omega) (by rw [← hR]; simp)
  generalize words.l[done.length]=w at *
  generalize U2 done.length addr.l data.l en w.l w.l.length 0=row at *
  have hcl:=qIt (done:=done) (n:=words.l.length) (by omega)
  have hput:=qIu h2 (.ls 37 0 w.l.length none)
  have hfz:=qIv h2 row 71
  rw [hrow] at hfz
  have g:=fun Q cells hc1 hc2 h0=>qL7 (Γ:=Γ) (Q:=Q) addr data ha hv hd en (tW words) words.l.length done.length h2 hl w hwi cells hc1 hc2 row hrow hget h0 w.l.length 0 w.l (by omega) (by simp)
  generalize hC0:q6B done words.l.length=C0 at *
  generalize hC1:(done.map fun r=>T.sl (Ap r) none none).map AV.t++[AV.ls 37 0 w.l.length none]++List.replicate (words.l.length - (done.length+1)) (AV.t (T.sl [] (some 0) (some true)))=C1 at *
  have hc1:done.length+1≤C1.length:=by rw [← hC1]; simp
  have hc2:(C1.drop done.length).take 1=[.ls 37 0 w.l.length none]:=by
   rw [← hC1,List.append_assoc,List.drop_append,List.drop_of_length_le (by simp)]
   simp
  have g:=fun Q h0=>g Q C1 hc1 hc2 h0
  have w1:=B5 (i:=done.length) (by omega)
  have hz:List.replicate w.l.length [T.v (Value.int .u8 0)]=Ap (List.replicate w.l.length 0):=by simp [Ac]
  have hcp:(Ap w.l).take w.l.length=Ap w.l:=Cj
  have hdl:(Ap (List.replicate w.l.length (0:Int))).drop w.l.length=[]:=by rw [List.drop_of_length_le (by simp [Ac])]
  have hii:(done.length:Int)<words.l.length:=by omega
  simp [tW] at ih g
  simp only [tV] at e1 e1' g ih
  rw [List.append_assoc,List.singleton_append] at hput
  simp [tV,tW,A0,A6,h2,e1,e1']
  simp [hz,A0,A6,h2,hii,hcl,hput,hc1,hc2,hcp,hdl]
  refine ⟨by omega,by omega,by omega,g _ ?_⟩
  simp [w1,St.freeze,B9.closed,Bl,frz1,frz0,Du,del,hfz]
  rw [hK]
  simpa using ih
theorem qE3 (v:Int):A3 Tryz.prog Γ 165 [tK v] (tB (!I4 v)):=by
 refine A7 q3p rfl ?_
 simp [Wj]
 refine A1 (Ot v) rfl ?_
 simp [Wl]
def qGM (R:List (List Int)):T:=.sl ((R.map fun r=>T.sl (Ap r) none none).map fun t=>[t]) (some R.length) none
theorem q6C {addr data:List Int} {en:Int}:∀ {ws:List (List Int)} {i:Nat},(Ez addr data en i ws).length=ws.length
 | [],_=>rfl
 | w::ws,i=>by simp [Ez,q6C]
theorem qFO (words:Sl (Sl Int)) (hl:words.l.length≤1000000) (hw:∀ w ∈ words.l,w.l.length≤1000000) (addr data:Sl Int) (ha:addr.l.length≤1000000) (hv:∀ v ∈ addr.l,0≤v) (hd:data.l.length≤1000000) (en:Int) :
  Ab Tryz.prog Γ 92 [tW words,tV addr,tV data,tK en] (qGM (Ez addr.l data.l en 0 (words.l.map (·.l)))):=by
 refine Aq q64 rfl ?_
 have hcf:=E0 (Γ:=Γ) addr.l addr.cap addr.nl 165 [] (fun v=>!I4 v) (fun x _=>qE3 x) (by omega)
 have hRl:(Ez addr.l data.l en 0 (words.l.map (·.l))).length=words.l.length:=by rw [q6C,List.length_map]
 have g:=fun Q h0=>qL8 (Γ:=Γ) (Q:=Q) addr data ha hv hd en words hl hw (Ez addr.l data.l en 0 (words.l.map (·.l))) hRl h0 words.l.length [] (by simp) (by simp)
 have hsu:q7E addr.l en=if en=1 then !addr.l.any (fun v=>!I4 v) else false:=by
  unfold q7E
  by_cases h:en=1 <;> simp [h]
 have hall:=qE2 (hp:=[(25,B9.bx (q6B (Ez addr.l data.l en 0 (words.l.map (·.l))) words.l.length))]) (k:=3) ((Ez addr.l data.l en 0 (words.l.map (·.l))).map fun r=>T.sl (Ap r) none none)
 have hst:q6B (Ez addr.l data.l en 0 (words.l.map (·.l))) words.l.length=((Ez addr.l data.l en 0 (words.l.map (·.l))).map fun r=>T.sl (Ap r) none none).map AV.t:=by
  unfold q6B
  rw [hRl,Nat.sub_self]
  simp
 have h0:q6B [] words.l.length=List.replicate words.l.length (AV.t (T.sl [] (some 0) (some true))):=by simp [q6B]
 rw [h0] at g
 rw [hst] at g hall
 generalize Ez addr.l data.l en 0 (words.l.map (·.l))=R at *
 have hT:qGM R=.sl ((R.map fun r=>T.sl (Ap r) none none).map fun t=>[t]) (some words.l.length) none:=by rw [← hRl]; rfl
 rw [hT]
 generalize (R.map fun r=>T.sl (Ap r) none none)=RT at *
 rw [List.map_map] at hall
 simp [tW,tV] at g
 by_cases he:en=1
 ·rw [if_pos he] at hsu
  simp [Qs,tW,tV,he]
  refine A1 hcf rfl ?_
  rw [hsu,he] at g
  simp [A0]
  refine ⟨by omega,g _ ?_⟩
  simp [Qu,Ai,hall]
 ·rw [if_neg he] at hsu
  rw [hsu] at g
  simp [Qs,tW,tV,he,A0]
  refine ⟨by omega,g _ ?_⟩
  simp [Qu,Ai,hall]
end Go.Lg
namespace Go.Lg
open Go
section
variable {P:Program} {Γ:Tables} {Q:AX→St→Prop} {s:St}
/- probecard/probecardref01.Choices (function 275) -/
abbrev q8p:IC:=.gh (.seq (.seq (.reg [om 7 6,od 8 (fa 0 2),od 9 (ld 1 8),od 10 (le 0 9),od 11 (.bin .lss (tm 7) (tm 10))] [kp [1,2,5,6,11] [25]]) (.cond (tm 11) .skip (.exit 0))) (.seq (.block 1 (.seq (.reg [od 14 (fa 0 2),od 15 (ld 1
 14),om 16 6,od 17 (ia 4 15 16),od 18 (fa 0 17),od 19 (ld 1 18),om 20 1,od 21 (.bin .eql (tm 19) (tm 20))] [kp [1,2,5,6,21] [25]]) (.cond (tm 21) (.reg [om 22 5,om 23 6,od 24 (.bsl true 3 1 [(tm 23)]),od 25 (.app false
 3 1 (tm 22) (tm 24)),om 5 25] [kp [1,2,5,6] [25]]) .skip))) (.reg [om 12 6,od 13 (.bin .add (tm 12) (ki 1)),om 6 13] [kp [1,2,5,6] [25]]))) [kp [1,2,5,6] [25]]
def q0R:IC:=.loop q8p
abbrev q8q:IC:=(.seq (.reg [od 2 (.box true (tm 0)),od 4 (.mv kN)] [kp [1,2] []]) (.seq (.reg [od 5 (.mv kN)] [.nl 5 25 3 1,kp [1,2,5] [25]]) (.seq (.seq (.reg [od 6 (.mv (ki 0))] [kp [1,2,5,6] [25]]) (.block 0 q0R)) (.seq (.reg
 [om 26 5,om 4 26] [kp [4] [25]]) .ret))))
theorem q2c (h:∀ K:St→Prop,K=run P Γ q0R Q→run P Γ q8p (Am K Q) s):run P Γ q0R Q s:=Ae h
def q8r:List RV:=[.tmp 4]
/- probecard/probecardref03.Levels (function 125) -/
end
end Go.Lg
namespace Go.Lg
open Go Go.Proofs
theorem qCi:Ao Tryz.prog 62 q8q 27 2 q8r=true:=by kernel_rfl
end Go.Lg
namespace Go.Lg
open Go Go.Proofs
variable {Γ:Tables}
def Sm (B:Nat) (t:T3):Prop:=(0≤t.a∧t.a≤B)∧(0≤t.b∧t.b≤B)∧(0≤t.d∧t.d≤B)
theorem Sm.mono {B C:Nat} (hBC:B≤C) {t:T3} (h:Sm B t):Sm C t:=by
 obtain ⟨⟨a0,a1⟩,⟨b0,b1⟩,⟨d0,d1⟩⟩:=h
 exact ⟨⟨a0,by omega⟩,⟨b0,by omega⟩,⟨d0,by omega⟩⟩
theorem qCj {c:B0} {n:Int} (h0:0≤n) (h:n<c.nodes.l.length):∀ h':n.toNat<(Ar Dn c.nodes.l).length,(Ar Dn c.nodes.l)[n.toNat]'h'=Dn (nd c n):=fun h'=>by
 have:=qAU h0 h
 rw [List.getElem?_eq_getElem h'] at this
 simpa using this
theorem qIw {Q:AX→St→Prop} (c:B0) (hc:COk c) (k:Int) (hn:c.nodes.l.length≤1000000)
  (h0:Q (.exit 0) ⟨[(1,.t (tK k)),(2,.t (.ip (tC c) 0)),(5,.ls 25 0 (Ky [k] c.nodes.l 0).length none),(6,.t (tI c.nodes.l.length)),(11,.t (tB false))],[(25,.sl 3 1 (Av (Ky [k] c.nodes.l 0)))]⟩) :
  ∀ (f i:Nat),f+i=c.nodes.l.length→run Tryz.prog Γ q0R Q ⟨[(1,.t (tK k)),(2,.t (.ip (tC c) 0)),(5,.ls 25 0 (Ky [k] (c.nodes.l.take i) 0).length none),(6,.t (tI i))],[(25,.sl 3 1 (Av (Ky [k] (c.nodes.l.take i) 0)))]⟩
 | 0,i,h=>by
  refine q2c fun K hK=>?_
  have h2:i=c.nodes.l.length:=by omega
  subst h2
  rw [List.take_length]
  simp [tC,A5,A8,Ad,B6] at h0
  simp [tC,A5,A8,Ad,B6,Aa]
  simpa using h0
 | f+1,i,h=>by
  refine q2c fun K hK=>?_
  have h2:i<c.nodes.l.length:=by omega
  have ih:=qIw c hc k hn h0 f (i+1) (by omega)
  rw [qDv h2] at ih
  have hget:=qAU (c:=c) (n:=(i:Int)) (by omega) (by omega)
  have hget':=qCj (c:=c) (n:=(i:Int)) (by omega) (by omega)
  have hk:(nd c i).k=Az c i:=by simp [nd,Az]
  simp only [Int.toNat_natCast] at hget hget'
  have hle:=Xe [k] (c.nodes.l.take i) 0
  rw [List.length_take] at hle
  generalize nd c i=x at *
  generalize Ky [k] (c.nodes.l.take i) 0=out at *
  have w1:IntKind.i64.wrap ((i:Int)+1)=(i:Int)+1:=by rw [A4] <;> omega
  have vt:(Av out).take out.length=Av out:=Ag
  have vs:Av out++[[tI i]]=Av (out++[(i:Int)]):=Be
  by_cases h1:x.k=k
  ·have hkk:[k].contains (Az c i)=true:=by rw [← hk,h1]; simp
   rw [hkk,if_pos rfl] at ih
   simp [tC,A5,A8,Ad,B6] at ih
   simp [tC,A5,A8,Ad,B6,Aa,h2,Bf,hget,hget',Dn,h1,A0,A6,vt,vs,w1]
   refine ⟨by omega,?_⟩
   rw [hK]
   simpa using ih
  ·have hkk:[k].contains (Az c i)=false:=by rw [← hk]; simp; exact h1
   rw [hkk,if_neg (by simp),List.append_nil] at ih
   simp [tC,A5,A8,Ad,B6] at ih
   simp [tC,A5,A8,Ad,B6,Aa,h2,Bf,hget,hget',Dn,h1,w1]
   rw [hK]
   simpa using ih
theorem qFP (c:B0) (hc:COk c) (k:Int) (hn:c.nodes.l.length≤1000000):Ab Tryz.prog Γ 62 [.agg (tC c),tK k] (.sl (Av (Ky [k] c.nodes.l 0)) none none):=by
 refine Aq qCi rfl ?_
 have g:=fun Q h0=>qIw (Γ:=Γ) (Q:=Q) c hc k hn h0 c.nodes.l.length 0 (by omega)
 have ht:(Av (Ky [k] c.nodes.l 0)).take (Ky [k] c.nodes.l 0).length=Av (Ky [k] c.nodes.l 0):=Ag
 have hz:Ky [k] (c.nodes.l.take 0) 0=[]:=rfl
 rw [hz] at g
 simp only [List.length_nil,Cd] at g
 generalize Ky [k] c.nodes.l 0=R at *
 simp [tC,A5,A8,Ad,B6] at g
 simp [q8q,tC,A5,A8,Ad,B6]
 refine g _ ?_
 simp [q8r,Ai,ht]
end Go.Lg
