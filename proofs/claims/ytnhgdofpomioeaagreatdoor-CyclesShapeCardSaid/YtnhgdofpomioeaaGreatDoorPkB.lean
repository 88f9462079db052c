/- THE LOGIC, part 19: cuts, strings of bytes are sound. Conditions: none. -/
import Derived.Test.YtnhgdofpomioeaaGreatDoorPkA
import Derived.ArgAppend
import Derived.DeepKeys
set_option linter.unusedSimpArgs false
set_option linter.unusedVariables false
namespace Go.Lg
open Go
section
variable {P:Program} {Γ:Tables} {w0:World} {B:Nat} {κ:Df} {X:Nat→Prop} {μ:Df} {st:St} {tm:Array Value} {w:World} {ds:List Deferred} {o:Oper}
def Qq (ρ:Operand→Value) (o:Option Operand) (dflt n:Nat):Prop:=(o=none∧n=dflt)∨∃ x k i,o=some x∧ρ x=.int k i∧0≤i∧n=i.toNat
theorem O4 {x:Option Operand} {dflt:Nat} {r:Prop × Nat} (h:Bv w0 B κ X μ st tm w) (hg:Gl Γ w X) (hx:Ip Γ st.env x dflt=some r) (hc:r.1) (hk:x.toList.all Am=true):Qq (Act.eval ⟨tm,ds⟩) x dflt r.2:=by
 unfold Ip at hx
 split at hx
 ·simp only [Option.some.injEq] at hx; subst hx; exact .inl ⟨rfl,rfl⟩
 ·rename_i o
  split at hx
  ·rename_i k n he
   simp only [Option.some.injEq] at hx; subst hx
   exact .inr ⟨o,k,n,rfl,(B9 (ds:=ds) h hg he (by simpa using hk)).t_inv.v_inv,hc,rfl⟩
  ·cases hx
theorem L8 {ρ:Operand→Value} {x:Operand} {k:IntKind} {i:Int} {y:Nat} (h:ρ x=.int k i) (h0:0≤i) (h1:i.toNat≤y) (code:BoundsCode) (w:World):(Instr.sliceBound (ρ x) y code).run P w=.ok i.toNat w:=by
 rw [h]; exact run_sliceBound (P:=P) w k i y code h0 (by omega)
theorem q4b {ρ:Operand→Value} {lo hi:Option Operand} {len cap l h:Nat} (isS:Bool) (hlo:Qq ρ lo 0 l) (hhi:Qq ρ hi len h) (h1:l≤h) (h2:h≤cap) (w:World):(Instr.sliceBounds isS len cap (lo.map ρ) (hi.map ρ) none).run P w=.ok (l,h,cap) w:=by
 rcases hhi with ⟨rfl,rfl⟩ | ⟨x,k,i,rfl,hx,h0,rfl⟩ <;> rcases hlo with ⟨rfl,rfl⟩ | ⟨y,k',j,rfl,hy,h0',rfl⟩
 ·simp [Instr.sliceBounds]
 ·simp [Instr.sliceBounds,L8 (P:=P) hy h0' h1]
 ·simp [Instr.sliceBounds,L8 (P:=P) hx h0 h2]
 ·simp [Instr.sliceBounds,L8 (P:=P) hx h0 h2,L8 (P:=P) hy h0' h1]
theorem q7B {ρ:Operand→Value} {lo:Option Operand} {hi mx:Operand} {len cap l h m:Nat} (hlo:Qq ρ lo 0 l) (hhi:Qq ρ (some hi) len h) (hmx:Qq ρ (some mx) 0 m) (h1:l≤h) (h2:h≤m) (h3:m≤cap) (w:World) :
  (Instr.sliceBounds true len cap (lo.map ρ) (some (ρ hi)) (some (ρ mx))).run P w=.ok (l,h,m) w:=by
 rcases hmx with ⟨e,_⟩ | ⟨x2,k2,i2,e2,hx2,h02,rfl⟩
 ·cases e
 rcases hhi with ⟨e,_⟩ | ⟨x,k,i,e,hx,h0,rfl⟩
 ·cases e
 cases e; cases e2
 rcases hlo with ⟨rfl,rfl⟩ | ⟨y,k',j,rfl,hy,h0',rfl⟩
 ·simp [Instr.sliceBounds,L8 (P:=P) hx h0 h2,L8 (P:=P) hx2 h02 h3]
 ·simp [Instr.sliceBounds,L8 (P:=P) hx h0 h2,L8 (P:=P) hx2 h02 h3,L8 (P:=P) hy h0' h1]
theorem qBX {t:TypeId} {x:Operand} {lo hi:Option Operand} {b:ByteArray} {l h':Nat} (h:Bv w0 B κ X μ st tm w) (hg:Gl Γ w X) (ho:o.op=.slice t x lo hi none) (kx:Am x=true) (hu:q6P P t=true)
  (hx:ev Γ st.env x=some (.t (.v (.string b)))) (hlo:Qq (Act.eval ⟨tm,ds⟩) lo 0 l) (hhi:Qq (Act.eval ⟨tm,ds⟩) hi b.size h') (h1:l≤h') (h2:h'≤b.size):Au P w0 B κ X o (.t (.v (.string (b.extract l h')))) st tm w ds:=by
 have he:=(B9 (ds:=ds) h hg hx kx).t_inv.v_inv
 refine Au.same h (v:=.string (b.extract l h')) ?_ (.t _ _ (.v _))
 have hb:=q4b (P:=P) false hlo hhi h1 h2 w
 simp [execOp,ho,he,Instr.sliceAt,Instr.slice,run_underlying (Ww hu),hb]
def q2G (a:Option Addr) (c l h m s:Nat):Value:=.slice (if m=l then a else a.map (·.add (l*s))) (h - l) (m - l)
theorem q3U {t e:TypeId} {s:Nat} (hu:slO P t=some e) (hz:O6 P e=some s) {a:Option Addr} {len c l h m:Nat} {lo hi mx:Option Value} (hb:∀ w,(Instr.sliceBounds true len c lo hi mx).run P w=.ok (l,h,m) w) (w:World) :
  (Instr.sliceAt t (.slice a len c) lo hi mx).run P w=.ok (q2G a c l h m s) w:=by
 simp [Instr.sliceAt,Instr.slice,run_underlying (C4 hu),hb,Dl hz,q2G]
theorem qG7 {es:List (List T)} {cap:Option Nat} {nl:Option Bool} {x:Value} {s l h:Nat} (hx:TR w X (.sl es cap nl) x) (hw:D5 s es) (h1:l≤h) (h2:h≤es.length) :
  ∃ a c,x=.slice a es.length c∧es.length≤c∧(∀ n,cap=some n→c=n)∧∀ m,h≤m→m≤c→∀ cap':Option Nat,(∀ n,cap'=some n→m - l=n)→TR w X (.sl ((es.drop l).take (h - l)) cap' nl) (q2G a c l h m s):=by
 have hlen:((es.drop l).take (h - l)).length=h - l:=by simp; omega
 rcases hx.sl_inv with ⟨rfl,a,c,rfl,hc,hn,hz⟩ | ⟨s',b,off,c,rfl,hxb,hle,hc,hn,hw',hone,f,hcell,hrel⟩
 ·refine ⟨a,c,rfl,Nat.zero_le _,hc,fun m hhm hmc cap' hcap=>?_⟩
  simp at h2; subst h2
  have:l=0:=by omega
  subst this
  have e:(if m=0 then a else a.map (·.add (0*s)))=a:=by
   split
   ·rfl
   ·cases a <;> simp [Addr.add]
  simp only [q2G,e,List.drop_nil,List.take_nil]
  exact .nil _ _ _ _ hcap hn (fun e=>by have:=hz e; omega)
 ·refine ⟨_,c,rfl,hle,hc,fun m hhm hmc cap' hcap=>?_⟩
  by_cases hlh:l=h
  ·subst hlh
   have e:(es.drop l).take (l - l)=[]:=by simp
   simp only [q2G,e,Nat.sub_self]
   refine .nil _ _ _ _ hcap (fun q hq=>?_) (fun e=>?_)
   ·rw [hn q hq]; split <;> rfl
   ·split at e <;> simp at e
  ·have hss:s'=s:=by
    have hmem:=(q2V (es:=es) (i:=0) (by omega)).1
    exact (hw' _ hmem).symm.trans (hw _ hmem)
   subst hss
   have hml:¬ m=l:=by omega
   have hge:∀ i,i<h - l→((es.drop l).take (h - l))[i]? = es[l+i]? := fun i hi=>by rw [List.getElem?_take,if_pos hi,List.getElem?_drop]
   have hmem:∀ e ∈ (es.drop l).take (h - l),e ∈ es:=fun e he=>List.mem_of_mem_drop (List.mem_of_mem_take he)
   have:=TR.mk_sl (w:=w) (X:=X) (es:=(es.drop l).take (h - l)) (cap:=cap') (nl:=nl) (s:=s') (b:=b) (off:=off+l*s') (c:=m - l) (f:=fun i k=>f (l+i) k) hxb (by omega) hcap hn (fun e he=>hw' e (hmem e he)) (fun e he=>hone e (hmem e he))
    (fun i k hi hk=>by rw [hlen] at hi; have:=hcell (l+i) k (by omega) hk; rw [Nat.add_mul] at this; rwa [show off+l*s'+i*s'+k=off+(l*s'+i*s')+k by omega])
    (fun i k e t he ht=>by
     have hi:=(List.getElem?_eq_some_iff.1 he).1
     rw [hlen] at hi
     rw [hge i hi] at he
     exact hrel (l+i) k e t he ht)
   rw [hlen] at this
   simp only [q2G,hml,↓reduceIte,Option.map_some,Addr.add_lit]
   exact this
theorem qCz {t e:TypeId} {s:Nat} {x:Operand} {lo hi:Option Operand} {es:List (List T)} {cap:Option Nat} {nl:Option Bool} {l h':Nat} (h:Bv w0 B κ X μ st tm w) (hg:Gl Γ w X) (ho:o.op=.slice t x lo hi none) (kx:Am x=true) (hu:slO P t=some e) (hz:O6 P e=some s)
  (hx:ev Γ st.env x=some (.t (.sl es cap nl))) (hw:D5 s es) (hlo:Qq (Act.eval ⟨tm,ds⟩) lo 0 l) (hhi:Qq (Act.eval ⟨tm,ds⟩) hi es.length h') (h1:l≤h') (h2:h'≤es.length):Au P w0 B κ X o (.t (.sl ((es.drop l).take (h' - l)) (cap.map (· - l)) nl)) st tm w ds:=by
 obtain ⟨a,c,he,hle,hc,hcut⟩:=qG7 (B9 (ds:=ds) h hg hx kx).t_inv hw h1 h2
 refine Au.same h (v:=q2G a c l h' c s) ?_ (.t _ _ (hcut c (by omega) (Nat.le_refl _) _ (fun n hn=>?_)))
 ·have hrun:=q3U (P:=P) hu hz (a:=a) (len:=es.length) (c:=c) (fun w=>q4b (P:=P) (cap:=c) true hlo hhi h1 (by omega) w) w
  simp only [execOp,ho,he,Sem.run_bind,Option.map_none,hrun]; rfl
 ·simp only [Option.map_eq_some_iff] at hn
  obtain ⟨q,hq,rfl⟩:=hn
  rw [hc q hq]
theorem qBY {t e:TypeId} {s:Nat} {x hi mx:Operand} {lo:Option Operand} {es:List (List T)} {cap:Option Nat} {nl:Option Bool} {l h' m:Nat} (h:Bv w0 B κ X μ st tm w) (hg:Gl Γ w X) (ho:o.op=.slice t x lo (some hi) (some mx)) (kx:Am x=true) (hu:slO P t=some e) (hz:O6 P e=some s)
  (hx:ev Γ st.env x=some (.t (.sl es cap nl))) (hw:D5 s es) (hlo:Qq (Act.eval ⟨tm,ds⟩) lo 0 l) (hhi:Qq (Act.eval ⟨tm,ds⟩) (some hi) es.length h') (hmx:Qq (Act.eval ⟨tm,ds⟩) (some mx) 0 m) (h1:l≤h') (h2:h'≤m) (h3:m≤es.length) :
  Au P w0 B κ X o (.t (.sl ((es.drop l).take (h' - l)) (some (m - l)) nl)) st tm w ds:=by
 obtain ⟨a,c,he,hle,hc,hcut⟩:=qG7 (B9 (ds:=ds) h hg hx kx).t_inv hw h1 (by omega:h'≤es.length)
 refine Au.same h (v:=q2G a c l h' m s) ?_ (.t _ _ (hcut m h2 (by omega) _ (fun n hn=>by cases hn; rfl)))
 have hrun:=q3U (P:=P) hu hz (a:=a) (len:=es.length) (c:=c) (fun w=>q7B (P:=P) (cap:=c) hlo hhi hmx h1 h2 (by omega) w) w
 simp only [execOp,ho,he,Sem.run_bind,Option.map_some,hrun]; rfl
theorem qG8 {id off len:Nat} {cap:Option Nat} {x:Value} {q l h m:Nat} {sh:Nat→Option Sh} {n:Nat} (hx:AR w X μ sh (.ls id off len cap) x) (hs:sh id=some (.sl q n)) (h1:l≤h) (h2:h≤len) :
  ∃ a c,x=.slice a len c∧len≤c∧(∀ q,cap=some q→c=q)∧(m=c→AR w X μ sh (.ls id (off+l) (h - l) (cap.map (· - l))) (q2G a c l h m q))∧(h≤m→m≤len→AR w X μ sh (.ls id (off+l) (h - l) (some (m - l))) (q2G a c l h m q)):=by
 obtain ⟨s',n',hs',hcase⟩:=hx.ls_inv
 rw [hs] at hs'
 simp only [Option.some.injEq,Sh.sl.injEq] at hs'
 obtain ⟨rfl,rfl⟩:=hs'
 rcases hcase with ⟨hm,⟨a,rfl⟩,rfl,rfl,hc⟩ | ⟨g,mm,c,a,hm,rfl,hle,hlc,hcm,hfit,hfull,hc,ha⟩
 ·have:h=0:=by omega
  subst this
  have:l=0:=by omega
  subst this
  refine ⟨a,0,rfl,Nat.le_refl _,fun q hq=>(hc q hq).symm,fun hm0=>?_,fun _ hm0=>?_⟩
  ·subst hm0
   simp only [q2G,↓reduceIte,Nat.sub_zero,Nat.add_zero]
   exact .lsnil id q n hs hm a _ (fun z hz=>by simp only [Option.map_eq_some_iff] at hz; obtain ⟨y,hy,rfl⟩:=hz; exact hc y hy)
  ·have:m=0:=by omega
   subst this
   simp only [q2G,↓reduceIte,Nat.sub_zero,Nat.add_zero]
   exact .lsnil id q n hs hm a _ (fun z hz=>by cases hz; rfl)
 ·refine ⟨some a,c,rfl,hlc,hc,fun hmc=>?_,fun hhm hml=>?_⟩
  ·subst hmc
   have hadd:(off+l)*q+(m - l)*q=(off+m)*q:=by rw [← Nat.add_mul]; congr 1; omega
   have e:q2G (some a) m l h m q=.slice (some (if m=l then a else a.add (l*q))) (h - l) (m - l):=by
    unfold q2G; split <;> rfl
   rw [e]
   refine .ls id (off+l) (h - l) q n g mm (m - l) _ hs hm (by omega) (by omega) (by omega) (by rw [Nat.add_mul (off+l),hadd]; exact hfit) (fun hn=>by
    rw [Nat.add_mul (off+l),hadd]; exact hfull (by cases cap <;> simp at hn ⊢)) (fun z hz=>by
    simp only [Option.map_eq_some_iff] at hz; obtain ⟨y,hy,rfl⟩:=hz; rw [hc y hy]) _ (fun hor=>?_)
   by_cases hml:m=l
   ·subst hml
    simp only [↓reduceIte]
    have h0:off+m=0:=by rcases hor with hor | hor <;> omega
    have:=ha (.inr (by omega))
    have ho:off=0:=by omega
    have hm0:m=0:=by omega
    rw [this,ho,hm0]
   ·simp only [hml,↓reduceIte]
    have:=ha (.inl (by omega))
    rw [this,Addr.add_lit,Nat.add_mul]
  ·have e:q2G (some a) c l h m q=.slice (some (if m=l then a else a.add (l*q))) (h - l) (m - l):=by
    unfold q2G; split <;> rfl
   rw [e]
   have hle2:(off+l+(m - l))*q≤(off+c)*q:=Nat.mul_le_mul_right _ (by omega)
   refine .ls id (off+l) (h - l) q n g mm (m - l) _ hs hm (by omega) (by omega) (by omega) (by omega) (fun hn=>by cases hn) (fun z hz=>by cases hz; rfl) _ (fun hor=>?_)
   by_cases hml2:m=l
   ·subst hml2
    simp only [↓reduceIte]
    have h0:off+m=0:=by rcases hor with hor | hor <;> omega
    have:=ha (.inr (by omega))
    have ho:off=0:=by omega
    have hm0:m=0:=by omega
    rw [this,ho,hm0]
   ·simp only [hml2,↓reduceIte]
    have:=ha (.inl (by omega))
    rw [this,Addr.add_lit,Nat.add_mul]
theorem qD0 {t e ty:TypeId} {s q id off len:Nat} {es:List (List T)} {x:Operand} {lo hi:Option Operand} {cap:Option Nat} {l h':Nat} (h:Bv w0 B κ X μ st tm w) (hg:Gl Γ w X) (ho:o.op=.slice t x lo hi none) (kx:Am x=true) (hu:slO P t=some e) (hz:O6 P e=some s)
  (hx:ev Γ st.env x=some (.ls id off len cap)) (hl:A4 st.hp id=some (.sl ty q es)) (hq:q=s) (hlo:Qq (Act.eval ⟨tm,ds⟩) lo 0 l) (hhi:Qq (Act.eval ⟨tm,ds⟩) hi len h') (h1:l≤h') (h2:h'≤len):Au P w0 B κ X o (.ls id (off+l) (h' - l) (cap.map (· - l))) st tm w ds:=by
 subst hq
 obtain ⟨a,c,he,hle,hc,hcut,_⟩:=qG8 (m:=(match Act.eval ⟨tm,ds⟩ x with | .slice _ _ c=>c | _=>0)) (B9 (ds:=ds) h hg hx kx) (by rw [Ff hl]; rfl) h1 h2
 rw [he] at hcut
 have hcut:=hcut rfl
 refine Au.same h (v:=q2G a c l h' c q) ?_ hcut
 have hrun:=q3U (P:=P) hu hz (a:=a) (len:=len) (c:=c) (fun w=>q4b (P:=P) (cap:=c) true hlo hhi h1 (by omega) w) w
 simp only [execOp,ho,he,Sem.run_bind,Option.map_none,hrun]; rfl
theorem qBZ {t e ty:TypeId} {s q id off len:Nat} {es:List (List T)} {x hi mx:Operand} {lo:Option Operand} {cap:Option Nat} {l h' m:Nat} (h:Bv w0 B κ X μ st tm w) (hg:Gl Γ w X) (ho:o.op=.slice t x lo (some hi) (some mx)) (kx:Am x=true) (hu:slO P t=some e) (hz:O6 P e=some s)
  (hx:ev Γ st.env x=some (.ls id off len cap)) (hl:A4 st.hp id=some (.sl ty q es)) (hq:q=s) (hlo:Qq (Act.eval ⟨tm,ds⟩) lo 0 l) (hhi:Qq (Act.eval ⟨tm,ds⟩) (some hi) len h') (hmx:Qq (Act.eval ⟨tm,ds⟩) (some mx) 0 m) (h1:l≤h') (h2:h'≤m) (h3:m≤len) :
  Au P w0 B κ X o (.ls id (off+l) (h' - l) (some (m - l))) st tm w ds:=by
 subst hq
 obtain ⟨a,c,he,hle,hc,_,hcut⟩:=qG8 (m:=m) (B9 (ds:=ds) h hg hx kx) (by rw [Ff hl]; rfl) h1 (by omega:h'≤len)
 refine Au.same h (v:=q2G a c l h' m q) ?_ (hcut h2 h3)
 have hrun:=q3U (P:=P) hu hz (a:=a) (len:=len) (c:=c) (fun w=>q7B (P:=P) (cap:=c) hlo hhi hmx h1 h2 (by omega) w) w
 simp only [execOp,ho,he,Sem.run_bind,Option.map_some,hrun]; rfl
theorem q1M:∀ {es:List (List T)} {bs:List UInt8},Nz es=some bs→D5 1 es∧es.length=bs.length∧∀ (i:Nat) (e:List T),es[i]? = some e→∃ n,e=[.v (.int .u8 n)]∧bs[i]? = some (UInt8.ofNat n.toNat)
 | [],bs,h=>by simp only [Nz,Option.some.injEq] at h; subst h; exact ⟨fun e he=>by simp at he,rfl,fun i e he=>by simp at he⟩
 | e::es,bs,h=>by
  unfold Nz at h
  split at h
  ·rename_i heq; cases heq
  ·rename_i n es' heq
   cases heq
   simp only [Option.map_eq_some_iff] at h
   obtain ⟨bs',h',rfl⟩:=h
   obtain ⟨h1,h2,h3⟩:=q1M h'
   refine ⟨fun e he=>?_,by simp [h2],fun i e he=>?_⟩
   ·rcases List.mem_cons.1 he with rfl | he
    ·rfl
    ·exact h1 e he
   ·cases i with
    | zero=>simp at he; subst he; exact ⟨n,rfl,rfl⟩
    | succ i=>simp at he; simpa using h3 i e he
  ·cases h
theorem q7C (body:Value→ByteArray→Sem (ForInStep ByteArray)) (hb:∀ n r,body (.int .u8 n) r=pure (ForInStep.yield (r.push (UInt8.ofNat n.toNat)))):∀ (xs:List Value) (ns:List Int),xs=ns.map (Value.int .u8)→∀ (s:ByteArray) (w:World),
  (forIn xs s body).run P w=.ok (ns.foldl (fun r n=>r.push (UInt8.ofNat n.toNat)) s) w
 | _,[],rfl,s,w=>by simp
 | _,n::ns,rfl,s,w=>by
  have ih:=q7C body hb (ns.map (Value.int .u8)) ns rfl (s.push (UInt8.ofNat n.toNat)) w
  simp only [List.map_cons,List.forIn_cons,hb,Sem.run_bind,Sem.run_pure,Result.andThen_ok,ih,List.foldl_cons]
theorem qF3 (ns:List Int):∀ s:ByteArray,(ns.foldl (fun r n=>r.push (UInt8.ofNat n.toNat)) s).data.toList=s.data.toList++ns.map fun n=>UInt8.ofNat n.toNat:=by
 induction ns with
 | nil=>intro s; simp
 | cons n ns ih=>intro s; rw [List.foldl_cons,ih]; simp [ByteArray.push]
theorem qAo {bs:List UInt8} {es:List (List T)} {x:Value} {a:AV} (h:Bv w0 B κ X μ st tm w) (ha:AR w X μ st.sh a x) (he:Br st.hp a=some es) (hb:Nz es=some bs):(Conv.bytesToString x).run P w=.ok (.string ⟨bs.toArray⟩) w:=by
 obtain ⟨hw,hlen,hget⟩:=q1M hb
 obtain ⟨oa,c,vs,rfl,hels,_,hsrc⟩:=X8 h ha he hw
 have hvals:∃ ns:List Int,vs.flatten=ns.map (Value.int .u8)∧ns.map (fun n=>UInt8.ofNat n.toNat)=bs:=by
  clear hsrc
  have:∀ (es:List (List T)) (vs:List (List Value)) (bs:List UInt8),Els w X 1 es vs→es.length=bs.length→(∀ (i:Nat) (e:List T),es[i]? = some e→∃ n,e=[.v (.int .u8 n)]∧bs[i]? = some (UInt8.ofNat n.toNat))→∃ ns:List Int,vs.flatten=ns.map (Value.int .u8)∧ns.map (fun n=>UInt8.ofNat n.toNat)=bs:=by
   intro es
   induction es with
   | nil =>
    intro vs bs h1 h2 _
    have:vs=[]:=List.eq_nil_of_length_eq_zero h1.1.symm
    subst this
    have:bs=[]:=List.eq_nil_of_length_eq_zero h2.symm
    subst this
    exact ⟨[],rfl,rfl⟩
   | cons e es ih =>
    intro vs bs h1 h2 h3
    match vs,bs,h1,h2,h3 with
    | v::vs,b::bs,h1,h2,h3 =>
     obtain ⟨n,rfl,hb⟩:=h3 0 e rfl
     simp at hb
     have hv:=h1.2.2.2 0 _ v rfl rfl
     obtain ⟨y,ys,rfl,hy,hys⟩:=hv.cons_inv
     have:=hys.nil_inv; subst this
     have:=hy.v_inv; subst this
     obtain ⟨ns,hn1,hn2⟩:=ih vs bs ⟨by have:=h1.1; simpa using this,fun v hv=>h1.2.1 v (by simp [hv]),fun e he=>h1.2.2.1 e (by simp [he]),fun i e v he hv=>h1.2.2.2 (i+1) e v (by simpa using he) (by simpa using hv)⟩ (by simpa using h2) (fun i e he=>by simpa using h3 (i+1) e (by simpa using he))
     exact ⟨n::ns,by simp [hn1],by simp [hn2,hb]⟩
    | [],_,h1,_,_=>exact absurd h1.1 (by simp)
    | _::_,[],_,h2,_=>exact absurd h2 (by simp)
  exact this es vs bs hels hlen hget
 obtain ⟨ns,hn1,hn2⟩:=hvals
 have hfin:(ns.foldl (fun r n=>r.push (UInt8.ofNat n.toNat)) ByteArray.empty)=⟨bs.toArray⟩:=by
  have:=qF3 ns ByteArray.empty
  generalize ns.foldl (fun r n=>r.push (UInt8.ofNat n.toNat)) ByteArray.empty=R at this
  cases R with
  | mk d =>
   congr 1
   apply Array.toList_inj.1
   rw [this,hn2]; rfl
 by_cases hne:es=[]
 ·subst hne
  have hbs:bs=[]:=List.eq_nil_of_length_eq_zero hlen.symm
  subst hbs
  cases oa with
  | none=>simp [Conv.bytesToString]; rfl
  | some b =>
   simp only [Conv.bytesToString,List.length_nil,loadCells,loadCellsFrom,Sem.run_bind,Sem.run_pure,Result.andThen_ok]
   simp; rfl
 ·obtain ⟨b,off,rfl,hcell⟩:=hsrc hne
  have hl:=C9 hels.2.1
  rw [Nat.mul_one,← hels.1] at hl
  have hload:=run_loadCells_list (P:=P) w ⟨b,off,none⟩ vs.flatten (fun j v hv=>by rw [Addr.add_lit]; exact hcell j v hv)
  rw [hl] at hload
  simp only [Conv.bytesToString,Sem.run_bind,hload,Result.andThen_ok]
  rw [← Array.forIn_toList,q7C (P:=P) _ (fun n r=>rfl) vs.flatten ns hn1 ByteArray.empty w,hfin]
  rfl
theorem qD1 {src dst e:TypeId} {x:Operand} {a:AV} {es:List (List T)} {bs:List UInt8} (h:Bv w0 B κ X μ st tm w) (hg:Gl Γ w X) (ho:o.op=.convert src dst x) (kx:Am x=true) (hs:slO P src=some e) (hi:q9S P e=some .u8) (hd:q6P P dst=true)
  (hx:ev Γ st.env x=some a) (he:Br st.hp a=some es) (hb:Nz es=some bs):Au P w0 B κ X o (.t (.v (.string ⟨bs.toArray⟩))) st tm w ds:=by
 have hr:=B9 (ds:=ds) h hg hx kx
 have hrun:=qAo (P:=P) h hr he hb
 obtain ⟨oa,c,vs,hv,_⟩:=X8 h hr he (q1M hb).1
 refine Au.same h (v:=.string ⟨bs.toArray⟩) ?_ (.t _ _ (.v _))
 rw [hv] at hrun
 simp only [execOp,ho,hv,convert,Sem.run_bind,run_underlying (C4 hs),run_underlying (Ww hd),Result.andThen_ok]
 cases oa with
 | none=>simp only [run_underlying (q0V hi),Sem.run_bind,Result.andThen_ok,hrun,Sem.run_pure]
 | some b=>simp only [run_underlying (q0V hi),Sem.run_bind,Result.andThen_ok,hrun,Sem.run_pure]
end
end Go.Lg
namespace Go.Lg
open Go
section
variable {P:Program} {Γ:Tables} {w0:World} {B:Nat} {κ:Df} {X:Nat→Prop} {μ:Df} {st:St} {tm:Array Value} {w:World} {ds:List Deferred} {o:Oper}
theorem qLh {t ty d:TypeId} {zs:List Value} {l c:Operand} {n m:Int} {k1 k2:IntKind} (he:Ej P t ty 1) (hzo:E0 P ty=some zs) (hc1:O7 zs=true) (h:Bv w0 B κ X μ st tm w) (hg:Gl Γ w X) (ho:o.op=.makeSlice t l c) (kl:Am l=true) (kc:Am c=true)
  (hl:ev Γ st.env l=some (.t (.v (.int k1 n)))) (hc:ev Γ st.env c=some (.t (.v (.int k2 m)))) (h0:0≤n) (hnm:n=m) (hm:m≤2147483648) (hd:A4 st.hp d=none) (hdb:d<1000000) :
  Au P w0 B κ X o (.lb d n.toNat) ⟨st.env,(d,.bx (List.replicate n.toNat (.t (Bo (zs.headD undef)))))::st.hp⟩ tm w ds:=by
 subst hnm
 obtain ⟨arr,harr,hsz,hzl,hrun⟩:=qCx (ds:=ds) he hzo hc1 h hg ho kl kc hl hc h0 (by omega) hm
 obtain ⟨z,rfl⟩:∃ z,zs=[z]:=by
  match zs,hzl with
  | [z],_=>exact ⟨z,rfl⟩
 have harr':arr.toList=List.replicate n.toNat z:=by
  rw [harr]; simp [List.flatten_replicate_singleton]
 have hsz':arr.size=n.toNat:=by rw [hsz]; omega
 have hz1:z.oneCell'=true:=by simpa [O7] using hc1
 refine Au.region h (arr:=arr) (ty:=ty) (v:=.slice (some ⟨w.heap.size,0,none⟩) n.toNat n.toNat) w.drawn hd hdb hrun ?_ ?_
 ·have hon:D2 (List.replicate n.toNat (AV.t (Bo z)))=true:=List.all_eq_true.2 fun a ha=>by rw [List.eq_of_mem_replicate ha]; exact q4Z hz1
  have:=qCt (ty:=ty) (as:=List.replicate n.toNat (AV.t (Bo z))) (xs:=arr.toList) h w.drawn hd hon ⟨by simp [hsz'],fun k a x ha hx=>by
   rw [harr'] at hx
   rw [List.eq_of_mem_replicate (List.mem_of_getElem? ha),List.eq_of_mem_replicate (List.mem_of_getElem? hx)]
   exact .t _ _ (q3R z)⟩
  simpa using this
 ·have:=AR.lb (w:=World.alloc { w with drawn:=w.drawn } (.cells arr ty)) (X:=X) (μ:=μ.set d (some (w.heap.size,arr.size))) (sh:=St.sh ⟨st.env,(d,.bx (List.replicate n.toNat (.t (Bo ([z].headD undef)))))::st.hp⟩) d w.heap.size n.toNat (by rw [V8]; rfl) (by simp only [Df.set,↓reduceIte,hsz']) (O8 (by omega))
  exact this
theorem qF4 {t e:TypeId} {s:Nat} {cs:List AV} {x i:Operand} {id m:Nat} {k:IntKind} {n:Int} (h:Bv w0 B κ X μ st tm w) (hg:Gl Γ w X) (ho:o.op=.indexAddr t x i) (kx:Am x=true) (ki:Am i=true)
  (hu:slO P t=some e) (hz:O6 P e=some s) (hx:ev Γ st.env x=some (.lb id m)) (hl:A4 st.hp id=some (.bx cs)) (hs1:s=1) (hi:ev Γ st.env i=some (.t (.v (.int k n)))) (h0:0≤n) (h1:n<m) :
  Au P w0 B κ X o (.lp id 0 n.toNat) st tm w ds:=by
 have hix:=(B9 (ds:=ds) h hg hi ki).t_inv.v_inv
 obtain ⟨g,hs,hm,hle,he⟩:=(B9 (ds:=ds) h hg hx kx).lb_inv
 subst hs1
 refine Au.same h (v:=.pointer (some ⟨g,n.toNat,none⟩)) ?_ (.lpbx id _ g m hs hm)
 have hlt:(0≤n∧n<(m:Int)):=⟨h0,h1⟩
 simp [execOp,ho,he,hix,Instr.indexAt,asIntOf,run_underlying (C4 hu),hlt,Dl hz,Addr.add_lit,Nat.add_mul]
theorem qLi {t d:TypeId} {x:Operand} {s:ByteArray} (h:Bv w0 B κ X μ st tm w) (hg:Gl Γ w X) (ho:o.op=.range t x) (kx:Am x=true) (hu:q6P P t=true) (hx:ev Γ st.env x=some (.t (.v (.string s)))) (hd:A4 st.hp d=none) (hdb:d<1000000) :
  Au P w0 B κ X o (.li d) ⟨st.env,(d,.it s 0)::st.hp⟩ tm w ds:=by
 have hxv:=(B9 (ds:=ds) h hg hx kx).t_inv.v_inv
 have hb:RowKit.Below w.heap.size w (w.alloc (.stringIter s 0)):=(RowKit.Below.refl _ _).alloc (Nat.le_refl _) _
 have h2:=h.grow (X':=X) hb (fun _ hx=>hx) (fun b hx=>.inl hx)
 refine ⟨_,.pointer (some ⟨w.heap.size,0,none⟩),w.alloc (.stringIter s 0),μ.set d (some (w.heap.size,0)),X,by simp [execOp,ho,Instr.range,hxv,run_underlying (Ww hu)],.inl rfl,h2.addReg hd hdb (.it s 0) (some (w.heap.size,0)) ?_ ?_,?_,fun _ hx=>hx,fun b hx=>hb.block b (h.xlt b hx),fun _ hx=>.inl hx⟩
 ·intro g m e
  cases e
  refine ⟨fun hx=>?_,by simp,fun hlt=>absurd h.size (by omega),fun id n' hi hm=>?_⟩
  ·have:=h.xlt _ hx; omega
  ·have:=(h.loc id _ _ hi hm).2.1; omega
 ·exact ⟨w.heap.size,0,by simp [Df.set],heap_alloc_new w _⟩
 ·exact .li d w.heap.size 0 (by rw [V8]; rfl) (by simp [Df.set])
theorem qLj {x:Operand} {s:ByteArray} {id pos:Nat} (h:Bv w0 B κ X μ st tm w) (hg:Gl Γ w X) (ho:o.op=.next x true) (kx:Am x=true) (hx:ev Γ st.env x=some (.li id)) (hl:A4 st.hp id=some (.it s pos)) :
  (pos<s.size→Au P w0 B κ X o (.t (.tup [.v (.bool true),.v (.int .i64 pos),.v (.int .i32 (Utf8.decode s pos).1)])) ⟨st.env,Gg id (.it s (pos+(Utf8.decode s pos).2)) st.hp⟩ tm w ds) ∧
  (¬ pos<s.size→Au P w0 B κ X o (.t (.tup [.v (.bool false)])) st tm w ds):=by
 obtain ⟨g,m,hs,hm,he⟩:=(B9 (ds:=ds) h hg hx kx).li_inv
 obtain ⟨g',n',hm',hh⟩:=h.reg _ _ hl
 rw [hm] at hm'; cases hm'
 have hglt:g<w.heap.size:=(Array.getElem?_eq_some_iff.1 hh).1
 constructor
 ·intro hp
  obtain ⟨hsim,hs'⟩:=h.setReg hl (r':=.it s (pos+(Utf8.decode s pos).2)) rfl hm (w':={ w with heap:=w.heap.setIfInBounds g (.stringIter s (pos+(Utf8.decode s pos).2)) }) rfl rfl rfl (by simp) (fun j hj=>by simp [Array.getElem?_setIfInBounds,Ne.symm hj])
   (fun hs'=>⟨g,m,hm,by simp [hglt]⟩)
  refine ⟨_,.tuple #[.bool true,goInt pos,.int .i32 (Utf8.decode s pos).1],_,μ,X,?_,.inl rfl,hsim,.t _ _ (TR.mk_tup (F5.cons (.v _) (F5.cons (.v _) (F5.cons (.v _) (F5.nil _ _))))),fun _ hx=>hx,hs',fun _ hx=>.inl hx⟩
  simp [execOp,ho,he,Instr.next,getObj,setObj,Sem.run,hh,hp,goInt]
 ·intro hp
  refine Au.same h (v:=.tuple #[.bool false]) ?_ (.t _ _ (TR.mk_tup (F5.cons (.v _) (F5.nil _ _))))
  simp [execOp,ho,he,Instr.next,getObj,Sem.run,hh,hp]
end
end Go.Lg
namespace Go.Lg
open Go
section
variable {P:Program} {Γ:Tables} {w0:World} {B:Nat} {κ:Df} {X:Nat→Prop} {μ:Df} {st:St} {tm:Array Value} {w:World} {ds:List Deferred} {o:Oper}
theorem q9u {id:Nat} {r:Bc}:∀ {hp:List (Nat × Bc)},A4 hp id=some r→Gg id r hp=hp
 | [],h=>by simp [A4] at h
 | (k,v)::e,h=>by
  simp only [A4] at h
  simp only [Gg]
  split
  ·rename_i hk; rw [if_pos hk] at h; cases h; rw [hk]
  ·rename_i hk; rw [if_neg hk] at h; rw [q9u h]
theorem qG9 {s:Nat} {es:List (List T)} {vs:List (List Value)} (h:Els w X s es vs) (n:Nat):Els w X s (es.drop n) (vs.drop n):=by
 refine ⟨by simp [h.1],fun v hv=>h.2.1 v (List.mem_of_mem_drop hv),fun e he=>h.2.2.1 e (List.mem_of_mem_drop he),fun i e v he hv=>?_⟩
 rw [List.getElem?_drop] at he hv
 exact h.2.2.2 _ e v he hv
theorem qD2 {id ty s:Nat} {es:List (List T)} {vs:List (List Value)} {sh:Nat→Option Sh} {g:Nat} {arr:Array Value} {rest:List Value} (hm:μ id=some (g,arr.size)) (hh:w.heap[g]? = some (.cells arr ty (0,0))) (he:Els w X s es vs) (ha:arr.toList=vs.flatten++rest):Oq w X μ sh id (.sl ty s es):=by
 have hfl:=C9 he.2.1
 refine ⟨fun i e hi=>?_,.inr ⟨g,arr,hm,hh,?_,fun i k e t x h1 h2 h3=>?_⟩⟩
 ·have:=he.2.2.1 e (List.mem_of_getElem? hi)
  exact ⟨this.1,fun k t hk=>List.all_eq_true.1 this.2 t (List.mem_of_getElem? hk)⟩
 ·have:=congrArg List.length ha
  simp only [Array.length_toList,List.length_append] at this
  rw [he.1]; omega
 ·have hi:=(List.getElem?_eq_some_iff.1 h1).1
  have hes:=(he.2.2.1 e (List.mem_of_getElem? h1)).1
  have hk:k<s:=by rw [← hes]; exact (List.getElem?_eq_some_iff.1 h2).1
  have hf:=X7 he.2.1 i k hk
  have h3':(vs.flatten++rest)[i*s+k]? = some x:=by rw [← ha]; simpa using h3
  have hlt:i*s+k<vs.flatten.length:=by
   rw [hfl,← he.1]
   have:=O3 (s:=s) hi
   omega
  rw [List.getElem?_append_left hlt,hf] at h3'
  obtain ⟨v,hv,hx⟩:=Option.bind_eq_some_iff.1 h3'
  exact (he.2.2.2 i e v h1 hv).2 k t x h2 hx
theorem qBa {x y:Operand} {t t2:TypeId} (ho:o.op=.call { callee:=.builtin .copy,args:=#[x,y],argTypes:=#[t,t2] }) {v:Value} {w':World}
  (h:(Builtin.copy_ #[t,t2] o.type #[Act.eval ⟨tm,ds⟩ x,Act.eval ⟨tm,ds⟩ y]).run P w=.ok v w'):(execOp (Act.eval ⟨tm,ds⟩) o).run P w=.ok (.value v) w':=by
 simp [execOp,ho,resolve,invoke,builtin,h]
theorem qLk {t t2 ty ty2 s id off len:Nat} {cap:Option Nat} {x y:Operand} {es news:List (List T)} {ay:AV} (hsl:slO P t=some ty) (hsz:O6 P ty=some s) (hpos:0<s) (h:Bv w0 B κ X μ st tm w) (hg:Gl Γ w X) (ho:o.op=.call { callee:=.builtin .copy,args:=#[x,y],argTypes:=#[t,t2] }) (kx:Am x=true) (ky:Am y=true)
  (hx:ev Γ st.env x=some (.ls id off len cap)) (hl:A4 st.hp id=some (.sl ty2 s es)) (hy:ev Γ st.env y=some ay) (hnews:Br st.hp ay=some news) (hw:D5 s news) :
  Au P w0 B κ X o (.t (.v (.int .i64 (min len news.length:Nat)))) ⟨st.env,Gg id (.sl ty2 s (es.take off++news.take (min len news.length)++es.drop (off+min len news.length))) st.hp⟩ tm w ds:=by
 have hrb:=B9 (ds:=ds) h hg hx kx
 have hrx:=B9 (ds:=ds) h hg hy ky
 have hreg:=h.reg id _ hl
 have hid:st.sh id ≠ none:=by simp [Ff hl]
 obtain ⟨oa,c2,vs,hvx,hels,hone,hsrc⟩:=X8 h hrx hnews hw
 obtain ⟨s2,n2,hs2,hcase⟩:=hrb.ls_inv
 rw [Ff hl] at hs2
 simp only [Bc.sh,Option.some.injEq,Sh.sl.injEq] at hs2
 obtain ⟨rfl,rfl⟩:=hs2
 have hfc0:(Builtin.firstCells s 0 (.slice oa news.length c2)).run P w=.ok #[] w:=by
  cases oa <;> simp [Builtin.firstCells,loadCells,loadCellsFrom]
 -- nothing is copied
 have zero:∀ (ab:Option Addr) (cb:Nat),Act.eval ⟨tm,ds⟩ x=.slice ab len cb→min len news.length=0→Au P w0 B κ X o (.t (.v (.int .i64 (min len news.length:Nat)))) ⟨st.env,Gg id (.sl ty2 s (es.take off++news.take (min len news.length)++es.drop (off+min len news.length))) st.hp⟩ tm w ds:=by
  intro ab cb hv h0
  have hrun:(Builtin.copy_ #[t,t2] o.type #[Act.eval ⟨tm,ds⟩ x,Act.eval ⟨tm,ds⟩ y]).run P w=.ok (goInt 0) w:=by
   rw [hv,hvx]
   have hm0:Nat.min news.length len=0:=(Nat.min_comm news.length len).trans h0
   simp only [Builtin.copy_,Sem.run_bind,List.getElem?_toArray,List.getElem?_cons_zero,List.getElem?_cons_succ,run_underlying (C4 hsl),Result.andThen_ok,Dl hsz,Sem.run_pure,Builtin.lenOf,hm0,hfc0]
   cases ab <;> simp [storeCells]
  rw [h0,List.take_zero,List.append_nil,Nat.add_zero,List.take_append_drop,q9u hl]
  exact Au.same h (qBa ho hrun) (.t _ _ (.v _))
 rcases hcase with ⟨hm,⟨ab,hvb⟩,_,rfl,_⟩ | ⟨g,m,cb,ad,hm,hvb,hle,hlc,hcm,hfit,hfull,_,had⟩
 ·exact zero ab 0 hvb (Nat.zero_min _)
 ·by_cases h0:min len news.length=0
  ·exact zero (some ad) cb hvb h0
  ·have hlen:0<len:=by
    rcases Nat.eq_zero_or_pos len with h | h
    ·subst h; exact absurd (Nat.zero_min _) h0
    ·exact h
   have hnl:0<news.length:=by
    rcases Nat.eq_zero_or_pos news.length with h | h
    ·rw [h] at h0; exact absurd (Nat.min_zero _) h0
    ·exact h
   have hadg:=had (.inl (by omega))
   subst hadg
   obtain ⟨bb,boff,rfl,hcell⟩:=hsrc (List.length_pos_iff.1 hnl)
   generalize hn:min len news.length=n at *
   have hnlen:n≤len:=by rw [← hn]; exact Nat.min_le_left _ _
   have hnnew:n≤news.length:=by rw [← hn]; exact Nat.min_le_right _ _
   obtain ⟨arr,rest,us,hheap,hsza,helsr,harr⟩:=q8H hreg hpos hm
   have helst:=q2X hels n
   have hvn:(vs.take n).length=n:=by simp; rw [← hels.1]; exact Nat.min_eq_left hnnew
   have hfl:(vs.take n).flatten.length=n*s:=by rw [C9 helst.2.1,hvn]
   have hpre:∀ (j:Nat) (v:Value),(vs.take n).flatten[j]? = some v→vs.flatten[j]? = some v:=fun j v hv=>by
    have e:vs.flatten=(vs.take n).flatten++(vs.drop n).flatten:=by rw [← List.flatten_append,List.take_append_drop]
    rw [e,List.getElem?_append_left (List.getElem?_eq_some_iff.1 hv).1]; exact hv
   have hfc:=run_firstCells_some (P:=P) w s n ⟨bb,boff,none⟩ news.length c2 (vs.take n).flatten hfl (fun j v hv=>by rw [Addr.add_lit]; exact hcell j v (hpre j v hv))
   have h1:∀ u ∈ (vs.take n).flatten,u.oneCell'=true:=fun u hu=>by
    obtain ⟨v,hv,hu⟩:=List.mem_flatten.1 hu
    exact hone v (List.mem_of_mem_take hv) u hu
   have hlu:us.flatten.length=es.length*s:=by rw [C9 helsr.2.1,helsr.1]
   have hofit:off*s+(vs.take n).flatten.length≤arr.size:=by
    have hA:=congrArg List.length harr
    simp only [Array.length_toList,List.length_append] at hA
    rw [hfl,← Nat.add_mul]
    have:(off+n)*s≤es.length*s:=Nat.mul_le_mul_right _ (by omega)
    omega
   have hst:=run_storeCells_at P g (off*s) ty2 (vs.take n).flatten 0 arr w hheap (by simpa using hofit) h1
   simp only [Nat.add_zero] at hst
   have hrun:(Builtin.copy_ #[t,t2] o.type #[Act.eval ⟨tm,ds⟩ x,Act.eval ⟨tm,ds⟩ y]).run P w=.ok (goInt n) (w.setRow g (arr.toList.take (off*s)++(vs.take n).flatten++arr.toList.drop (off*s+(vs.take n).flatten.length)).toArray):=by
    rw [hvb,hvx]
    have hm0:Nat.min news.length len=n:=(Nat.min_comm news.length len).trans hn
    simp only [Builtin.copy_,Sem.run_bind,List.getElem?_toArray,List.getElem?_cons_zero,List.getElem?_cons_succ,run_underlying (C4 hsl),Result.andThen_ok,Dl hsz,Sem.run_pure,Builtin.lenOf,hm0,hfc]
    simp [hst]
   have huf:∀ k,us.flatten.take (k*s)=(us.take k).flatten:=fun k=>by
    by_cases hk:k≤us.length
    ·have e:us.flatten=(us.take k).flatten++(us.drop k).flatten:=by rw [← List.flatten_append,List.take_append_drop]
     have hl2:(us.take k).flatten.length=k*s:=by rw [C9 (q2X helsr k).2.1]; simp; rw [Nat.min_eq_left hk]
     rw [e,List.take_append_of_le_length (by omega),List.take_of_length_le (by omega)]
    ·rw [List.take_of_length_le (by rw [C9 helsr.2.1]; exact Nat.mul_le_mul_right _ (by omega)),List.take_of_length_le (by omega)]
   have hud:us.flatten.drop ((off+n)*s)=(us.drop (off+n)).flatten:=by
    have e:us.flatten=(us.take (off+n)).flatten++(us.drop (off+n)).flatten:=by rw [← List.flatten_append,List.take_append_drop]
    have hl2:(us.take (off+n)).flatten.length=(off+n)*s:=by rw [C9 (q2X helsr (off+n)).2.1]; simp; rw [Nat.min_eq_left (by rw [← helsr.1]; omega)]
    rw [e,List.drop_append_of_le_length (by omega),List.drop_of_length_le (by omega),List.nil_append]
   have hul:us.flatten.length=es.length*s:=hlu
   have hon:(off+n)*s≤es.length*s:=Nat.mul_le_mul_right _ (by omega)
   have hoo:off*s≤es.length*s:=Nat.mul_le_mul_right _ (by omega)
   have hta:arr.toList.take (off*s)=(us.take off).flatten:=by
    rw [harr,List.take_append_of_le_length (by omega),huf]
   have hda:arr.toList.drop (off*s+(vs.take n).flatten.length)=(us.drop (off+n)).flatten++rest:=by
    rw [hfl,← Nat.add_mul,harr,List.drop_append_of_le_length (by omega),hud]
   have hsz2:(arr.toList.take (off*s)++(vs.take n).flatten++arr.toList.drop (off*s+(vs.take n).flatten.length)).toArray.size=arr.size:=q5U rfl hofit
   have hsh:(Bc.sl ty2 s (es.take off++news.take n++es.drop (off+n))).sh=(Bc.sl ty2 s es).sh:=by
    simp only [Bc.sh,List.length_append,List.length_take,List.length_drop]
    rw [show min off es.length+min n news.length+(es.length - (off+n))=es.length by rw [Nat.min_eq_left (by omega),Nat.min_eq_left hnnew]; omega]
   obtain ⟨hsim,hs'⟩:=h.setReg hl hsh hm (w':=w.setRow g (arr.toList.take (off*s)++(vs.take n).flatten++arr.toList.drop (off*s+(vs.take n).flatten.length)).toArray) rfl rfl rfl (by simp) (fun j hj=>setRow_other w g j _ hj) (fun hs'=>by
    refine qD2 (rest:=rest) (by rw [hsz2,hsza]; exact hm) (setRow_heap w g arr _ ty2 _ hheap) ((((q2X helsr off).append helst).append (qG9 helsr (off+n))).mono hs' fun _ hx=>hx) ?_
    simp only [List.flatten_append]
    rw [hta,hda,List.append_assoc,List.append_assoc,List.append_assoc])
   exact ⟨_,goInt n,_,μ,X,qBa ho hrun,.inl rfl,hsim,.t _ _ (.v _),fun _ hx=>hx,hs',fun _ hx=>.inl hx⟩
end
end Go.Lg
namespace Go.Lg
open Go
section
variable {P:Program} {Γ:Tables} {w0:World} {B:Nat} {κ:Df} {X:Nat→Prop} {μ:Df} {st:St} {tm:Array Value} {w:World} {ds:List Deferred} {o:Oper}
def q8L:Value→Lit
 | .int k n=>.int k n
 | .bool b=>.bool b
 | _=>.nil
theorem q4c {α β:Type} (f:α→Option β) (g:α→β):∀ l:List α,(∀ x ∈ l,f x=some (g x))→l.mapM f=some (l.map g)
 | [],_=>rfl
 | a::l,h=>by
  rw [List.mapM_cons,h a List.mem_cons_self,q4c f g l fun x hx=>h x (List.mem_cons_of_mem _ hx)]
  rfl
theorem q5X:∀ {ks:List (Option IntKind)} {vs:List Value},q2S ks vs→vs.length=ks.length
 | [],[],_=>rfl
 | k::ks,v::vs,h=>by simp [q5X h.2]
 | [],_::_,h=>h.elim
 | _::_,[],h=>h.elim
theorem q6X:∀ {n:Nat} {ks:List (Option IntKind)} {vs:List Value},q2S ks vs→q2S (ks.drop n) (vs.drop n)
 | 0,_,_,h=>h
 | n+1,[],[],_=>trivial
 | n+1,k::ks,v::vs,h=>q6X (n:=n) h.2
 | n+1,[],_::_,h=>h.elim
 | n+1,_::_,[],h=>h.elim
theorem q6Y:∀ {n:Nat} {ks:List (Option IntKind)} {vs:List Value},q2S ks vs→q2S (ks.take n) (vs.take n)
 | 0,ks,vs,_=>by simp [q2S]
 | n+1,[],[],_=>trivial
 | n+1,k::ks,v::vs,h=>⟨h.1,q6Y (n:=n) h.2⟩
 | n+1,[],_::_,h=>h.elim
 | n+1,_::_,[],h=>h.elim
theorem q7D {α:Type} (s:Nat) (l:List α):∀ n,n*s≤l.length→((List.range n).map fun i=>(l.drop (i*s)).take s).flatten=l.take (n*s)
 | 0,_=>by simp
 | n+1,h=>by
  rw [Nat.add_mul,Nat.one_mul] at h
  rw [List.range_succ,List.map_append,List.flatten_append,q7D s l n (by omega),Nat.add_mul,Nat.one_mul,List.take_add]
  simp
theorem q9v {α:Type} (l:List α):∀ (fs:List Field) (off:Nat),q79 P fs off l.length=true→off≤l.length→(fs.map fun f=>(l.drop f.offset).take (P.cellsOf f.type)).flatten=l.drop off
 | [],off,h,_=>by
  simp only [q79,beq_iff_eq] at h
  subst h
  simp
 | f::fs,off,h,ho=>by
  simp only [q79,Bool.and_eq_true,beq_iff_eq] at h
  obtain ⟨h1,h2⟩:=h
  have hle:∀ (fs:List Field) (off:Nat),q79 P fs off l.length=true→off≤l.length:=by
   intro fs
   induction fs with
   | nil=>intro off h; simp only [q79,beq_iff_eq] at h; omega
   | cons g gs ih =>
    intro off h
    simp only [q79,Bool.and_eq_true,beq_iff_eq] at h
    have:=ih _ h.2
    omega
  rw [List.map_cons,List.flatten_cons,q9v l fs _ h2 (hle _ _ h2),h1,← List.drop_drop,List.take_append_drop]
theorem q1N:∀ (d:Nat) (t:TypeId) (ks:List (Option IntKind)),q5Q P d t ks=true→∀ vs,q2S ks vs→P.keyLits d t vs=some (vs.map q8L)
 | 0,_,_,h,_,_=>by simp [q5Q] at h
 | d+1,t,ks,h,vs,hv=>by
  simp only [q5Q] at h
  split at h
  ·rename_i hu
   have:=of_decide_eq_true h
   subst this
   match vs,hv with
   | [.bool b],_=>simp [Program.keyLits,hu,q8L]
   | [.int _ _],h=>exact h.1.elim
   | v::u::vs,h=>exact h.2.elim
  ·rename_i q hu
   have:=of_decide_eq_true h
   subst this
   match vs,hv with
   | [.int j n],h =>
    obtain ⟨⟨rfl,hw⟩,_⟩:=h
    simp [Program.keyLits,hu,q8L,hw]
   | v::u::vs,h=>exact h.2.elim
  ·rename_i n e hu
   simp only [Bool.and_eq_true,beq_iff_eq] at h
   obtain ⟨⟨h1,h2⟩,h3⟩:=h
   have hl:=q5X hv
   rw [List.all_eq_true] at h3
   have hm:=q4c (fun i=>P.keyLits d e ((vs.drop (i*P.cellsOf e)).take (P.cellsOf e))) (fun i=>((vs.drop (i*P.cellsOf e)).take (P.cellsOf e)).map q8L) (List.range n) fun i hi=>q1N d e _ (h3 i hi) _ (q6Y (q6X hv))
   simp only [Program.keyLits,hu]
   rw [if_pos (by omega),hm]
   simp only [Option.map_some,Option.some.injEq]
   have:=q7D (P.cellsOf e) (vs.map q8L) n (by rw [List.length_map]; omega)
   rw [List.take_of_length_le (by rw [List.length_map]; omega)] at this
   rw [← this]
   simp [List.map_drop,List.map_take]
  ·rename_i fs hu
   simp only [Bool.and_eq_true,beq_iff_eq] at h
   obtain ⟨⟨⟨h1,h2⟩,h3⟩,h4⟩:=h
   have hl:=q5X hv
   rw [List.all_eq_true] at h4
   have hm:=q4c (fun f:Field=>P.keyLits d f.type ((vs.drop f.offset).take (P.cellsOf f.type))) (fun f=>((vs.drop f.offset).take (P.cellsOf f.type)).map q8L) fs.toList fun f hf=>q1N d f.type _ (h4 f hf) _ (q6Y (q6X hv))
   simp only [Program.keyLits,hu]
   rw [if_pos ⟨by omega,h2⟩,hm]
   simp only [Option.map_some,Option.some.injEq]
   have:=q9v (P:=P) (vs.map q8L) fs.toList 0 (by rw [List.length_map,hl]; exact h3) (Nat.zero_le _)
   rw [List.drop_zero] at this
   rw [← this]
   simp [List.map_drop,List.map_take]
  ·cases h
theorem qBb:∀ {ks:List (Option IntKind)} {as bs:List Value},q2S ks as→q2S ks bs→(q3g as bs=true↔as.map q8L=bs.map q8L)
 | [],[],[],_,_=>by simp [q3g]
 | k::ks,a::as,b::bs,h,g=>by
  have ih:=qBb h.2 g.2
  simp only [q3g,Bool.and_eq_true,List.map_cons,List.cons.injEq,ih]
  refine and_congr_left fun _=>?_
  match k,a,b,h.1,g.1 with
  | some k,.int j n,.int i m,⟨e1,_⟩,⟨e2,_⟩ =>
   subst e1
   subst e2
   simp [qJa,q8L]
  | none,.bool x,.bool y,_,_=>simp [qJa,q8L]
 | [],_::_,_,h,_=>h.elim
 | [],[],_::_,_,g=>g.elim
 | _::_,[],_,h,_=>h.elim
 | _::_,_::_,[],_,g=>g.elim
theorem qE8:∀ {cs:List AV} {xs as:List Value},J5 w X μ st.sh cs xs→Ai (cs.map qJc)=some as→xs=as
 | [],xs,as,h,ha=>by
  have:=h.nil_inv; subst this
  simpa [Ai] using ha
 | c::cs,xs,as,h,ha=>by
  obtain ⟨y,ys,rfl,h1,h2⟩:=h.cons_inv
  match c,h1,ha with
  | .t (.v x),h1,ha =>
   simp only [List.map_cons,qJc,Ai,Option.map_eq_some_iff] at ha
   obtain ⟨bs,hb,rfl⟩:=ha
   rw [qE8 h2 hb,h1.t_inv.v_inv]
theorem qE9:∀ {cs:List T} {xs as:List Value},F5 w X cs xs→Ai (cs.map qJb)=some as→xs=as
 | [],xs,as,h,ha=>by
  have:=h.nil_inv; subst this
  simpa [Ai] using ha
 | c::cs,xs,as,h,ha=>by
  obtain ⟨y,ys,rfl,h1,h2⟩:=h.cons_inv
  match c,h1,ha with
  | .v x,h1,ha =>
   simp only [List.map_cons,qJb,Ai,Option.map_eq_some_iff] at ha
   obtain ⟨bs,hb,rfl⟩:=ha
   rw [qE9 h2 hb,h1.v_inv]
theorem qEA {a:AV} {x:Value} {as:List Value} (h:AR w X μ st.sh a x) (ha:qCm a=some as):x=.agg as.toArray:=by
 match a,h,ha with
 | .ag cs,h,ha =>
  obtain ⟨xs,rfl,_,hr⟩:=h.ag_inv
  rw [qE8 hr ha]
 | .t (.agg ts),h,ha =>
  obtain ⟨xs,rfl,_,hr⟩:=h.t_inv.agg_inv
  rw [qE9 hr ha]
theorem qBc {d:Nat} {t:TypeId} {ks:List (Option IntKind)} (hw:(match P.underlying t with | some (.array _ _) | some (.struct _)=>true | _=>false)=true) (hl:q5Q P (d+1) t ks=true):ks.length=P.cellsOf t:=by
 simp only [q5Q] at hl
 split at hw
 ·rename_i hu
  simp only [hu,Bool.and_eq_true,beq_iff_eq] at hl
  exact hl.1.1
 ·rename_i hu
  simp only [hu,Bool.and_eq_true,beq_iff_eq] at hl
  exact hl.1.1.1
 ·cases hw
theorem qLl {t u:TypeId} {pos:Bool} {ks:List (Option IntKind)} {x y:Operand} {a b:AV} {as bs:List Value} (h:Bv w0 B κ X μ st tm w) (hg:Gl Γ w X) (ho:o.op=.binOp (if pos then .eql else .neq) t x y u)
  (hw:(match P.underlying t with | some (.array _ _) | some (.struct _)=>true | _=>false)=true) (hk:P.keyTypeAt 20 t=true) (hl:q5Q P 20 t ks=true) (hq:P.eqGuardType P.depth t=false) (kx:Am x=true) (ky:Am y=true)
  (hx:ev Γ st.env x=some a) (hy:ev Γ st.env y=some b) (ha:qCm a=some as) (hb:qCm b=some bs) (oa:q2S ks as) (ob:q2S ks bs):Au P w0 B κ X o (.t (.v (.bool (if pos then q3g as bs else !q3g as bs)))) st tm w ds:=by
 have h1:=qEA (B9 (ds:=ds) h hg hx kx) ha
 have h2:=qEA (B9 (ds:=ds) h hg hy ky) hb
 have hcell:ks.length=P.cellsOf t:=qBc (d:=19) hw hl
 have fm:∀ {vs:List Value},q2S ks vs→(Value.agg vs.toArray).formed P t=true:=by
  intro vs hv
  have:=q5X hv
  split at hw
  ·rename_i hu; simp [Value.formed,hu]; omega
  ·rename_i hu; simp [Value.formed,hu]; omega
  ·cases hw
 obtain ⟨r,hr,hiff⟩:=run_equalIn_deep 9980 20 t hk w 20 20 (.agg as.toArray) (.agg bs.toArray) _ _ (fm oa) (fm ob) (by simpa [Value.cells] using q1N 20 t ks hl as oa) (by simpa [Value.cells] using q1N 20 t ks hl bs ob)
 rw [← qBb oa ob] at hiff
 have hre:r=q3g as bs:=by
  cases r <;> cases he:q3g as bs <;> simp_all
 subst hre
 have hr':(Op.equal t (.agg as.toArray) (.agg bs.toArray)).run P w=.ok (q3g as bs) w:=hr
 clear hr hiff
 refine Au.same h (v:=.bool (if pos then q3g as bs else !q3g as bs)) ?_ (.t _ _ (.v _))
 generalize q3g as bs=r at *
 generalize as.toArray=A at *
 generalize bs.toArray=B2 at *
 have hG:∀ op,(eqGuard op t x y (.agg A) (.agg B2)).run P w=.ok () w:=by
  intro op
  cases op <;> simp [eqGuard,hq]
 cases pos
 ·simp only [execOp,ho,h1,h2,Bool.false_eq_true,↓reduceIte,Sem.run_bind,hG,Result.andThen_ok,binOp,hr',Sem.run_pure]
 ·simp only [execOp,ho,h1,h2,↓reduceIte,Sem.run_bind,hG,Result.andThen_ok,binOp,hr',Sem.run_pure]
end
end Go.Lg
namespace Go.Lg
open Go
section
variable {P:Program} {Γ:Tables} {w0:World} {B:Nat} {κ:Df} {X:Nat→Prop} {μ:Df} {st:St} {tm:Array Value} {w:World} {ds:List Deferred} {o:Oper}
theorem Fq {α:Type} [DecidableEq α] {a:Option α} {b:α} (h:(a == some b)=true):a=some b:=by simpa using h
theorem Td {c:Call} {b:Builtin} {ys:List Operand} {ts:List TypeId} (h1:c.callee=.builtin b) (h2:c.args.toList=ys) (h3:c.argTypes.toList=ts):c={ callee:=.builtin b,args:=ys.toArray,argTypes:=ts.toArray }:=by
 cases c with
 | mk cc ca ct=>simp at h1 h2 h3; subst h1; subst h2; subst h3; simp
theorem qF5 {k:Nat} {x:Operand} {c:Prop} {r:AV} {st1:St} {d:Nat} (h:Bv w0 B κ X μ st tm w) (hg:Gl Γ w X) (hchk:Pj P (.len k x) o.op=true) (hk:Am x=true) (hs:Ap Γ d (.len k x) st=some (c,r,st1)) (hc:c):Au P w0 B κ X o r st1 tm w ds:=by
 generalize hop:o.op=op at hchk
 simp only [Pj] at hchk
 split at hchk
 case h_2=>cases hchk
 split at hchk
 case h_2=>cases hchk
 rename_i cc _ _ _ y t e1 e2 e3
 simp only [Bool.and_eq_true] at hchk
 have:=Ak hchk.1; subst this
 have he:=Td e1 e2 e3
 subst he
 simp only [Ap,Option.bind_eq_some_iff] at hs
 obtain ⟨a,ha,hs⟩:=hs
 split at hs
 case isFalse=>cases hs
 rename_i hlk
 simp only [Option.map_eq_some_iff,Prod.mk.injEq] at hs
 obtain ⟨n,hn,_,rfl,rfl⟩:=hs
 refine qLY h hg hop hk ha ?_ hn
 have h2:=hchk.2
 unfold qHr at hlk
 split at hlk
 ·simp only [Option.isSome_iff_exists] at h2
  obtain ⟨e,he⟩:=h2
  rw [C4 he]; rfl
 ·simp only [Option.isSome_iff_exists] at h2
  obtain ⟨e,he⟩:=h2
  rw [C4 he]; rfl
 ·simp only [Option.isSome_iff_exists] at h2
  obtain ⟨e,he⟩:=h2
  rw [C4 he]; rfl
 ·rw [Ww h2]; rfl
 ·simp only [Option.isSome_iff_exists] at h2
  obtain ⟨e,he⟩:=h2
  rw [Ry (k:=e.1) (e:=e.2) he]; rfl
 ·simp only [Option.isSome_iff_exists] at h2
  obtain ⟨e,he⟩:=h2
  rw [Ry (k:=e.1) (e:=e.2) he]; rfl
 ·cases hlk
set_option maxHeartbeats 1000000 in
theorem S0 {io:Ce} {d:Nat} {c:Prop} {r:AV} {st1:St} (hnt:∀ ty s b x,io ≠ .appT ty s b x) (hns:∀ id n a x,io ≠ .stR id n a x) (hnl:∀ id n g a,io ≠ .ldR id n g a) (hn4:∀ n g a,io ≠ .ldT n g a) (hn5:∀ kt zv ok m k,io ≠ .lkT kt zv ok m k) (h:Bv w0 B κ X μ st tm w) (hg:Gl Γ w X) (hchk:Pj P io o.op=true) (hok:io.opds.all Am=true) (hd:d<1000000) (hs:Ap Γ d io st=some (c,r,st1)) (hc:c):Au P w0 B κ X o r st1 tm w ds:=by
 cases io with
 | mv x =>
  have hk:Am x=true:=by simpa [Ce.opds] using hok
  generalize hop:o.op=op at hchk
  simp only [Ap,Option.map_eq_some_iff,Prod.mk.injEq] at hs
  obtain ⟨a,ha,_,rfl,rfl⟩:=hs
  simp only [Pj] at hchk
  split at hchk
  ·have:=Ak hchk; subst this
   exact qLV h hg (.inl hop) ha hk
  ·have:=Ak hchk; subst this
   exact qLV h hg (.inr hop) ha hk
  ·cases hchk
 | pick c1 a b =>
  generalize hop:o.op=op at hchk
  simp only [Pj] at hchk
  split at hchk
  case h_2=>cases hchk
  simp only [Bool.and_eq_true] at hchk
  obtain ⟨⟨h1,h2⟩,h3⟩:=hchk
  have:=Ak h1; subst this
  have:=Ak h2; subst this
  have:=Ak h3; subst this
  simp only [Ce.opds,List.all_cons,Bool.and_eq_true] at hok
  simp only [Ap] at hs
  split at hs
  ·rename_i p va vb e1 e2 e3
   simp only [Option.some.injEq,Prod.mk.injEq] at hs
   obtain ⟨_,rfl,rfl⟩:=hs
   exact qJf h hg hop e1 e2 e3 hok.1 hok.2.1 hok.2.2.1
  ·cases hs
 | alloc fz zs =>
  generalize hop:o.op=op at hchk
  simp only [Pj] at hchk
  split at hchk
  case h_2=>cases hchk
  simp only [Bool.and_eq_true] at hchk
  obtain ⟨h1,h2⟩:=hchk
  rename_i t
  have hz:E0 P t=some zs:=by
   split at h1
   ·rename_i z hz; rw [hz,Rx h1]
   ·cases h1
  simp only [Ap] at hs
  split at hs <;> simp only [Option.some.injEq,Prod.mk.injEq] at hs <;> obtain ⟨rfl,rfl,rfl⟩:=hs
  ·exact qCs h hop hz h2
  ·exact qHu h hop hz h2 hc hd
 | box fz x =>
  have hk:Am x=true:=by simpa [Ce.opds] using hok
  generalize hop:o.op=op at hchk
  simp only [Pj] at hchk
  split at hchk
  case h_2=>cases hchk
  have:=Ak hchk; subst this
  simp only [Ap,Option.bind_eq_some_iff] at hs
  obtain ⟨a,ha,hs⟩:=hs
  split at hs
  ·simp only [Option.map_eq_some_iff,Prod.mk.injEq] at hs
   obtain ⟨ts,hts,rfl,rfl,rfl⟩:=hs
   exact qG2 h hg hop hk ha hts hc
  ·simp only [Option.some.injEq,Prod.mk.injEq] at hs
   obtain ⟨rfl,rfl,rfl⟩:=hs
   exact qLd h hg hop hk ha hc.2 hc.1 hd
 | build qs =>
  generalize hop:o.op=op at hchk
  simp only [Pj] at hchk
  split at hchk
  case h_2=>cases hchk
  split at hchk
  ·rename_i fs zs hf hz
   simp only [Ap,Option.map_eq_some_iff,Prod.mk.injEq] at hs
   obtain ⟨as,ha,rfl,rfl,rfl⟩:=hs
   exact qHv h hg hop hok hf hz hchk ha hc.1 hc.2
  ·rename_i zs hf hz
   simp only [Ap,Option.map_eq_some_iff,Prod.mk.injEq] at hs
   obtain ⟨as,ha,rfl,rfl,rfl⟩:=hs
   simp only [Bool.and_eq_true] at hchk
   exact qBR h hg hop hok hchk.1.1 hchk.1.2 hz hchk.2 ha hc.1 hc.2
  ·cases hchk
 | bsl fz ty s xs =>
  generalize hop:o.op=op at hchk
  simp only [Pj] at hchk
  split at hchk
  case h_2=>cases hchk
  rename_i t n ps
  simp only [Bool.and_eq_true,decide_eq_true_eq] at hchk
  obtain ⟨⟨⟨⟨⟨⟨⟨h1,h2⟩,h3⟩,h4⟩,h5⟩,h6⟩,h7⟩,h8⟩:=hchk
  have h4:n=xs.length:=by simpa using h4
  obtain ⟨zs,hz,hzl⟩:∃ zs,E0 P ty=some zs∧zs.length=s:=by
   split at h8
   ·rename_i z hz; exact ⟨z,hz,by simpa using h8⟩
   ·cases h8
  simp only [Ap,Option.bind_eq_some_iff,Option.map_eq_some_iff] at hs
  obtain ⟨as,ha,es,hes,hs⟩:=hs
  split at hs <;> simp only [Prod.mk.injEq] at hs <;> obtain ⟨rfl,rfl,rfl⟩:=hs
  ·exact qG3 h hg hop hok (Fq h1) (Fq h2) h4 h5 hz hzl h3 h7 ha hes hc
  ·exact qLe h hg hop hok (Fq h1) (Fq h2) h4 h5 hz hzl h3 h7 ha hes hc.2 hc.1 hd
 | load n g a =>
  have hk:Am a=true:=by simpa [Ce.opds] using hok
  generalize hop:o.op=op at hchk
  simp only [Pj] at hchk
  split at hchk
  case h_2=>cases hchk
  simp only [Bool.and_eq_true] at hchk
  obtain ⟨⟨⟨h1,h2⟩,h3⟩,h4⟩:=hchk
  have:=Ak h1; subst this
  simp only [Ap] at hs
  split at hs
  ·rename_i cs k e1
   simp only [Option.some.injEq,Prod.mk.injEq] at hs
   obtain ⟨rfl,rfl,rfl⟩:=hs
   exact qEx h hg hop e1 hk (Fq h2) (Fq h3) h4 hc
  ·rename_i id i k e1
   split at hs
   ·rename_i ty s es hl
    simp only [Option.some.injEq,Prod.mk.injEq] at hs
    obtain ⟨rfl,rfl,rfl⟩:=hs
    exact qEz h hg hop e1 hk (Fq h2) (Fq h3) h4 hl hc.1 hc.2
   ·rename_i cs hl
    simp only [Option.some.injEq,Prod.mk.injEq] at hs
    obtain ⟨rfl,rfl,rfl⟩:=hs
    exact qEy h hg hop e1 hk (Fq h2) (Fq h3) h4 hl hc.2
   ·cases hs
  ·cases hs
 | store n a x =>
  generalize hop:o.op=op at hchk
  simp only [Pj] at hchk
  split at hchk
  case h_2=>cases hchk
  simp only [Bool.and_eq_true] at hchk
  obtain ⟨⟨h1,h2⟩,h3⟩:=hchk
  have:=Ak h1; subst this
  have:=Ak h2; subst this
  simp only [Ce.opds,List.all_cons,Bool.and_eq_true] at hok
  simp only [Ap,Option.bind_eq_some_iff] at hs
  obtain ⟨v,hv,hs⟩:=hs
  split at hs
  ·rename_i id i k e1
   split at hs
   ·rename_i ty s es hl
    simp only [Option.map_eq_some_iff,Prod.mk.injEq] at hs
    obtain ⟨ts,hts,rfl,rfl,rfl⟩:=hs
    obtain ⟨c1,c2,c3,c4⟩:=hc
    exact qCv h hg hop hok.1 hok.2.1 (Fq h3) e1 hv hl c1 c2 hts c3 c4
   ·rename_i cs hl
    simp only [Option.some.injEq,Prod.mk.injEq] at hs
    obtain ⟨rfl,rfl,rfl⟩:=hs
    obtain ⟨rfl,c2,c3,c4⟩:=hc
    exact qCu h hg hop hok.1 hok.2.1 (Fq h3) e1 hv hl c2 c3 c4 (.inr trivial)
   ·cases hs
  ·cases hs
 | fadr off a =>
  have hk:Am a=true:=by simpa [Ce.opds] using hok
  generalize hop:o.op=op at hchk
  simp only [Pj] at hchk
  split at hchk
  case h_2=>cases hchk
  simp only [Bool.and_eq_true] at hchk
  obtain ⟨h1,h2⟩:=hchk
  have:=Ak h1; subst this
  split at h2
  case h_2=>cases h2
  rename_i fs hu
  split at h2
  case h_2=>cases h2
  rename_i f hf
  simp only [Bool.and_eq_true,beq_iff_eq] at h2
  obtain ⟨h3,h4⟩:=h2
  obtain ⟨s,hz,hp⟩:∃ s,O6 P f.type=some s∧0<s:=by
   split at h4
   ·rename_i s hz; exact ⟨s,hz,by simpa using h4⟩
   ·cases h4
  simp only [Ap] at hs
  split at hs
  ·rename_i cs k e1
   simp only [Option.some.injEq,Prod.mk.injEq] at hs
   obtain ⟨_,rfl,rfl⟩:=hs
   exact qJg h hg hop hk hu hf h3 hz hp e1
  ·rename_i id j k e1
   simp only [Option.some.injEq,Prod.mk.injEq] at hs
   obtain ⟨_,rfl,rfl⟩:=hs
   exact qF0 h hg hop hk hu hf h3 hz hp e1
  ·cases hs
 | fld off n g x =>
  have hk:Am x=true:=by simpa [Ce.opds] using hok
  generalize hop:o.op=op at hchk
  simp only [Pj] at hchk
  split at hchk
  case h_2=>cases hchk
  simp only [Bool.and_eq_true] at hchk
  obtain ⟨h1,h2⟩:=hchk
  have:=Ak h1; subst this
  split at h2
  case h_2=>cases h2
  rename_i fs hu
  split at h2
  case h_2=>cases h2
  rename_i f hf
  simp only [Bool.and_eq_true] at h2
  obtain ⟨⟨⟨h3,h4⟩,h5⟩,h6⟩:=h2
  simp only [Ap,Option.bind_eq_some_iff] at hs
  obtain ⟨a,ha,hs⟩:=hs
  split at hs
  ·simp only [Option.some.injEq,Prod.mk.injEq] at hs
   obtain ⟨rfl,rfl,rfl⟩:=hs
   exact qFz h hg hop hk hu hf (by simpa using h3) (Fq h4) (Fq h5) h6 ha hc
  ·simp only [Option.some.injEq,Prod.mk.injEq] at hs
   obtain ⟨rfl,rfl,rfl⟩:=hs
   exact qHt h hg hop hk hu hf (by simpa using h3) (Fq h4) (Fq h5) h6 ha hc
  ·cases hs
 | iadr s x i =>
  generalize hop:o.op=op at hchk
  simp only [Pj] at hchk
  split at hchk
  case h_2=>cases hchk
  simp only [Bool.and_eq_true] at hchk
  obtain ⟨⟨h1,h2⟩,h3⟩:=hchk
  have:=Ak h1; subst this
  have:=Ak h2; subst this
  simp only [Ce.opds,List.all_cons,Bool.and_eq_true] at hok
  split at h3
  case h_2=>cases h3
  rename_i e he
  simp only [Ap] at hs
  split at hs
  ·rename_i es cap nl k n e1 e2
   simp only [Option.some.injEq,Prod.mk.injEq] at hs
   obtain ⟨rfl,rfl,rfl⟩:=hs
   exact qG0 h hg hop hok.1 hok.2.1 he (Fq h3) e1 e2 hc.1 hc.2.1 hc.2.2
  ·rename_i id off len cap k n e1 e2
   split at hs
   ·rename_i ty q es hl
    simp only [Option.some.injEq,Prod.mk.injEq] at hs
    obtain ⟨rfl,rfl,rfl⟩:=hs
    exact qF1 h hg hop hok.1 hok.2.1 he (Fq h3) e1 hl hc.1 e2 hc.2.1 hc.2.2
   ·cases hs
  ·rename_i id m k n e1 e2
   split at hs
   ·rename_i cs hl
    simp only [Option.some.injEq,Prod.mk.injEq] at hs
    obtain ⟨rfl,rfl,rfl⟩:=hs
    exact qF4 h hg hop hok.1 hok.2.1 he (Fq h3) e1 hl hc.1 e2 hc.2.1 hc.2.2
   ·cases hs
  ·cases hs
 | iadT s x i =>
  generalize hop:o.op=op at hchk
  simp only [Pj] at hchk
  split at hchk
  case h_2=>cases hchk
  simp only [Bool.and_eq_true] at hchk
  obtain ⟨⟨h1,h2⟩,h3⟩:=hchk
  have:=Ak h1; subst this
  have:=Ak h2; subst this
  simp only [Ce.opds,List.all_cons,Bool.and_eq_true] at hok
  split at h3
  case h_2=>cases h3
  rename_i e he
  simp only [Ap] at hs
  split at hs
  ·rename_i es cap nl k n e1 e2
   simp only [Option.some.injEq,Prod.mk.injEq] at hs
   obtain ⟨rfl,rfl,rfl⟩:=hs
   exact qG0 h hg hop hok.1 hok.2.1 he (Fq h3) e1 e2 hc.1 hc.2.1 hc.2.2
  ·cases hs
 | iadrA len s x i =>
  generalize hop:o.op=op at hchk
  simp only [Pj] at hchk
  split at hchk
  case h_2=>cases hchk
  simp only [Bool.and_eq_true] at hchk
  obtain ⟨⟨h1,h2⟩,h3⟩:=hchk
  have:=Ak h1; subst this
  have:=Ak h2; subst this
  simp only [Ce.opds,List.all_cons,Bool.and_eq_true] at hok
  split at h3
  case h_2=>cases h3
  rename_i n e he
  simp only [Bool.and_eq_true] at h3
  obtain ⟨h4,h3⟩:=h3
  have:n=len:=by simpa using h4
  subst this
  simp only [Ap] at hs
  split at hs
  ·rename_i cs k kk n e1 e2
   simp only [Option.some.injEq,Prod.mk.injEq] at hs
   obtain ⟨rfl,rfl,rfl⟩:=hs
   exact qCo h hg hop hok.1 hok.2.1 he (Fq h3) e1 e2 hc.1 hc.2
  ·rename_i id jj k kk n e1 e2
   simp only [Option.some.injEq,Prod.mk.injEq] at hs
   obtain ⟨rfl,rfl,rfl⟩:=hs
   exact qCp h hg hop hok.1 hok.2.1 he (Fq h3) e1 e2 hc.1 hc.2
  ·cases hs
 | idxS x i =>
  generalize hop:o.op=op at hchk
  simp only [Pj] at hchk
  split at hchk
  case h_2=>cases hchk
  simp only [Bool.and_eq_true] at hchk
  obtain ⟨⟨h1,h2⟩,h3⟩:=hchk
  have:=Ak h1; subst this
  have:=Ak h2; subst this
  simp only [Ce.opds,List.all_cons,Bool.and_eq_true] at hok
  simp only [Ap] at hs
  split at hs
  ·rename_i s k n e1 e2
   simp only [Option.some.injEq,Prod.mk.injEq] at hs
   obtain ⟨rfl,rfl,rfl⟩:=hs
   exact qJh h hg hop hok.1 hok.2.1 h3 e1 e2 hc.1 hc.2
  ·cases hs
 | idxA len s g x i =>
  generalize hop:o.op=op at hchk
  simp only [Pj] at hchk
  split at hchk
  case h_2=>cases hchk
  simp only [Bool.and_eq_true] at hchk
  obtain ⟨⟨h1,h2⟩,h3⟩:=hchk
  have:=Ak h1; subst this
  have:=Ak h2; subst this
  simp only [Ce.opds,List.all_cons,Bool.and_eq_true] at hok
  split at h3
  case h_2=>cases h3
  rename_i n e he
  simp only [Bool.and_eq_true] at h3
  obtain ⟨⟨⟨h4,h5⟩,h6⟩,h7⟩:=h3
  have:n=len:=by simpa using h4
  subst this
  simp only [Ap] at hs
  split at hs
  ·rename_i ts k nn e1 e2
   simp only [Option.some.injEq,Prod.mk.injEq] at hs
   obtain ⟨rfl,rfl,rfl⟩:=hs
   exact qG1 h hg hop hok.1 hok.2.1 he (Fq h5) (Fq h6) h7 e1 e2 hc.1 hc.2.1 hc.2.2
  ·rename_i cs k nn e1 e2
   simp only [Option.some.injEq,Prod.mk.injEq] at hs
   obtain ⟨rfl,rfl,rfl⟩:=hs
   exact qF2 h hg hop hok.1 hok.2.1 he (Fq h5) (Fq h6) h7 e1 e2 hc.1 hc.2.1 hc.2.2
  ·cases hs
 | bin op x y =>
  generalize hop:o.op=op' at hchk
  simp only [Pj] at hchk
  split at hchk
  case h_2=>cases hchk
  simp only [Bool.and_eq_true,decide_eq_true_eq] at hchk
  obtain ⟨⟨rfl,h1⟩,h2⟩:=hchk
  have:=Ak h1; subst this
  have:=Ak h2; subst this
  simp only [Ce.opds,List.all_cons,Bool.and_eq_true] at hok
  simp only [Ap] at hs
  split at hs
  ·rename_i a b e1 e2
   simp only [Option.map_eq_some_iff,Prod.mk.injEq] at hs
   obtain ⟨⟨c',r'⟩,hb,rfl,rfl,rfl⟩:=hs
   exact qLW h hg hop e1 e2 hok.1 hok.2.1 hb hc
  ·cases hs
 | isNil pos x =>
  have hk:Am x=true:=by simpa [Ce.opds] using hok
  generalize hop:o.op=op' at hchk
  simp only [Pj] at hchk
  split at hchk
  case h_2=>cases hchk
  simp only [Bool.and_eq_true,decide_eq_true_eq,Bool.or_eq_true,Option.isSome_iff_exists] at hchk
  obtain ⟨⟨rfl,e,he⟩,hpq⟩:=hchk
  rename_i t p q u
  have hpq':(p=x∧q=.const (.slice none 0 0))∨(q=x∧p=.const (.slice none 0 0)):=by
   rcases hpq with ⟨h1,h2⟩ | ⟨h1,h2⟩
   ·exact .inl ⟨(Ak h1).symm,(Ak h2).symm⟩
   ·exact .inr ⟨(Ak h1).symm,(Ak h2).symm⟩
  simp only [Ap] at hs
  split at hs
  ·rename_i es cap nl e1
   split at hs
   ·rename_i b
    simp only [Option.some.injEq,Prod.mk.injEq] at hs
    obtain ⟨_,rfl,rfl⟩:=hs
    exact qE5 h hg hop hpq' hk he e1 (.inl ⟨b,rfl,rfl⟩)
   ·simp only [Option.some.injEq,Prod.mk.injEq] at hs
    obtain ⟨rfl,rfl,rfl⟩:=hs
    exact qE5 h hg hop hpq' hk he e1 (.inr ⟨hc,rfl⟩)
  ·cases hs
 | eqg pos ks x y =>
  generalize hop:o.op=op' at hchk
  simp only [Pj] at hchk
  split at hchk
  case h_2=>cases hchk
  simp only [Bool.and_eq_true,decide_eq_true_eq,Bool.not_eq_true'] at hchk
  obtain ⟨⟨⟨⟨⟨⟨rfl,h0⟩,h1⟩,h2⟩,h3⟩,h4⟩,h5⟩:=hchk
  have:=Ak h4; subst this
  have:=Ak h5; subst this
  simp only [Ce.opds,List.all_cons,Bool.and_eq_true] at hok
  simp only [Ap,Option.bind_eq_some_iff,Option.map_eq_some_iff,Prod.mk.injEq] at hs
  obtain ⟨as,⟨a,e1,f1⟩,bs,⟨b,e2,f2⟩,rfl,rfl,rfl⟩:=hs
  exact qLl h hg hop h0 h1 h2 h3 hok.1 hok.2.1 e1 e2 f1 f2 hc.1 hc.2
 | eqb pos x y =>
  generalize hop:o.op=op' at hchk
  simp only [Pj] at hchk
  split at hchk
  case h_2=>cases hchk
  simp only [Bool.and_eq_true,decide_eq_true_eq] at hchk
  obtain ⟨⟨⟨rfl,h0⟩,h1⟩,h2⟩:=hchk
  have:=Ak h1; subst this
  have:=Ak h2; subst this
  simp only [Ce.opds,List.all_cons,Bool.and_eq_true] at hok
  split at h0
  case h_2=>cases h0
  rename_i hu
  simp only [Ap] at hs
  split at hs
  ·rename_i a b e1 e2
   simp only [Option.some.injEq,Prod.mk.injEq] at hs
   obtain ⟨_,rfl,rfl⟩:=hs
   exact qLZ h hg hop hu hok.1 hok.2.1 e1 e2
  ·cases hs
 | un op x =>
  have hk:Am x=true:=by simpa [Ce.opds] using hok
  generalize hop:o.op=op' at hchk
  simp only [Pj] at hchk
  split at hchk
  case h_2=>cases hchk
  simp only [Bool.and_eq_true,decide_eq_true_eq] at hchk
  obtain ⟨rfl,h1⟩:=hchk
  have:=Ak h1; subst this
  simp only [Ap] at hs
  split at hs
  ·rename_i a e1
   simp only [Option.map_eq_some_iff,Prod.mk.injEq] at hs
   obtain ⟨r',hb,_,rfl,rfl⟩:=hs
   exact qMz h hg hop e1 hk hb
  ·cases hs
 | conv k x =>
  have hk:Am x=true:=by simpa [Ce.opds] using hok
  generalize hop:o.op=op' at hchk
  simp only [Pj] at hchk
  split at hchk
  case h_2=>cases hchk
  simp only [Bool.and_eq_true] at hchk
  obtain ⟨⟨h1,h2⟩,h3⟩:=hchk
  have:=Ak h1; subst this
  simp only [Ap] at hs
  split at hs
  ·rename_i k' n e1
   simp only [Option.some.injEq,Prod.mk.injEq] at hs
   obtain ⟨_,rfl,rfl⟩:=hs
   exact qJi h hg hop e1 hk h2 (Fq h3)
  ·cases hs
 | bytesStr x =>
  have hk:Am x=true:=by simpa [Ce.opds] using hok
  generalize hop:o.op=op' at hchk
  simp only [Pj] at hchk
  split at hchk
  case h_2=>cases hchk
  simp only [Bool.and_eq_true] at hchk
  obtain ⟨⟨h1,h2⟩,h3⟩:=hchk
  have:=Ak h1; subst this
  split at h2
  case h_2=>cases h2
  rename_i e he
  simp only [Ap,Option.bind_eq_some_iff,Option.map_eq_some_iff,Prod.mk.injEq] at hs
  obtain ⟨es,⟨a,ha,hes⟩,bs,hb,_,rfl,rfl⟩:=hs
  exact qD1 h hg hop hk he (Fq h2) h3 ha hes hb
 | runeStr x =>
  have hk:Am x=true:=by simpa [Ce.opds] using hok
  generalize hop:o.op=op' at hchk
  simp only [Pj] at hchk
  split at hchk
  case h_2=>cases hchk
  simp only [Bool.and_eq_true,Option.isSome_iff_exists] at hchk
  obtain ⟨⟨h1,k,h2⟩,h3⟩:=hchk
  have:=Ak h1; subst this
  simp only [Ap] at hs
  split at hs
  ·rename_i k' n e1
   simp only [Option.some.injEq,Prod.mk.injEq] at hs
   obtain ⟨_,rfl,rfl⟩:=hs
   exact qJj h hg hop e1 hk h2 h3
  ·cases hs
 | len k x=>exact qF5 h hg hchk (by simpa [Ce.opds] using hok) hs hc
 | cap x =>
  have hk:Am x=true:=by simpa [Ce.opds] using hok
  generalize hop:o.op=op' at hchk
  simp only [Pj] at hchk
  split at hchk
  case h_2=>cases hchk
  split at hchk
  case h_2=>cases hchk
  rename_i cc _ _ _ y t e1 e2 e3
  simp only [Bool.and_eq_true,Option.isSome_iff_exists] at hchk
  obtain ⟨h1,e,he⟩:=hchk
  have:=Ak h1; subst this
  have hce:=Td e1 e2 e3
  subst hce
  simp only [Ap] at hs
  split at hs
  ·rename_i es cc nl e4
   simp only [Option.some.injEq,Prod.mk.injEq] at hs
   obtain ⟨_,rfl,rfl⟩:=hs
   exact qIq h hg hop hk he e4 (.inl ⟨es,nl,rfl⟩)
  ·rename_i id off len cc e4
   simp only [Option.some.injEq,Prod.mk.injEq] at hs
   obtain ⟨_,rfl,rfl⟩:=hs
   exact qIq h hg hop hk he e4 (.inr ⟨id,off,len,rfl⟩)
  ·cases hs
 | mmx mx xs =>
  generalize hop:o.op=op' at hchk
  simp only [Pj] at hchk
  split at hchk
  case h_2=>cases hchk
  rename_i cc
  simp only [Ap,Option.bind_eq_some_iff,Option.map_eq_some_iff,Prod.mk.injEq] at hs
  obtain ⟨as,ha,r',hr,rfl,rfl,rfl⟩:=hs
  split at hchk
  ·rename_i e1
   simp only [Bool.and_eq_true] at hchk
   obtain ⟨rfl,h1⟩:=hchk
   have:=N9 h1; subst this
   have hce:=Td (ts:=cc.argTypes.toList) e1 rfl rfl
   rw [hce] at hop
   exact qLb h hg hop hok ha hr hc
  ·rename_i e1
   simp only [Bool.and_eq_true,Bool.not_eq_true'] at hchk
   obtain ⟨rfl,h1⟩:=hchk
   have:=N9 h1; subst this
   have hce:=Td (ts:=cc.argTypes.toList) e1 rfl rfl
   rw [hce] at hop
   exact qLa h hg hop hok ha hr hc
  ·cases hchk
 | app fz ty s b x =>
  generalize hop:o.op=op' at hchk
  simp only [Pj] at hchk
  split at hchk
  case h_2=>cases hchk
  split at hchk
  case h_2=>cases hchk
  rename_i cc _ _ _ b' x' t t' e1 e2 e3
  simp only [Bool.and_eq_true,decide_eq_true_eq] at hchk
  obtain ⟨⟨⟨⟨⟨⟨⟨h1,h2⟩,h3⟩,h4⟩,h5⟩,h6⟩,h7⟩,h8⟩:=hchk
  have:=Ak h1; subst this
  have:=Ak h2; subst this
  have:t=t':=by simpa using h3
  subst this
  have hce:=Td e1 e2 e3
  subst hce
  have hel:Ej P t ty s:=by
   refine ⟨Fq h4,Fq h5,h6,?_,?_⟩
   ·split at h7
    ·rename_i z hz; exact ⟨z,hz,by simpa using h7⟩
    ·cases h7
   ·split at h8
    ·rename_i n hn; exact ⟨n,hn,by simpa using h8⟩
    ·cases h8
  simp only [Ce.opds,List.all_cons,Bool.and_eq_true] at hok
  simp only [Ap,Option.bind_eq_some_iff] at hs
  obtain ⟨news,⟨ax,hax,hnews⟩,a,ha,hs⟩:=hs
  split at hs
  ·rename_i es c1 nl
   split at hs <;> simp only [Option.some.injEq,Prod.mk.injEq] at hs <;> obtain ⟨rfl,rfl,rfl⟩:=hs
   ·rename_i hfz
    obtain ⟨cw,cw2,cc,cb,cz⟩:=hc
    exact (q8G (d:=d) hel h hg hop hok.1 hok.2.1 hax hnews cw ha cw2 cc cb cz).1 hfz
   ·rename_i hfz
    obtain ⟨⟨cw,cw2,cc,cb,cz⟩,cd⟩:=hc
    exact (q8G (d:=d) hel h hg hop hok.1 hok.2.1 hax hnews cw ha cw2 cc cb cz).2 (by simpa using hfz) cd hd
  ·rename_i id off len c1
   split at hs
   case h_2=>cases hs
   rename_i ty2 q es hl
   split at hs <;> simp only [Option.some.injEq,Prod.mk.injEq] at hs <;> obtain ⟨rfl,rfl,rfl⟩:=hs
   ·obtain ⟨cw,rfl,rfl,cc,cb,cz⟩:=hc
    exact (q9t (d:=d) hel h hg hop hok.1 hok.2.1 hax hnews cw ha hl cc cb cz).1
   ·obtain ⟨⟨cw,rfl,rfl,cc,cb,cz⟩,cd⟩:=hc
    exact (q9t (d:=d) hel h hg hop hok.1 hok.2.1 hax hnews cw ha hl cc cb cz).2 cd hd
  ·rename_i id len
   split at hs
   case h_2=>cases hs
   rename_i ty2 q es hl
   split at hs <;> simp only [Option.some.injEq,Prod.mk.injEq] at hs <;> obtain ⟨rfl,rfl,rfl⟩:=hs
   ·obtain ⟨cw,rfl,rfl,cb⟩:=hc
    exact (qBU (d:=d) hel h hg hop hok.1 hok.2.1 hax hnews cw ha hl cb).1
   ·obtain ⟨⟨cw,rfl,rfl,cb⟩,cd⟩:=hc
    exact (qBU (d:=d) hel h hg hop hok.1 hok.2.1 hax hnews cw ha hl cb).2 cd hd
  ·cases hs
 | appN ty s x =>
  generalize hop:o.op=op' at hchk
  simp only [Pj] at hchk
  split at hchk
  case h_2=>cases hchk
  split at hchk
  case h_2=>cases hchk
  rename_i cc _ _ _ b' x' t t' e1 e2 e3
  simp only [Bool.and_eq_true,decide_eq_true_eq] at hchk
  obtain ⟨⟨⟨⟨⟨⟨⟨h1,h2⟩,h3⟩,h4⟩,h5⟩,h6⟩,h7⟩,h8⟩:=hchk
  have:=Ak h1; subst this
  have:=Ak h2; subst this
  have:t=t':=by simpa using h3
  subst this
  have hce:=Td e1 e2 e3
  subst hce
  have hel:Ej P t ty s:=by
   refine ⟨Fq h4,Fq h5,h6,?_,?_⟩
   ·split at h7
    ·rename_i z hz; exact ⟨z,hz,by simpa using h7⟩
    ·cases h7
   ·split at h8
    ·rename_i n hn; exact ⟨n,hn,by simpa using h8⟩
    ·cases h8
  have hk:Am x=true:=by simpa [Ce.opds] using hok
  simp only [Ap] at hs
  split at hs
  case h_2=>cases hs
  rename_i es c1 nl e4
  simp only [Option.some.injEq,Prod.mk.injEq] at hs
  obtain ⟨rfl,rfl,rfl⟩:=hs
  obtain ⟨cd,cw,cb⟩:=hc
  exact (q8G (d:=d) (fz:=false) hel h hg hop rfl hk e4 rfl cw (show ev Γ st.env (.const (.slice none 0 0))=some (.t (.sl [] (some 0) (some true))) from rfl) (fun e he=>by cases he) rfl (by simpa using cb) (.inr (.inr rfl))).2 rfl cd hd
 | appB b x =>
  generalize hop:o.op=op' at hchk
  simp only [Pj] at hchk
  split at hchk
  case h_2=>cases hchk
  split at hchk
  case h_2=>cases hchk
  rename_i cc _ _ _ b' x' t t' e1 e2 e3
  simp only [Bool.and_eq_true] at hchk
  obtain ⟨⟨⟨h1,h2⟩,h3⟩,h4⟩:=hchk
  have:=Ak h1; subst this
  have:=Ak h2; subst this
  have:t=t':=by simpa using h3
  subst this
  have hce:=Td e1 e2 e3
  subst hce
  split at h4
  case h_2=>cases h4
  rename_i ty hty
  simp only [Bool.and_eq_true] at h4
  obtain ⟨⟨h5,h7⟩,h8⟩:=h4
  have hel:Ej P t ty 1 1:=by
   refine ⟨hty,Fq h5,Nat.one_pos,?_,?_⟩
   ·split at h7
    ·rename_i z hz; exact ⟨z,hz,by simpa using h7⟩
    ·cases h7
   ·split at h8
    ·rename_i n hn; exact ⟨n,hn,by simpa using h8⟩
    ·cases h8
  simp only [Ce.opds,List.all_cons,Bool.and_eq_true] at hok
  simp only [Ap,Option.bind_eq_some_iff] at hs
  obtain ⟨news,⟨ax,hax,hnews⟩,hs⟩:=hs
  split at hs
  ·rename_i es q nl hb
   simp only [Option.some.injEq,Prod.mk.injEq] at hs
   obtain ⟨rfl,rfl,rfl⟩:=hs
   obtain ⟨cw,cw2,cc,cb⟩:=hc
   exact qJm hel h hg hop hok.1 hok.2.1 hax hnews cw hb cw2 cc cb
  ·cases hs
 | appR fz ii ty b x =>
  generalize hop:o.op=op' at hchk
  simp only [Pj] at hchk
  split at hchk
  case h_2=>cases hchk
  split at hchk
  case h_2=>cases hchk
  rename_i cc _ _ _ b' x' t t' e1 e2 e3
  simp only [Bool.and_eq_true] at hchk
  obtain ⟨⟨⟨⟨⟨⟨h1,h2⟩,h3⟩,h4⟩,h5⟩,h7⟩,h8⟩:=hchk
  have:=Ak h1; subst this
  have:=Ak h2; subst this
  have:t=t':=by simpa using h3
  subst this
  have hce:=Td e1 e2 e3
  subst hce
  have hel:Ej P t ty 1 1:=by
   refine ⟨Fq h4,Fq h5,Nat.one_pos,?_,?_⟩
   ·split at h7
    ·rename_i z hz; exact ⟨z,hz,by simpa using h7⟩
    ·cases h7
   ·split at h8
    ·rename_i n hn; exact ⟨n,hn,by simpa using h8⟩
    ·cases h8
  simp only [Ce.opds,List.all_cons,Bool.and_eq_true] at hok
  simp only [Ap] at hs
  split at hs
  case h_2=>cases hs
  rename_i news _ _ id len hax hb
  split at hs
  case h_2=>cases hs
  rename_i t0 q es hl
  cases fz with
  | true =>
   simp only [if_true,Option.some.injEq,Prod.mk.injEq] at hs
   obtain ⟨rfl,rfl,rfl⟩:=hs
   obtain ⟨rfl,cw,rfl,rfl,cb⟩:=hc
   exact (q6U (d:=d) hel h hg hop hok.1 hok.2.1 hax rfl cw hb hl (by omega) (by unfold maxLen; omega)).1
  | false =>
   simp only [Bool.false_eq_true,if_false,Option.some.injEq,Prod.mk.injEq] at hs
   obtain ⟨rfl,rfl,rfl⟩:=hs
   obtain ⟨⟨rfl,cw,rfl,rfl,cb⟩,hd0⟩:=hc
   exact (q6U hel h hg hop hok.1 hok.2.1 hax rfl cw hb hl (by omega) (by unfold maxLen; omega)).2 hd0 hd
 | appZ ty s zs b n =>
  generalize hop:o.op=op' at hchk
  simp only [Pj] at hchk
  split at hchk
  case h_2=>cases hchk
  split at hchk
  case h_2=>cases hchk
  rename_i cc _ _ _ b' n' t t' e1 e2 e3
  simp only [Bool.and_eq_true,decide_eq_true_eq] at hchk
  obtain ⟨⟨⟨⟨⟨⟨⟨⟨h1,h2⟩,h3⟩,h4⟩,h5⟩,h6⟩,h7⟩,h8⟩,h9⟩:=hchk
  have:=Ak h1; subst this
  have:=Ak h2; subst this
  have hce:=Td e1 e2 e3
  subst hce
  simp only [Ce.opds,List.all_cons,Bool.and_eq_true] at hok
  obtain ⟨hz,hzl⟩:E0 P ty=some zs∧zs.length=s:=by
   split at h6
   ·rename_i z hz
    simp only [Bool.and_eq_true] at h6
    have:=Rx h6.1; subst this
    exact ⟨hz,by simpa using h6.2⟩
   ·cases h6
  have hel:Ej P t ty s:=by
   refine ⟨Fq h3,Fq h4,h5,⟨zs,hz,hzl⟩,?_⟩
   split at h8
   ·rename_i n hn; exact ⟨n,hn,by simpa using h8⟩
   ·cases h8
  obtain ⟨ki,hki⟩:=Option.isSome_iff_exists.1 h9
  simp only [Ap] at hs
  split at hs
  ·rename_i es q nl k m f1 f2
   simp only [Option.some.injEq,Prod.mk.injEq] at hs
   obtain ⟨rfl,rfl,rfl⟩:=hs
   exact qJn hel hz h7 hki h hg hop hok.1 hok.2.1 f1 f2 hc.2.1 hc.2.2.1.1 hc.2.2.1.2 hc.2.2.2 hc.1 hd
  ·cases hs
 | cpy s x y =>
  generalize hop:o.op=op' at hchk
  simp only [Pj] at hchk
  split at hchk
  case h_2=>cases hchk
  split at hchk
  case h_2=>cases hchk
  rename_i cc _ _ _ x' y' t t' e1 e2 e3
  simp only [Bool.and_eq_true,decide_eq_true_eq] at hchk
  obtain ⟨⟨⟨h1,h2⟩,h3⟩,h4⟩:=hchk
  have:=Ak h1; subst this
  have:=Ak h2; subst this
  have hce:=Td e1 e2 e3
  subst hce
  simp only [Ce.opds,List.all_cons,Bool.and_eq_true] at hok
  obtain ⟨ty,hsl,hsz⟩:∃ ty,slO P t=some ty∧O6 P ty=some s:=by
   split at h3
   ·rename_i ty hty; exact ⟨ty,hty,Fq h3⟩
   ·cases h3
  simp only [Ap] at hs
  split at hs
  case h_2=>cases hs
  rename_i id off len cap f1
  split at hs
  case h_2=>cases hs
  rename_i ty2 q es f2
  obtain ⟨news,hn,he⟩:=Option.map_eq_some_iff.1 hs
  simp only [Prod.mk.injEq] at he
  obtain ⟨rfl,rfl,rfl⟩:=he
  obtain ⟨ay,fy,fe⟩:=Option.bind_eq_some_iff.1 hn
  obtain ⟨rfl,hw⟩:=hc
  exact qLk hsl hsz h4 h hg hop hok.1 hok.2.1 f1 f2 fy fe hw
 | slice s x lo hi mx =>
  generalize hop:o.op=op' at hchk
  simp only [Pj] at hchk
  split at hchk
  case h_2=>cases hchk
  rename_i t x' lo' hi' mx'
  simp only [Bool.and_eq_true] at hchk
  obtain ⟨⟨⟨⟨⟨h1,h2⟩,h3⟩,h4⟩,h5⟩,h6⟩:=hchk
  have:=Ak h1; subst this
  have:=q89 h2; subst this
  have:=q89 h3; subst this
  have:=q89 h4; subst this
  simp only [Ce.opds,List.all_append,Bool.and_eq_true] at hok
  obtain ⟨⟨⟨k1,k2⟩,k3⟩,k4⟩:=hok
  have k1:Am x=true:=by simpa using k1
  simp only [Ap,Option.bind_eq_some_iff] at hs
  obtain ⟨a,ha,hs⟩:=hs
  split at hs
  ·-- a string
   rename_i b
   simp only [Option.bind_eq_some_iff,Option.map_eq_some_iff,Prod.mk.injEq] at hs
   obtain ⟨l,hl,hh,hhh,rfl,rfl,rfl⟩:=hs
   obtain ⟨rfl,c1,c2,c3,c4⟩:=hc
   simp only [beq_self_eq_true,↓reduceIte,Bool.and_eq_true,Option.isNone_iff_eq_none] at h6
   obtain ⟨hst,rfl⟩:=h6
   exact qBX h hg hop k1 hst ha (O4 h hg hl c1 k2) (O4 h hg hhh c2 k3) c3 c4
  ·-- an immutable slice
   rename_i es cap nl
   simp only [Option.bind_eq_some_iff] at hs
   obtain ⟨l,hl,hh,hhh,hs⟩:=hs
   split at hs
   ·simp only [Option.some.injEq,Prod.mk.injEq] at hs
    obtain ⟨rfl,rfl,rfl⟩:=hs
    obtain ⟨c0,cw,c1,c2,c3,c4⟩:=hc
    have hs0:(s == 0)=false:=by simpa using c0
    simp only [hs0,Bool.false_eq_true,↓reduceIte] at h6
    split at h6
    case h_2=>cases h6
    rename_i e he
    exact qCz h hg hop k1 he (Fq h6) ha cw (O4 h hg hl c1 k2) (O4 h hg hhh c2 k3) c3 c4
   ·rename_i m0
    simp only [Option.map_eq_some_iff,Prod.mk.injEq] at hs
    obtain ⟨m,hm,rfl,rfl,rfl⟩:=hs
    obtain ⟨c0,cw,c1,c2,c2',c3,c4,c5⟩:=hc
    have hs0:(s == 0)=false:=by simpa using c0
    simp only [hs0,Bool.false_eq_true,↓reduceIte] at h6
    split at h6
    case h_2=>cases h6
    rename_i e he
    have hhi:hi.isSome=true:=by simpa using h5
    obtain ⟨hi,rfl⟩:=Option.isSome_iff_exists.1 hhi
    exact qBY h hg hop k1 he (Fq h6) ha cw (O4 h hg hl c1 k2) (O4 h hg hhh c2 k3) (O4 h hg hm c2' k4) c3 c4 c5
  ·-- a part of a region
   rename_i id off len cap
   simp only [Option.bind_eq_some_iff] at hs
   obtain ⟨l,hl,hh,hhh,hs⟩:=hs
   split at hs
   case h_2=>cases hs
   rename_i ty q es hlk
   split at hs
   ·simp only [Option.some.injEq,Prod.mk.injEq] at hs
    obtain ⟨rfl,rfl,rfl⟩:=hs
    obtain ⟨c0,cq,c1,c2,c3,c4⟩:=hc
    have hs0:(s == 0)=false:=by simpa using c0
    simp only [hs0,Bool.false_eq_true,↓reduceIte] at h6
    split at h6
    case h_2=>cases h6
    rename_i e he
    exact qD0 h hg hop k1 he (Fq h6) ha hlk cq (O4 h hg hl c1 k2) (O4 h hg hhh c2 k3) c3 c4
   ·rename_i m0
    simp only [Option.map_eq_some_iff,Prod.mk.injEq] at hs
    obtain ⟨m,hm,rfl,rfl,rfl⟩:=hs
    obtain ⟨c0,cq,c1,c2,c2',c3,c4,c5⟩:=hc
    have hs0:(s == 0)=false:=by simpa using c0
    simp only [hs0,Bool.false_eq_true,↓reduceIte] at h6
    split at h6
    case h_2=>cases h6
    rename_i e he
    have hhi:hi.isSome=true:=by simpa using h5
    obtain ⟨hi,rfl⟩:=Option.isSome_iff_exists.1 hhi
    exact qBZ h hg hop k1 he (Fq h6) ha hlk cq (O4 h hg hl c1 k2) (O4 h hg hhh c2 k3) (O4 h hg hm c2' k4) c3 c4 c5
  ·cases hs
 | mk ty s zs l c1 =>
  generalize hop:o.op=op' at hchk
  simp only [Pj] at hchk
  split at hchk
  case h_2=>cases hchk
  rename_i t l' c'
  simp only [Bool.and_eq_true,decide_eq_true_eq] at hchk
  obtain ⟨⟨⟨⟨⟨⟨⟨h1,h2⟩,h3⟩,h4⟩,h5⟩,h6⟩,h7⟩,h8⟩:=hchk
  have:=Ak h1; subst this
  have:=Ak h2; subst this
  simp only [Ce.opds,List.all_cons,Bool.and_eq_true] at hok
  obtain ⟨hz,hzl⟩:E0 P ty=some zs∧zs.length=s:=by
   split at h6
   ·rename_i z hz
    simp only [Bool.and_eq_true] at h6
    have:=Rx h6.1; subst this
    exact ⟨hz,by simpa using h6.2⟩
   ·cases h6
  have hel:Ej P t ty s:=by
   refine ⟨Fq h3,Fq h4,h5,⟨zs,hz,hzl⟩,?_⟩
   split at h8
   ·rename_i n hn; exact ⟨n,hn,by simpa using h8⟩
   ·cases h8
  simp only [Ap] at hs
  split at hs
  ·rename_i k n k2 m e1 e2
   simp only [Option.some.injEq,Prod.mk.injEq] at hs
   obtain ⟨rfl,rfl,rfl⟩:=hs
   exact qN0 hel hz h7 h hg hop hok.1 hok.2.1 e1 e2 hc.2.1 hc.2.2.1 hc.2.2.2 hc.1 hd
  ·cases hs
 | mkE ty s zs l c1 =>
  generalize hop:o.op=op' at hchk
  simp only [Pj] at hchk
  split at hchk
  case h_2=>cases hchk
  rename_i t l' c'
  simp only [Bool.and_eq_true,decide_eq_true_eq] at hchk
  obtain ⟨⟨⟨⟨⟨⟨⟨h1,h2⟩,h3⟩,h4⟩,h5⟩,h6⟩,h7⟩,h8⟩:=hchk
  have:=Ak h1; subst this
  have:=Ak h2; subst this
  simp only [Ce.opds,List.all_cons,Bool.and_eq_true] at hok
  obtain ⟨hz,hzl⟩:E0 P ty=some zs∧zs.length=s:=by
   split at h6
   ·rename_i z hz
    simp only [Bool.and_eq_true] at h6
    have:=Rx h6.1; subst this
    exact ⟨hz,by simpa using h6.2⟩
   ·cases h6
  have hel:Ej P t ty s:=by
   refine ⟨Fq h3,Fq h4,h5,⟨zs,hz,hzl⟩,?_⟩
   split at h8
   ·rename_i n hn; exact ⟨n,hn,by simpa using h8⟩
   ·cases h8
  simp only [Ap] at hs
  split at hs
  ·rename_i k n k2 m e1 e2
   simp only [Option.some.injEq,Prod.mk.injEq] at hs
   obtain ⟨rfl,rfl,rfl⟩:=hs
   exact qLf hel hz h7 h hg hop hok.1 hok.2.1 e1 e2 hc.2.1 hc.2.2.1 hc.2.2.2 hc.1 hd
  ·cases hs
 | mkf f xs =>
  generalize hop:o.op=op' at hchk
  simp only [Pj] at hchk
  split at hchk
  case h_2=>cases hchk
  rename_i f' first caps
  simp only [Bool.and_eq_true] at hchk
  obtain ⟨⟨h1,h2⟩,h3⟩:=hchk
  have:f=f':=by simpa using h1
  subst this
  have hf:first=#[]:=by simpa using h2
  subst hf
  have:=N9 h3; subst this
  simp only [Ap,Option.map_eq_some_iff,Prod.mk.injEq] at hs
  obtain ⟨as,ha,_,rfl,rfl⟩:=hs
  exact qLc h hg (by rw [hop]; simp [Ce.opds]) hok ha
 | ext x i =>
  have hk:Am x=true:=by simpa [Ce.opds] using hok
  generalize hop:o.op=op' at hchk
  simp only [Pj] at hchk
  split at hchk
  case h_2=>cases hchk
  simp only [Bool.and_eq_true] at hchk
  have:=Ak hchk.1; subst this
  rename_i y j
  have:i=j:=by simpa using hchk.2
  subst this
  simp only [Ap] at hs
  split at hs
  ·rename_i vs e1
   simp only [Option.map_eq_some_iff,Prod.mk.injEq] at hs
   obtain ⟨t,ht,_,rfl,rfl⟩:=hs
   exact qLX h hg hop e1 hk ht
  ·rename_i vs e1
   simp only [Option.map_eq_some_iff,Prod.mk.injEq] at hs
   obtain ⟨t,ht,_,rfl,rfl⟩:=hs
   exact qJk h hg hop e1 hk ht
  ·cases hs
 | nck x =>
  have hk:Am x=true:=by simpa [Ce.opds] using hok
  generalize hop:o.op=op' at hchk
  simp only [Pj] at hchk
  split at hchk
  case h_2=>cases hchk
  have:=Ak hchk; subst this
  simp only [Ap] at hs
  split at hs <;> first | (cases hs; done) | skip
  ·rename_i cs k e1
   simp only [Option.some.injEq,Prod.mk.injEq] at hs
   obtain ⟨_,rfl,rfl⟩:=hs
   exact qE3 h hg hop e1 hk (.inl ⟨_,_,rfl⟩)
  ·rename_i id i k e1
   simp only [Option.some.injEq,Prod.mk.injEq] at hs
   obtain ⟨_,rfl,rfl⟩:=hs
   exact qE3 h hg hop e1 hk (.inr (.inl ⟨_,_,_,rfl⟩))
  ·rename_i f cs e1
   simp only [Option.some.injEq,Prod.mk.injEq] at hs
   obtain ⟨_,rfl,rfl⟩:=hs
   exact qE3 h hg hop e1 hk (.inr (.inr (.inl ⟨_,_,rfl⟩)))
  ·rename_i f cs e1
   simp only [Option.some.injEq,Prod.mk.injEq] at hs
   obtain ⟨_,rfl,rfl⟩:=hs
   exact qE3 h hg hop e1 hk (.inr (.inr (.inr ⟨_,_,rfl⟩)))
 | mkmap =>
  generalize hop:o.op=op' at hchk
  simp only [Pj] at hchk
  split at hchk
  case h_2=>cases hchk
  simp only [Bool.and_eq_true,Option.isNone_iff_eq_none] at hchk
  obtain ⟨rfl,_⟩:=hchk
  simp only [Ap,Option.some.injEq,Prod.mk.injEq] at hs
  obtain ⟨rfl,rfl,rfl⟩:=hs
  exact qHx h hop hc hd
 | mkB ty zs l c1 =>
  generalize hop:o.op=op' at hchk
  simp only [Pj] at hchk
  split at hchk
  case h_2=>cases hchk
  rename_i t l' c'
  simp only [Bool.and_eq_true,decide_eq_true_eq] at hchk
  obtain ⟨⟨⟨⟨⟨⟨h1,h2⟩,h3⟩,h4⟩,h6⟩,h7⟩,h8⟩:=hchk
  have:=Ak h1; subst this
  have:=Ak h2; subst this
  simp only [Ce.opds,List.all_cons,Bool.and_eq_true] at hok
  obtain ⟨hz,hzl⟩:E0 P ty=some zs∧zs.length=1:=by
   split at h6
   ·rename_i z hz
    simp only [Bool.and_eq_true] at h6
    have:=Rx h6.1; subst this
    exact ⟨hz,by simpa using h6.2⟩
   ·cases h6
  have hel:Ej P t ty 1:=by
   refine ⟨Fq h3,Fq h4,Nat.zero_lt_one,⟨zs,hz,hzl⟩,?_⟩
   split at h8
   ·rename_i n hn; exact ⟨n,hn,by simpa using h8⟩
   ·cases h8
  simp only [Ap] at hs
  split at hs
  ·rename_i k n k2 m e1 e2
   simp only [Option.some.injEq,Prod.mk.injEq] at hs
   obtain ⟨rfl,rfl,rfl⟩:=hs
   exact qLh hel hz h7 h hg hop hok.1 hok.2.1 e1 e2 hc.2.1 hc.2.2.1 hc.2.2.2 hc.1 hd
  ·cases hs
 | rng x =>
  have hk:Am x=true:=by simpa [Ce.opds] using hok
  generalize hop:o.op=op' at hchk
  simp only [Pj] at hchk
  split at hchk
  case h_2=>cases hchk
  simp only [Bool.and_eq_true] at hchk
  have:=Ak hchk.1; subst this
  simp only [Ap] at hs
  split at hs
  ·rename_i s e1
   simp only [Option.some.injEq,Prod.mk.injEq] at hs
   obtain ⟨rfl,rfl,rfl⟩:=hs
   exact qLi h hg hop hk hchk.2 e1 hc hd
  ·cases hs
 | nxt x =>
  have hk:Am x=true:=by simpa [Ce.opds] using hok
  generalize hop:o.op=op' at hchk
  simp only [Pj] at hchk
  split at hchk
  case h_2=>cases hchk
  simp only [Bool.and_eq_true] at hchk
  have:=Ak hchk.1; subst this
  rw [hchk.2] at hop
  simp only [Ap] at hs
  split at hs
  case h_2=>cases hs
  rename_i id e1
  split at hs
  case h_2=>cases hs
  rename_i s pos hl
  obtain ⟨g1,g2⟩:=qLj (ds:=ds) h hg hop hk e1 hl
  split at hs <;> rename_i hp <;> simp only [Option.some.injEq,Prod.mk.injEq] at hs <;> obtain ⟨_,rfl,rfl⟩:=hs
  ·exact g1 hp
  ·exact g2 hp
 | lkup kt zv ok m k =>
  generalize hop:o.op=op' at hchk
  simp only [Pj] at hchk
  split at hchk
  case h_2=>cases hchk
  simp only [Bool.and_eq_true] at hchk
  obtain ⟨⟨⟨h1,h2⟩,h3⟩,h4⟩:=hchk
  have:=Ak h1; subst this
  have:=Ak h2; subst this
  rename_i t ok'
  have:ok=ok':=by simpa using h3
  subst this
  split at h4
  case h_2=>cases h4
  rename_i q e hm
  simp only [Bool.and_eq_true] at h4
  obtain ⟨⟨h5,h6⟩,h7⟩:=h4
  have hz:(P.info? e).bind (·.zero)=some zv:=by
   split at h6
   ·rename_i z hz; rw [hz,qE2 h6]
   ·cases h6
  simp only [Ce.opds,List.all_cons,Bool.and_eq_true] at hok
  simp only [Ap] at hs
  split at hs
  case h_2=>cases hs
  rename_i kv e1
  split at hs
  ·rename_i es e2
   simp only [Option.some.injEq,Prod.mk.injEq] at hs
   obtain ⟨rfl,rfl,rfl⟩:=hs
   exact qG6 h hg hop hok.1 hok.2.1 hm h5 hz h7 e1 e2 (.inl rfl) hc.1 hc.2
  ·rename_i id e2
   split at hs
   ·rename_i es hl
    simp only [Option.some.injEq,Prod.mk.injEq] at hs
    obtain ⟨rfl,rfl,rfl⟩:=hs
    exact qG6 h hg hop hok.1 hok.2.1 hm h5 hz h7 e1 e2 (.inr ⟨id,rfl,hl⟩) hc.1 hc.2
   ·cases hs
  ·cases hs
 | mup kt m k x =>
  generalize hop:o.op=op' at hchk
  simp only [Pj] at hchk
  split at hchk
  case h_2=>cases hchk
  simp only [Bool.and_eq_true] at hchk
  obtain ⟨⟨⟨h1,h2⟩,h3⟩,h4⟩:=hchk
  have:=Ak h1; subst this
  have:=Ak h2; subst this
  have:=Ak h3; subst this
  split at h4
  case h_2=>cases h4
  rename_i q e hm
  simp only [Ce.opds,List.all_cons,Bool.and_eq_true] at hok
  simp only [Ap] at hs
  split at hs
  case h_2=>cases hs
  rename_i kv id e1 e2
  split at hs
  case h_2=>cases hs
  rename_i es hl
  simp only [Option.map_eq_some_iff,Option.bind_eq_some_iff,Prod.mk.injEq] at hs
  obtain ⟨y,⟨a,ha,hy⟩,rfl,rfl,rfl⟩:=hs
  exact qLg h hg hop hok.1 hok.2.1 hok.2.2.1 hm h4 e1 e2 hl ha hy hc.1 hc.2
 | appT ty s b x=>exact absurd rfl (hnt ty s b x)
 | stR id n a x=>exact absurd rfl (hns id n a x)
 | ldR id n g a=>exact absurd rfl (hnl id n g a)
 | ldT n g a=>exact absurd rfl (hn4 n g a)
 | lkT kt zv ok m k=>exact absurd rfl (hn5 kt zv ok m k)
 | hcall f xs rs base=>simp [Ap] at hs
 | hcallv x xs rs base=>simp [Ap] at hs
 | ncall f xs base=>simp [Ap] at hs
 | callT f xs=>simp [Ap] at hs
 | rcall f xs rs=>simp [Ap] at hs
 | call f xs=>simp [Ap] at hs
 | callv x xs=>simp [Ap] at hs
theorem qF6 {io:Ce} {d:Nat} {c:Prop} {r:AV} {st1:St} (h:Bv w0 B κ X μ st tm w) (hg:Gl Γ w X) (hchk:Pj P io o.op=true) (hok:io.opds.all Am=true) (hd:d<1000000) (hs:Ap Γ d io st=some (c,r,st1)) (hc:c):Au P w0 B κ X o r st1 tm w ds:=by
 by_cases ht:∃ ty s b x,io=.appT ty s b x
 ·obtain ⟨ty,s,b,x,rfl⟩:=ht
  simp only [Ap,Option.bind_eq_some_iff] at hs
  obtain ⟨news,⟨a,ha,hn⟩,hs⟩:=hs
  split at hs
  ·rename_i es q nl hb
   simp only [Option.some.injEq,Prod.mk.injEq] at hs
   obtain ⟨rfl,rfl,rfl⟩:=hs
   obtain ⟨h1,h2,h3,h4⟩:=hc
   refine S0 (io:=.app true ty s b x) (c:=D5 s news∧D5 s es∧q=es.length∧es.length+news.length≤2147483648∧(true=true∨news ≠ []∨es=[])) (by simp) (by simp) (by simp) (by simp) (by simp) h hg hchk hok hd ?_ ⟨h1,h2,h3,h4,.inl rfl⟩
   simp [Ap,ha,hn,hb]
  ·cases hs
 ·by_cases ht2:∃ id n a x,io=.stR id n a x
  ·obtain ⟨id,n,a,x,rfl⟩:=ht2
   simp only [Ap] at hs
   split at hs
   ·exact S0 (io:=.store n a x) (by simp) (by simp) (by simp) (by simp) (by simp) h hg hchk hok hd (by simp only [Ap]; exact hs) hc
   ·cases hs
  ·by_cases ht3:∃ id n g a,io=.ldR id n g a
   ·obtain ⟨id,n,g,a,rfl⟩:=ht3
    simp only [Ap] at hs
    split at hs
    ·exact S0 (io:=.load n g a) (by simp) (by simp) (by simp) (by simp) (by simp) h hg hchk hok hd (by simp only [Ap]; exact hs) hc
    ·cases hs
   ·by_cases ht4:∃ n g a,io=.ldT n g a
    ·obtain ⟨n,g,a,rfl⟩:=ht4
     simp only [Ap] at hs
     split at hs
     ·rename_i ha
      exact S0 (io:=.load n g a) (by simp) (by simp) (by simp) (by simp) (by simp) h hg hchk hok hd (by simp only [Ap,ha]; exact hs) hc
     ·cases hs
    ·by_cases ht5:∃ kt zv ok m k,io=.lkT kt zv ok m k
     ·obtain ⟨kt,zv,ok,m,k,rfl⟩:=ht5
      simp only [Ap] at hs
      split at hs
      ·rename_i hk hm
       exact S0 (io:=.lkup kt zv ok m k) (by simp) (by simp) (by simp) (by simp) (by simp) h hg hchk hok hd (by simp only [Ap,hk,hm]; exact hs) hc
      ·cases hs
     ·exact S0 (fun ty s b x e=>ht ⟨ty,s,b,x,e⟩) (fun id n a x e=>ht2 ⟨id,n,a,x,e⟩) (fun id n g a e=>ht3 ⟨id,n,g,a,e⟩) (fun n g a e=>ht4 ⟨n,g,a,e⟩) (fun kt zv ok m k e=>ht5 ⟨kt,zv,ok,m,k,e⟩) h hg hchk hok hd hs hc
end
end Go.Lg
namespace Go.Lg
open Go
def q09 (P:Program) (f:FuncId) (vs:Array Value) (w:World) (R:Value→World→Prop):Prop :=
 ((callFunc f vs).run P w=.ok (.enter f vs) w∧Calls P f vs w fun e w'=>∃ v,e=.returned v∧R v w')∨∃ v,(callFunc f vs).run P w=.ok (.value v) w∧R v w
theorem q09.mono {P:Program} {f:FuncId} {vs:Array Value} {w:World} {R R':Value→World→Prop} (h:q09 P f vs w R) (hr:∀ v w',R v w'→R' v w'):q09 P f vs w R':=by
 rcases h with ⟨h1,h2⟩ | ⟨v,h1,h2⟩
 ·exact .inl ⟨h1,h2.mono fun e w' ⟨v,he,hR⟩=>⟨v,he,hr v w' hR⟩⟩
 ·exact .inr ⟨v,h1,hr v w h2⟩
def Ae (P:Program) (Γ:Tables) (f:FuncId) (args:List T) (res:T):Prop :=
 ∀ (w:World) (X:Nat→Prop) (vs:List Value),Gl Γ w X→(∀ b,X b→b<w.heap.size)→F5 w X args vs →
  q09 P f vs.toArray w fun v w'=>RowKit.Below w.heap.size w w'∧TR w' (fun b=>X b∨(w.heap.size≤b∧b<w'.heap.size)) res v
def A6 (P:Program) (Γ:Tables) (f:FuncId) (args:List T) (res:T):Prop :=
 ∀ (w:World) (X:Nat→Prop) (vs:List Value),Gl Γ w X→(∀ b,X b→b<w.heap.size)→F5 w X args vs →
  q09 P f vs.toArray w fun v w'=>RowKit.Below w.heap.size w w'∧TR w' (fun b=>w.heap.size≤b∧b<w'.heap.size) res v
theorem A6.pure {P:Program} {Γ:Tables} {f:FuncId} {args:List T} {res:T} (h:A6 P Γ f args res):Ae P Γ f args res :=
 fun w X vs hg hx hr=>(h w X vs hg hx hr).mono fun v w' ⟨hb,ht⟩=>⟨hb,ht.mono (fun _ _=>rfl) (fun _ hb=>.inr hb)⟩
def Hq:T→Bool
 | .v _=>true
 | .sl [] _ _=>true
 | _=>false
def Av:T→Bool
 | .tup vs=>vs.all Hq
 | .agg vs=>vs.all Hq
 | t=>Hq t
theorem qBd {w:World} {X Y:Nat→Prop} {t:T} {x:Value} (h:TR w X t x) (hf:Hq t=true):TR w Y t x:=by
 cases h with
 | v x=>exact .v x
 | nil cap nl a c hc hn hz=>exact .nil cap nl a c hc hn hz
 | sl es cap nl s b off c f hcell hlen hrel hone hx hle hc hn =>
  cases es with
  | nil=>exact .nil cap nl _ c hc (fun q hq=>by rw [hn q hq]; rfl) (fun e=>by cases e)
  | cons e es=>simp [Hq] at hf
 | agg=>simp [Hq] at hf
 | tup=>simp [Hq] at hf
 | ip=>simp [Hq] at hf
 | fn=>simp [Hq] at hf
 | mpnil=>simp [Hq] at hf
 | mp=>simp [Hq] at hf
 | pin=>simp [Hq] at hf
theorem q8M {w:World} {X Y:Nat→Prop} {t:T} {x:Value} (h:TR w X t x) (hf:Av t=true):TR w Y t x:=by
 have one:∀ {ts:List T} {xs:List Value},ts.all Hq=true→F5 w X ts xs→F5 w Y ts xs:=by
  intro ts xs h1 h2
  exact ⟨h2.1,fun k t x ht hx=>qBd (h2.2 k t x ht hx) (List.all_eq_true.1 h1 t (List.mem_of_getElem? ht))⟩
 cases t with
 | tup vs=>obtain ⟨xs,rfl,hr⟩:=h.tup_inv; exact TR.mk_tup (one hf hr)
 | agg vs=>obtain ⟨xs,rfl,h1,hr⟩:=h.agg_inv; exact TR.mk_agg h1 (one hf hr)
 | _=>exact qBd h hf
structure RO where
 dst:Option Nat
 op:Ce
 guard:Option (Nat × Bool):=none
 rid:Option Nat:=none
def RO.d (ro:RO):Nat:=match ro.rid with
 | some r=>r
 | none=>ro.dst.getD 0
def St.put (st:St) (d:Option Nat) (a:AV):St:=match d with
 | some d=>⟨(d,a)::st.env,st.hp⟩
 | none=>st
def qAp (st:St) (μ:Df) (b:Nat):Prop:=∃ id n,st.sh id ≠ none∧μ id=some (b,n)
section
variable {P:Program} {Γ:Tables} {w0:World} {B:Nat} {κ:Df} {X:Nat→Prop} {μ:Df} {st:St} {tm:Array Value} {w:World} {ds:List Deferred} {o:Oper}
theorem S1 {Y:Nat→Prop} {f:AV→Option T}:∀ {cs:List AV} {xs:List Value} {ts:List T},J5 w X μ st.sh cs xs→(∀ c ∈ cs,∀ t x,AR w X μ st.sh c x→f c=some t→TR w Y t x)→Ai (cs.map f)=some ts→F5 w Y ts xs
 | [],xs,ts,h,hf,ho=>by
  simp only [List.map_nil,Ai,Option.some.injEq] at ho
  subst ho; rw [h.nil_inv]; exact F5.nil _ _
 | c::cs,xs,ts,h,hf,ho=>by
  obtain ⟨x,ys,rfl,hx,hs⟩:=h.cons_inv
  simp only [List.map_cons] at ho
  cases hc:f c with
  | none=>rw [hc] at ho; simp [Ai] at ho
  | some t =>
   rw [hc] at ho
   simp only [Ai,Option.map_eq_some_iff] at ho
   obtain ⟨ts',ho',rfl⟩:=ho
   exact F5.cons (hf c (by simp) t x hx hc) (S1 hs (fun c hm=>hf c (by simp [hm])) ho')
theorem q9w:∀ {n:Nat} {hp:List (Nat × Bc)} {a:AV} {t:T},a.one=true→Aj hp n a=some t→t.one=true:=by
 intro n hp a t h1 h
 cases a with
 | t x=>cases n <;> simp only [Aj,Option.some.injEq] at h <;> subst h <;> exact h1
 | ag cs=>simp [AV.one] at h1
 | un=>simp [AV.one] at h1
 | tu=>simp [AV.one] at h1
 | dead=>cases n <;> simp [Aj] at h
 | ls id off len cap =>
  cases n with
  | zero=>simp [Aj] at h
  | succ n=>simp only [Aj] at h; split at h <;> simp at h; subst h; rfl
 | lp id i k =>
  cases n with
  | zero=>simp [Aj] at h
  | succ n =>
   simp only [Aj] at h
   split at h
   ·simp at h; subst h; rfl
   ·simp only [Option.map_eq_some_iff] at h; obtain ⟨ts,_,rfl⟩:=h; rfl
   ·cases h
 | li id=>cases n <;> simp [Aj] at h
 | lb id m =>
  cases n with
  | zero=>simp [Aj] at h
  | succ n =>
   simp only [Aj] at h
   split at h
   ·simp only [Option.map_eq_some_iff] at h; obtain ⟨ts,_,rfl⟩:=h; rfl
   ·cases h
 | lm id =>
  cases n with
  | zero=>simp [Aj] at h
  | succ n=>simp only [Aj] at h; split at h <;> simp at h; subst h; rfl
 | fn f cs =>
  cases n with
  | zero=>simp [Aj] at h
  | succ n=>simp only [Aj,Option.map_eq_some_iff] at h; obtain ⟨ts,_,rfl⟩:=h; rfl
theorem Yr {n:Nat} {hp:List (Nat × Bc)}:∀ {cs:List AV} {ts:List T},D2 cs=true→Ai (cs.map (Aj hp n))=some ts→Cb ts=true
 | [],ts,h,ho=>by simp only [List.map_nil,Ai,Option.some.injEq] at ho; subst ho; rfl
 | c::cs,ts,h,ho=>by
  simp only [D2,List.all_cons,Bool.and_eq_true] at h
  simp only [List.map_cons] at ho
  cases hc:Aj hp n c with
  | none=>rw [hc] at ho; simp [Ai] at ho
  | some t =>
   rw [hc] at ho
   simp only [Ai,Option.map_eq_some_iff] at ho
   obtain ⟨ts',ho',rfl⟩:=ho
   simp only [Cb,List.all_cons,Bool.and_eq_true]
   exact ⟨q9w h.1 hc,Yr h.2 ho'⟩
theorem q8N (h:Bv w0 B κ X μ st tm w):∀ (n:Nat) {a:AV} {x:Value} {t:T},AR w X μ st.sh a x→Aj st.hp n a=some t→TR w (fun b=>X b∨qAp st μ b) t x:=by
 have hmono:∀ {t:T} {x:Value},TR w X t x→TR w (fun b=>X b∨qAp st μ b) t x:=fun ht=>ht.mono (fun _ _=>rfl) (fun _ hb=>.inl hb)
 intro n
 induction n with
 | zero =>
  intro a x t ha hr
  cases a <;> simp only [Aj,Option.some.injEq,reduceCtorEq] at hr
  subst hr; exact hmono ha.t_inv
 | succ n ih =>
  intro a x t ha hr
  cases a with
  | t y=>simp only [Aj,Option.some.injEq] at hr; subst hr; exact hmono ha.t_inv
  | ag cs =>
   simp only [Aj,Option.map_eq_some_iff] at hr
   obtain ⟨ts,hts,rfl⟩:=hr
   obtain ⟨xs,rfl,h1,hs⟩:=ha.ag_inv
   exact TR.mk_agg (Yr h1 hts) (S1 hs (fun c _ t x hc hf=>ih hc hf) hts)
  | fn f cs =>
   simp only [Aj,Option.map_eq_some_iff] at hr
   obtain ⟨ts,hts,rfl⟩:=hr
   cases ha with
   | fn f cs xs hlen hrel =>
    have:=S1 (w:=w) (μ:=μ) (st:=st) (X:=X) (cs:=cs) (xs:=xs) ⟨hlen,hrel⟩ (fun c _ t x hc hf=>ih hc hf) hts
    exact .fn f ts xs this.1 this.2
  | ls id off len cap =>
   have hel:∃ ty s es,A4 st.hp id=some (.sl ty s es)∧t=.sl ((es.drop off).take len) cap none:=by
    simp only [Aj] at hr
    split at hr
    ·rename_i ty s es hl; simp only [Option.some.injEq] at hr; exact ⟨ty,s,es,hl,hr.symm⟩
    ·cases hr
   obtain ⟨ty,s,es,hl,rfl⟩:=hel
   have hwr:=qE7 (h.reg id _ hl)
   obtain ⟨s',n',hs,hcase⟩:=ha.ls_inv
   rw [Ff hl] at hs
   simp only [Bc.sh,Option.some.injEq,Sh.sl.injEq] at hs
   obtain ⟨rfl,rfl⟩:=hs
   rcases hcase with ⟨hm,⟨oa,rfl⟩,rfl,rfl,hc⟩ | ⟨g,m,c,ad,hm,rfl,hle,hlc,hcm,hfit,hfull,hcq,had⟩
   ·simp only [List.take_zero]
    exact .nil _ _ _ _ (fun q hq=>(hc q hq).symm) (fun b hb=>by cases hb) (fun _=>rfl)
   ·have hlen:((es.drop off).take len).length=len:=by simp; omega
    by_cases h0:len=0
    ·subst h0
     simp only [List.take_zero]
     exact .nil _ _ _ _ hcq (fun b hb=>by cases hb) (fun e=>by cases e)
    ·obtain ⟨hw,hcase⟩:=h.reg id _ hl
     rcases hcase with ⟨_,hm0⟩ | ⟨g',arr,hm',hg,hle',hrel⟩
     ·rw [hm] at hm0; cases hm0
     rw [hm] at hm'; cases hm'
     have hge:∀ i,i<len→((es.drop off).take len)[i]? = es[off+i]? := fun i hi=>by rw [List.getElem?_take,if_pos hi,List.getElem?_drop]
     have hmem:∀ e ∈ (es.drop off).take len,∃ i,es[i]? = some e:=fun e hme=>by
      obtain ⟨i,hi,rfl⟩:=List.getElem_of_mem (List.mem_of_mem_drop (List.mem_of_mem_take hme))
      exact ⟨i,List.getElem?_eq_getElem hi⟩
     have:=TR.mk_sl (w:=w) (X:=fun b=>X b∨qAp st μ b) (es:=(es.drop off).take len) (cap:=cap) (nl:=none) (s:=s) (b:=g) (off:=off*s) (c:=c) (f:=fun i k=>(arr[(off+i)*s+k]?).getD undef)
      (.inr ⟨id,_,by simp [Ff hl],hm⟩) (by omega) hcq (fun q hq=>by cases hq) (fun e hme=>by obtain ⟨i,hi⟩:=hmem e hme; exact (hw i e hi).1)
      (fun e hme=>by
       obtain ⟨i,hi⟩:=hmem e hme
       exact List.all_eq_true.2 fun t ht=>by obtain ⟨k,hk,rfl⟩:=List.getElem_of_mem ht; exact (hw i e hi).2 k _ (List.getElem?_eq_getElem hk))
      (fun i k hi hk=>by
       rw [hlen] at hi
       have hf:=O3 (s:=s) (i:=off+i) (len:=es.length) (by omega)
       have hin:(off+i)*s+k<arr.size:=by omega
       rw [cell_of_row _ _ _ _ _ _ hg,show off*s+i*s+k=(off+i)*s+k by rw [Nat.add_mul]]
       simp [hin])
      (fun i k e t he ht=>by
       have hi:=(List.getElem?_eq_some_iff.1 he).1
       rw [hlen] at hi
       rw [hge i hi] at he
       have hk:k<s:=by rw [← (hw _ e he).1]; exact (List.getElem?_eq_some_iff.1 ht).1
       have hf:=O3 (s:=s) (i:=off+i) (len:=es.length) (by omega)
       have hin:(off+i)*s+k<arr.size:=by omega
       have:=hrel (off+i) k e t arr[(off+i)*s+k] he ht (by simp [hin])
       simp only [hin,getElem?_pos,Option.getD_some]
       exact hmono this)
     rw [hlen] at this
     rw [had (.inl (by omega))]
     exact this
  | lp id i k =>
   simp only [Aj] at hr
   obtain ⟨g,m,hm,hp⟩:=ha.lp_inv
   split at hr
   ·rename_i ty s es hl
    simp only [Option.some.injEq] at hr; subst hr
    rcases hp with ⟨s',n',hs,rfl⟩ | ⟨hs,_,_⟩
    case inr=>rw [Ff hl] at hs; cases hs
    rw [Ff hl] at hs
    simp only [Bc.sh,Option.some.injEq,Sh.sl.injEq] at hs
    obtain ⟨rfl,rfl⟩:=hs
    have hx:X g∨qAp st μ g:=.inr ⟨id,_,by simp [Ff hl],hm⟩
    by_cases hi:i<es.length
    ·obtain ⟨g',arr,hm',hheap,hle,hlen,h1,hrr⟩:=(h.reg id _ hl).elem hi
     rw [hm] at hm'; cases hm'
     refine TR.mk_ip h1 (hrr.mono (fun _ _=>rfl) (fun _ hb=>.inl hb)) hx (fun j y hy=>?_)
     rw [cell_of_row _ _ _ _ _ _ hheap]
     rw [List.getElem?_take] at hy
     split at hy
     ·rw [List.getElem?_drop] at hy; simpa using hy
     ·cases hy
    ·have:es.getD i []=[]:=by simp [List.getD,hi]
     rw [this]
     exact TR.mk_ip rfl (F5.nil _ _) hx (fun j y hy=>by simp at hy)
   ·rename_i cs hl
    simp only [Option.map_eq_some_iff] at hr
    obtain ⟨ts,hts,rfl⟩:=hr
    rcases hp with ⟨s',n',hs,rfl⟩ | ⟨hs,rfl,rfl⟩
    ·rw [Ff hl] at hs; cases hs
    obtain ⟨hone,g',arr,ty,hm',hheap,hsz,hrel⟩:=h.reg id _ hl
    rw [hm] at hm'; cases hm'
    have hcs:J5 w X μ st.sh cs arr.toList:=⟨by simp [hsz],fun j a y h2 h3=>hrel j a y h2 (by simpa using h3)⟩
    have h1:D2 cs=true:=List.all_eq_true.2 fun t ht=>by obtain ⟨j,hj,rfl⟩:=List.getElem_of_mem ht; exact hone j _ (List.getElem?_eq_getElem hj)
    have:=TR.mk_ip (w:=w) (X:=fun b=>X b∨qAp st μ b) (k:=k) (b:=g) (off:=0) (Yr h1 hts) (S1 hcs (fun c _ t x hc hf=>ih hc hf) hts) (.inr ⟨id,_,by simp [Ff hl],hm⟩) (fun j y hy=>by
     rw [cell_of_row _ _ _ _ _ _ hheap]; simpa using hy)
    simpa using this
   ·cases hr
  | li id=>simp [Aj] at hr
  | lb id m =>
   simp only [Aj] at hr
   obtain ⟨g,hsb,hm,hmx,rfl⟩:=ha.lb_inv
   split at hr
   ·rename_i cs hl
    simp only [Option.map_eq_some_iff] at hr
    obtain ⟨ts,hts,rfl⟩:=hr
    obtain ⟨hone,g',arr,ty,hm',hheap,hsz,hrel⟩:=h.reg id _ hl
    rw [hm] at hm'; cases hm'
    have hcs:J5 w X μ st.sh cs arr.toList:=⟨by simp [hsz],fun j a y h2 h3=>hrel j a y h2 (by simpa using h3)⟩
    have h1:D2 cs=true:=List.all_eq_true.2 fun t ht=>by obtain ⟨j,hj,rfl⟩:=List.getElem_of_mem ht; exact hone j _ (List.getElem?_eq_getElem hj)
    have h1t:=Yr h1 hts
    have hrt:=S1 hcs (fun c _ t x hc hf=>ih hc hf) hts
    have hlen:(ts.map fun t=>[t]).length=arr.size:=by have:=hrt.1; simpa using this
    by_cases h0:ts=[]
    ·subst h0
     have h00:arr.size=0:=by simpa using hlen.symm
     rw [h00]
     exact .nil _ _ _ _ (fun q hq=>by cases hq; rfl) (fun b hb=>by cases hb) (fun e=>by cases e)
    ·have:=TR.mk_sl (w:=w) (X:=fun b=>X b∨qAp st μ b) (es:=ts.map fun t=>[t]) (cap:=some arr.size) (nl:=none) (s:=1) (b:=g) (off:=0) (c:=arr.size) (f:=fun i k=>(arr[i+k]?).getD undef)
      (.inr ⟨id,_,by simp [Ff hl],hm⟩) (by omega) (fun q hq=>by cases hq; rfl) (fun q hq=>by cases hq) (fun e hme=>by obtain ⟨t,_,rfl⟩:=List.mem_map.1 hme; rfl)
      (fun e hme=>by
       obtain ⟨t,ht,rfl⟩:=List.mem_map.1 hme
       simpa [Cb] using List.all_eq_true.1 h1t t ht)
      (fun i k hi hk=>by
       rw [cell_of_row _ _ _ _ _ _ hheap,show 0+i*1+k=i+k by omega]
       rw [hlen] at hi
       have:i+k<arr.size:=by omega
       simp [this])
      (fun i k e t he ht=>by
       have hi:=(List.getElem?_eq_some_iff.1 he).1
       simp only [List.getElem?_map,Option.map_eq_some_iff] at he
       obtain ⟨t',ht',rfl⟩:=he
       have hk:k=0:=by have:=(List.getElem?_eq_some_iff.1 ht).1; simpa using this
       subst hk
       simp only [List.getElem?_cons_zero,Option.some.injEq] at ht; subst ht
       rw [hlen] at hi
       have:=hrt.2 i t' arr[i] ht' (by simp [hi])
       simpa [hi] using this)
     rw [hlen] at this
     exact this
   ·cases hr
  | lm id =>
   simp only [Aj] at hr
   split at hr
   ·rename_i es hl
    simp only [Option.some.injEq] at hr; subst hr
    obtain ⟨g,n',hs,hm,rfl⟩:=ha.lm_inv
    obtain ⟨g',n2,clock,ms,hm',hh,hlen,hrel⟩:=h.reg _ _ hl
    rw [hm] at hm'; cases hm'
    exact .mp es g clock ms hh (.inr ⟨id,_,by simp [Ff hl],hm⟩) hlen (fun i e m h1 h2=>(hrel i e m h1 h2).1) (fun i e m h1 h2=>hmono (hrel i e m h1 h2).2)
   ·cases hr
  | dead=>simp [Aj] at hr
  | un=>simp [Aj] at hr
  | tu=>simp [Aj] at hr
end
end Go.Lg
namespace Go.Lg
open Go
def ren0 (φ:Nat→Option Nat):AV→AV
 | .ls i off len cap=>match φ i with | some j=>.ls j off len cap | none=>.dead
 | .lp i a k=>match φ i with | some j=>.lp j a k | none=>.dead
 | .lm i=>match φ i with | some j=>.lm j | none=>.dead
 | .lb i m=>match φ i with | some j=>.lb j m | none=>.dead
 | .li i=>match φ i with | some j=>.li j | none=>.dead
 | .fn f []=>.fn f []
 | .fn _ (_::_)=>.dead
 | .t x=>.t x
 | .dead=>.dead
 | .un=>.un
 | .ag cs=>.ag cs
 | .tu cs=>.tu cs
def ren1 (φ:Nat→Option Nat):AV→AV
 | .fn f cs=>if cs.all Cj then .fn f (cs.map (ren0 φ)) else .dead
 | a=>ren0 φ a
def Be (φ:Nat→Option Nat):AV→AV
 | .ag cs=>.ag (cs.map (ren1 φ))
 | .tu cs=>.tu (cs.map (ren1 φ))
 | a=>ren1 φ a
def D3 (φ:Nat→Option Nat):Bc→Bc
 | .bx cs=>.bx (cs.map (Be φ))
 | q=>q
theorem Ou {φ:Nat→Option Nat} (q:Bc):(D3 φ q).sh=q.sh:=by cases q <;> rfl
section
variable {P:Program} {Γ:Tables} {w0:World} {B:Nat} {κ:Df} {X X':Nat→Prop} {μ μ':Df} {st:St} {tm:Array Value} {w w':World} {sh sh':Nat→Option Sh} {φ:Nat→Option Nat}
theorem AR.ren0 (hsh:∀ i j q,φ i=some j→sh i=some q→sh' j=some q∧μ' j=μ i) {a:AV} {x:Value} (ha:AR w X μ sh a x) (hna:Cj a=true):AR w X μ' sh' (Lg.ren0 φ a) x:=by
 cases ha with
 | t y v hy=>exact .t _ _ hy
 | lsnil i s n hs hm oa cap hq =>
  simp only [Lg.ren0]; split
  ·rename_i j hj; exact .lsnil j s n (hsh _ _ _ hj hs).1 ((hsh _ _ _ hj hs).2.trans hm) oa cap hq
  ·exact .dead _ rfl
 | ls i off len s n g m c cap hs hm hle hlc hcm hfit hfull hq ad had =>
  simp only [Lg.ren0]; split
  ·rename_i j hj; exact .ls j off len s n g m c cap (hsh _ _ _ hj hs).1 ((hsh _ _ _ hj hs).2.trans hm) hle hlc hcm hfit hfull hq ad had
  ·exact .dead _ rfl
 | lpsl i a k s n g m hs hm =>
  simp only [Lg.ren0]; split
  ·rename_i j hj; exact .lpsl j a k s n g m (hsh _ _ _ hj hs).1 ((hsh _ _ _ hj hs).2.trans hm)
  ·exact .dead _ rfl
 | lpbx i k g m hs hm =>
  simp only [Lg.ren0]; split
  ·rename_i j hj; exact .lpbx j k g m (hsh _ _ _ hj hs).1 ((hsh _ _ _ hj hs).2.trans hm)
  ·exact .dead _ rfl
 | lm i g m hs hm =>
  simp only [Lg.ren0]; split
  ·rename_i j hj; exact .lm j g m (hsh _ _ _ hj hs).1 ((hsh _ _ _ hj hs).2.trans hm)
  ·exact .dead _ rfl
 | lb i g m hs hm hle =>
  simp only [Lg.ren0]; split
  ·rename_i j hj; exact .lb j g m (hsh _ _ _ hj hs).1 ((hsh _ _ _ hj hs).2.trans hm) hle
  ·exact .dead _ rfl
 | li i g m hs hm =>
  simp only [Lg.ren0]; split
  ·rename_i j hj; exact .li j g m (hsh _ _ _ hj hs).1 ((hsh _ _ _ hj hs).2.trans hm)
  ·exact .dead _ rfl
 | fn f cs xs hlen hrel =>
  cases cs with
  | nil=>exact .fn f [] xs hlen (fun k a x h=>by simp at h)
  | cons c cs=>exact .dead _ rfl
 | dead v h=>exact .dead _ h
 | un=>exact .un
 | ag=>simp [Cj] at hna
 | tu=>simp [Cj] at hna
theorem AR.ren1 (hsh:∀ i j q,φ i=some j→sh i=some q→sh' j=some q∧μ' j=μ i) {a:AV} {x:Value} (ha:AR w X μ sh a x) (hna:Cj a=true):AR w X μ' sh' (Lg.ren1 φ a) x:=by
 by_cases hf:∃ f cs,a=.fn f cs
 ·obtain ⟨f,cs,rfl⟩:=hf
  simp only [Lg.ren1]
  split
  ·rename_i hall
   cases ha with
   | fn f cs xs hlen hrel =>
    refine .fn f _ xs (by simpa using hlen) fun k a x ha hx=>?_
    simp only [List.getElem?_map,Option.map_eq_some_iff] at ha
    obtain ⟨b,hb,rfl⟩:=ha
    exact (hrel k b x hb hx).ren0 hsh (List.all_eq_true.1 hall b (List.mem_of_getElem? hb))
  ·cases ha; exact .dead _ rfl
 ·have e:Lg.ren1 φ a=Lg.ren0 φ a:=by cases a <;> first | rfl | exact absurd ⟨_,_,rfl⟩ hf
  rw [e]; exact ha.ren0 hsh hna
theorem qGA {a:AV} (h:a.one=true):(Lg.ren0 φ a).one=true:=by
 cases a with
 | fn f cs=>cases cs <;> rfl
 | ag cs=>simp [AV.one] at h
 | tu cs=>simp [AV.one] at h
 | un=>simp [AV.one] at h
 | t x=>exact h
 | dead=>rfl
 | ls i off len cap=>simp only [Lg.ren0]; split <;> rfl
 | lp i j k=>simp only [Lg.ren0]; split <;> rfl
 | lm i=>simp only [Lg.ren0]; split <;> rfl
 | lb i m=>simp only [Lg.ren0]; split <;> rfl
 | li i=>simp only [Lg.ren0]; split <;> rfl
theorem qBe {a:AV} (h:a.one=true):(Lg.ren1 φ a).one=true:=by
 by_cases hf:∃ f cs,a=.fn f cs
 ·obtain ⟨f,cs,rfl⟩:=hf
  simp only [Lg.ren1]; split <;> rfl
 ·have e:Lg.ren1 φ a=Lg.ren0 φ a:=by cases a <;> first | rfl | exact absurd ⟨_,_,rfl⟩ hf
  rw [e]; exact qGA h
theorem qD3 {a:AV} (h:a.one=true):(Be φ a).one=true:=by
 have e:Be φ a=Lg.ren1 φ a:=by cases a <;> first | rfl | simp [AV.one] at h
 rw [e]; exact qBe h
theorem qD4 {a:AV} (h:Cj a=true):Cj (Lg.ren0 φ a)=true:=by
 cases a with
 | ag=>simp [Cj] at h
 | tu=>simp [Cj] at h
 | fn f cs=>cases cs <;> rfl
 | t | dead | un=>rfl
 | _=>simp only [Lg.ren0]; split <;> rfl
theorem qD5 {a:AV} (h:Cj a=true):Cj (Lg.ren1 φ a)=true:=by
 by_cases hf:∃ f cs,a=.fn f cs
 ·obtain ⟨f,cs,rfl⟩:=hf
  simp only [Lg.ren1]; split <;> rfl
 ·have e:Lg.ren1 φ a=Lg.ren0 φ a:=by cases a <;> first | rfl | exact absurd ⟨_,_,rfl⟩ hf
  rw [e]; exact qD4 h
theorem AR.ren (hsh:∀ i j q,φ i=some j→sh i=some q→sh' j=some q∧μ' j=μ i) {a:AV} {x:Value} (ha:AR w X μ sh a x):AR w X μ' sh' (Be φ a) x:=by
 by_cases hg:Cj a=true
 ·have e:Be φ a=Lg.ren1 φ a:=by cases a <;> first | rfl | simp [Cj] at hg
  rw [e]; exact ha.ren1 hsh hg
 ·cases a with
  | ag cs =>
   obtain ⟨xs,rfl,h1,hr⟩:=ha.ag_inv
   refine AR.mk_ag (List.all_eq_true.2 fun b hb=>?_) ⟨by simpa using hr.1,fun k b y hb hy=>?_⟩
   ·obtain ⟨c,hc,rfl⟩:=List.mem_map.1 hb
    exact qBe (List.all_eq_true.1 h1 c hc)
   ·simp only [List.getElem?_map,Option.map_eq_some_iff] at hb
    obtain ⟨c,hc',rfl⟩:=hb
    exact (hr.2 k c y hc' hy).ren1 hsh (q3Q (Wv h1 hc'))
  | tu cs =>
   obtain ⟨xs,rfl,h1,hr⟩:=ha.tu_inv
   refine AR.mk_tu (fun k b hb=>?_) ⟨by simpa using hr.1,fun k b y hb hy=>?_⟩
   ·simp only [List.getElem?_map,Option.map_eq_some_iff] at hb
    obtain ⟨c,hc',rfl⟩:=hb
    exact qD5 (h1 k c hc')
   ·simp only [List.getElem?_map,Option.map_eq_some_iff] at hb
    obtain ⟨c,hc',rfl⟩:=hb
    exact (hr.2 k c y hc' hy).ren1 hsh (h1 k c hc')
  | _=>exact absurd rfl hg
theorem J5.ren (hsh:∀ i j q,φ i=some j→sh i=some q→sh' j=some q∧μ' j=μ i) {as:List AV} {xs:List Value} (ha:J5 w X μ sh as xs):J5 w X μ' sh' (as.map (Be φ)) xs :=
 ⟨by simpa using ha.1,fun k a x h hx=>by
  simp only [List.getElem?_map,Option.map_eq_some_iff] at h
  obtain ⟨b,hb,rfl⟩:=h
  exact (ha.2 k b x hb hx).ren hsh⟩
theorem Oq.ren {id id':Nat} {r:Bc} (hsh:∀ i j q,φ i=some j→sh i=some q→sh' j=some q∧μ' j=μ i) (hid:μ' id'=μ id) (h:Oq w X μ sh id r):Oq w X μ' sh' id' (D3 φ r):=by
 cases r with
 | sl ty s es =>
  refine ⟨h.1,h.2.imp (fun ⟨h1,h2⟩=>⟨h1,hid.trans h2⟩) fun ⟨g,arr,hm,hr⟩=>⟨g,arr,hid.trans hm,hr⟩⟩
 | mp es=>obtain ⟨g,n,clock,ms,hm,hr⟩:=h; exact ⟨g,n,clock,ms,hid.trans hm,hr⟩
 | it s pos=>obtain ⟨g,n,hm,hr⟩:=h; exact ⟨g,n,hid.trans hm,hr⟩
 | bx cs =>
  obtain ⟨h1,g,arr,ty,hm,hg,hle,hr⟩:=h
  refine ⟨fun k a ha=>?_,g,arr,ty,hid.trans hm,hg,by simpa using hle,fun k a x ha hx=>?_⟩
  ·simp only [List.getElem?_map,Option.map_eq_some_iff] at ha
   obtain ⟨b,hb,rfl⟩:=ha
   exact qD3 (h1 k b hb)
  ·simp only [List.getElem?_map,Option.map_eq_some_iff] at ha
   obtain ⟨b,hb,rfl⟩:=ha
   exact (hr k b x hb hx).ren hsh
def F9 (P:Program) (Γ:Tables) (f:FuncId) (hp:List (Nat × Bc)) (args:List AV) (res:AV) (hp':List (Nat × Bc)):Prop :=
 ∀ (w:World) (X:Nat→Prop) (κ:Df) (vs:List Value),Gl Γ w X→(∀ id,κ id ≠ none→A4 hp id ≠ none)→Bv w w.heap.size κ X κ ⟨[],hp⟩ #[] w→J5 w X κ (St.sh ⟨[],hp⟩) args vs →
  q09 P f vs.toArray w fun v w'=>∃ X' μ',Bv w w.heap.size κ X' μ' ⟨[],hp'⟩ #[] w'∧AR w' X' μ' (St.sh ⟨[],hp'⟩) res v∧(∀ b,X b→X' b)∧(∀ b,X' b→X b∨w.heap.size≤b∨∃ id n,κ id=some (b,n))
theorem F9.alike {f:FuncId} {hp hq:List (Nat × Bc)} {args:List AV} {res:AV} {hp':List (Nat × Bc)} (hl:∀ t,A4 hq t=A4 hp t) (h:F9 P Γ f hp args res hp'):F9 P Γ f hq args res hp':=by
 intro w X κ vs hg hk hs ha
 have e:St.sh ⟨[],hq⟩=St.sh ⟨[],hp⟩:=funext fun t=>by simp only [St.sh,hl]
 refine h w X κ vs hg (fun id hi=>by rw [← hl]; exact hk id hi) ?_ (by rw [← e]; exact ha)
 refine ⟨fun t a ht=>by simp [A4] at ht,fun id r hr=>?_,?_,?_,?_,hs.kbig,hs.xlt,hs.os,hs.tape,hs.output,hs.size,hs.fr⟩
 ·rw [← e]; exact hs.reg id r (by show A4 hq id=_; rw [hl]; exact hr)
 ·rw [← e]; exact hs.inj
 ·rw [← e]; exact hs.loc
 ·rw [← e]; exact hs.kap
def fwd (rs:List Nat) (i:Nat):Option Nat:=if rs.contains i then some (1000000+rs.idxOf i) else none
def bwd (rs:List Nat) (base j:Nat):Nat:=if j<1000000 then base+j else rs.getD (j - 1000000) 0
def Fg (rs:List Nat) (hp:List (Nat × Bc)):List (Nat × Bc):=rs.filterMap fun i=>(A4 hp i).map fun r=>(1000000+rs.idxOf i,D3 (fwd rs) r)
def Lt (rs:List Nat) (base:Nat):List (Nat × Bc)→List (Nat × Bc)
 | []=>[]
 | (j,r)::l=>if j<1000000 then (base+j,D3 (fun i=>some (bwd rs base i)) r)::Lt rs base l else Lt rs base l
def q5Y (rs:List Nat) (hp':List (Nat × Bc)) (i:Nat):Option Nat:=if rs.contains i && (A4 hp' (1000000+rs.idxOf i)).isNone then none else some i
def q7E (rs:List Nat) (base:Nat) (hp':List (Nat × Bc)):List (Nat × Bc)→List (Nat × Bc)
 | []=>[]
 | (t,q)::l =>
  if rs.contains t then (match A4 hp' (1000000+rs.idxOf t) with
   | some r=>(t,D3 (fun i=>some (bwd rs base i)) r)::q7E rs base hp' l
   | none=>q7E rs base hp' l)
  else (t,D3 (q5Y rs hp') q)::q7E rs base hp' l
def K5 (rs:List Nat) (base:Nat) (hp':List (Nat × Bc)) (st:St):St:=⟨st.env.map fun p=>(p.1,Be (q5Y rs hp') p.2),Lt rs base hp'++q7E rs base hp' st.hp⟩
def okB (rs:List Nat) (base:Nat) (hp:List (Nat × Bc)):List (Nat × Bc)→Prop
 | []=>True
 | (j,r)::l=>(if j<1000000 then A4 hp (base+j)=none∧base+j<1000000 else j - 1000000<rs.length∧(A4 hp (rs.getD (j - 1000000) 0)).map Bc.sh=some r.sh)∧okB rs base hp l
theorem q5Z {rs:List Nat} {base:Nat} {hp:List (Nat × Bc)}:∀ {hp':List (Nat × Bc)} {j:Nat} {r:Bc},okB rs base hp hp'→A4 hp' j=some r →
  if j<1000000 then A4 hp (base+j)=none∧base+j<1000000 else j - 1000000<rs.length∧(A4 hp (rs.getD (j - 1000000) 0)).map Bc.sh=some r.sh
 | [],j,r,_,h=>by simp [A4] at h
 | (k,q)::l,j,r,ho,h=>by
  simp only [A4] at h
  split at h
  ·rename_i e; subst e; simp only [Option.some.injEq] at h; subst h; exact ho.1
  ·exact q5Z ho.2 h
theorem q6Z {rs:List Nat} {base t:Nat}:∀ {hp':List (Nat × Bc)},A4 (Lt rs base hp') t=if base≤t∧t - base<1000000 then (A4 hp' (t - base)).map (D3 fun i=>some (bwd rs base i)) else none
 | []=>by simp [Lt,A4]
 | (j,r)::l=>by
  have ih:=q6Z (rs:=rs) (base:=base) (t:=t) (hp':=l)
  simp only [Lt]
  split
  ·rename_i hj
   simp only [A4,ih]
   by_cases e:base+j=t
   ·have h1:base≤t∧t - base<1000000:=by omega
    have h2:j=t - base:=by omega
    simp [e,h1,h2]
   ·by_cases h1:base≤t∧t - base<1000000
    ·have h2:¬ j=t - base:=by omega
     simp [e,h1,h2]
    ·simp [e,h1]
  ·rename_i hj
   rw [ih]
   by_cases h1:base≤t∧t - base<1000000
   ·have h2:¬ j=t - base:=by omega
    simp [h1,A4,h2]
   ·simp [h1]
theorem q0Y {rs:List Nat} {base t:Nat} {hp':List (Nat × Bc)}:∀ {hp:List (Nat × Bc)},A4 (q7E rs base hp' hp) t =
  if rs.contains t then (A4 hp t).bind fun _=>(A4 hp' (1000000+rs.idxOf t)).map (D3 fun i=>some (bwd rs base i)) else (A4 hp t).map (D3 (q5Y rs hp'))
 | []=>by simp [q7E,A4]
 | (k,q)::l=>by
  have ih:=q0Y (rs:=rs) (base:=base) (t:=t) (hp':=hp') (hp:=l)
  simp only [q7E]
  by_cases e:k=t
  ·subst e
   by_cases hc:rs.contains k
   ·simp only [hc,↓reduceIte] at ih ⊢
    split
    ·rename_i r hr; simp [A4,hr]
    ·rename_i hr; rw [ih]; simp [A4,hr]
   ·simp only [hc,Bool.false_eq_true,↓reduceIte,A4,Option.map_some]
  ·by_cases hc:rs.contains k
   ·simp only [hc,↓reduceIte]
    split
    ·simp only [A4,e,↓reduceIte,ih]
    ·simp only [A4,e,↓reduceIte,ih]
   ·simp only [hc,Bool.false_eq_true,↓reduceIte,A4,e,ih]
theorem Du {α:Type} {a b:List (Nat × α)} {t:Nat}:A4 (a++b) t=(A4 a t).or (A4 b t):=by
 induction a with
 | nil=>simp [A4]
 | cons p a ih =>
  simp only [List.cons_append,A4]
  split
  ·simp
  ·exact ih
theorem q9x {rs:List Nat} {hp:List (Nat × Bc)} {j:Nat} {r:Bc} (h:A4 (Fg rs hp) j=some r):∃ i q,i ∈ rs∧A4 hp i=some q∧j=1000000+rs.idxOf i∧r=D3 (fwd rs) q:=by
 have key:∀ l:List Nat,(∀ i ∈ l,i ∈ rs)→A4 (l.filterMap fun i=>(A4 hp i).map fun r=>(1000000+rs.idxOf i,D3 (fwd rs) r)) j=some r→∃ i q,i ∈ rs∧A4 hp i=some q∧j=1000000+rs.idxOf i∧r=D3 (fwd rs) q:=by
  intro l
  induction l with
  | nil=>intro _ h; simp [A4] at h
  | cons i l ih =>
   intro hm h
   rw [List.filterMap_cons] at h
   cases hq:A4 hp i with
   | none=>rw [hq] at h; exact ih (fun i hi=>hm i (List.mem_cons_of_mem _ hi)) h
   | some q =>
    rw [hq] at h
    simp only [Option.map_some,A4] at h
    split at h
    ·rename_i e
     simp only [Option.some.injEq] at h
     exact ⟨i,q,hm i List.mem_cons_self,hq,e.symm,h.symm⟩
    ·exact ih (fun i hi=>hm i (List.mem_cons_of_mem _ hi)) h
 exact key rs (fun _ h=>h) h
theorem q8O {rs:List Nat} {hp:List (Nat × Bc)} {i:Nat} {q:Bc} (hi:i ∈ rs) (hq:A4 hp i=some q):A4 (Fg rs hp) (1000000+rs.idxOf i)=some (D3 (fwd rs) q):=by
 have key:∀ l:List Nat,i ∈ l→(∀ i ∈ l,i ∈ rs)→A4 (l.filterMap fun i=>(A4 hp i).map fun r=>(1000000+rs.idxOf i,D3 (fwd rs) r)) (1000000+rs.idxOf i)=some (D3 (fwd rs) q):=by
  intro l
  induction l with
  | nil=>intro h; cases h
  | cons k l ih =>
   intro h hm
   rw [List.filterMap_cons]
   by_cases e:k=i
   ·subst e; simp [hq,A4]
   ·have hne:rs.idxOf k ≠ rs.idxOf i:=by
     intro he
     have h1:=List.getElem_idxOf (List.idxOf_lt_length_of_mem (hm k List.mem_cons_self))
     have h2:=List.getElem_idxOf (List.idxOf_lt_length_of_mem hi)
     apply e
     rw [← h1,← h2]
     simp only [he]
    have ih':=ih (by rcases List.mem_cons.1 h with h | h; exact absurd h.symm e; exact h) (fun i hi=>hm i (List.mem_cons_of_mem _ hi))
    cases A4 hp k with
    | none=>exact ih'
    | some r =>
     simp only [Option.map_some,A4]
     rw [if_neg (by omega)]
     exact ih'
 exact key rs hi (fun _ h=>h)
theorem q5a {rs:List Nat} {k:Nat} (h:k<rs.length):rs.getD k 0=rs[k]:=by simp [List.getD,h]
def J6 (μ:Df) (st:St) (rs:List Nat):Df:=fun j=>if 1000000≤j∧j - 1000000<rs.length∧st.sh (rs.getD (j - 1000000) 0) ≠ none then μ (rs.getD (j - 1000000) 0) else none
theorem Ft {rs:List Nat} {j:Nat} {l:Nat × Nat} (h:J6 μ st rs j=some l):∃ t,t ∈ rs∧st.sh t ≠ none∧μ t=some l:=by
 unfold J6 at h
 split at h
 ·rename_i hc
  refine ⟨_,?_,hc.2.2,h⟩
  simp [List.getD,hc.2.1]
 ·cases h
theorem Pv {rs:List Nat} {t:Nat} (ht:t ∈ rs) (hs:st.sh t ≠ none):J6 μ st rs (1000000+rs.idxOf t)=μ t:=by
 have hlt:=List.idxOf_lt_length_of_mem ht
 have e:rs.getD (rs.idxOf t) 0=t:=by simp [List.getD,hlt]
 unfold J6
 have e2:1000000+rs.idxOf t - 1000000=rs.idxOf t:=by omega
 rw [e2,e,if_pos ⟨by omega,hlt,hs⟩]
theorem Ys {rs:List Nat} {t:Nat} {q:Sh} (ht:t ∈ rs) (hs:st.sh t=some q):St.sh ⟨[],Fg rs st.hp⟩ (1000000+rs.idxOf t)=some q:=by
 simp only [St.sh,Option.map_eq_some_iff] at hs ⊢
 obtain ⟨r,hr,rfl⟩:=hs
 exact ⟨_,q8O ht hr,Ou _⟩
theorem Yt {rs:List Nat} {j:Nat} (hs:St.sh ⟨[],Fg rs st.hp⟩ j ≠ none):∃ t,t ∈ rs∧j=1000000+rs.idxOf t∧st.sh t ≠ none:=by
 cases h:A4 (Fg rs st.hp) j with
 | none=>exact absurd (by simp [St.sh,h]) hs
 | some r =>
  obtain ⟨i,q,h1,h2,h3,_⟩:=q9x h
  exact ⟨i,h1,h3,by simp [St.sh,h2]⟩
theorem qHy {rs:List Nat} {a b:Nat} (ha:a ∈ rs) (hb:b ∈ rs) (h:rs.idxOf a=rs.idxOf b):a=b:=by
 have h1:=List.getElem_idxOf (List.idxOf_lt_length_of_mem ha)
 have h2:=List.getElem_idxOf (List.idxOf_lt_length_of_mem hb)
 rw [← h1,← h2]
 simp only [h]
theorem Bv.hand (h:Bv w0 B κ X μ st tm w) (rs:List Nat):Bv w w.heap.size (J6 μ st rs) X (J6 μ st rs) ⟨[],Fg rs st.hp⟩ #[] w:=by
 have hfw:∀ i j q,fwd rs i=some j→st.sh i=some q→St.sh ⟨[],Fg rs st.hp⟩ j=some q∧J6 μ st rs j=μ i:=by
  intro i j q hj hs
  unfold fwd at hj
  split at hj
  ·rename_i hc
   have hm:i ∈ rs:=by simpa using hc
   simp only [Option.some.injEq] at hj; subst hj
   exact ⟨Ys hm hs,Pv hm (by simp [hs])⟩
  ·cases hj
 refine ⟨fun t a ht=>by simp [A4] at ht,?_,?_,?_,fun _ _ _=>rfl,?_,h.xlt,rfl,rfl,rfl,Nat.le_refl _,fun _ _ _=>rfl⟩
 ·intro id r hr
  obtain ⟨i,q,h1,h2,rfl,rfl⟩:=q9x hr
  exact (h.reg i q h2).ren hfw (Pv h1 (by simp [St.sh,h2]))
 ·intro a b g n n' ha hb hma hmb
  obtain ⟨i,h1,rfl,h2⟩:=Yt ha
  obtain ⟨j,h3,rfl,h4⟩:=Yt hb
  rw [Pv h1 h2] at hma
  rw [Pv h3 h4] at hmb
  rw [h.inj i j g n n' h2 h4 hma hmb]
 ·intro a g n ha hm
  obtain ⟨i,h1,rfl,h2⟩:=Yt ha
  have hm':=hm
  rw [Pv h1 h2] at hm'
  obtain ⟨h5,h6,_⟩:=h.loc i g n h2 hm'
  exact ⟨h5,h6,fun _=>⟨_,_,hm⟩⟩
 ·intro j l hk
  unfold J6 at hk
  split at hk
  ·rename_i hc; exact hc.1
  ·cases hk
theorem q3V {rs:List Nat} {as:List AV} {xs:List Value} (h:Bv w0 B κ X μ st tm w) (ha:J5 w X μ st.sh as xs):J5 w X (J6 μ st rs) (St.sh ⟨[],Fg rs st.hp⟩) (as.map (Be (fwd rs))) xs:=by
 refine ha.ren fun i j q hj hs=>?_
 unfold fwd at hj
 split at hj
 ·rename_i hc
  have hm:i ∈ rs:=by simpa using hc
  simp only [Option.some.injEq] at hj; subst hj
  exact ⟨Ys hm hs,Pv hm (by simp [hs])⟩
 ·cases hj
def Ov (μ μ':Df) (base:Nat) (hp':List (Nat × Bc)):Df:=fun t=>if base≤t∧t - base<1000000∧A4 hp' (t - base) ≠ none then μ' (t - base) else μ t
theorem Bv.back {rs:List Nat} {base:Nat} {hp':List (Nat × Bc)} (hnd:rs.Nodup) (h:Bv w0 B κ X μ st tm w) (h':Bv w w.heap.size (J6 μ st rs) X' μ' ⟨[],hp'⟩ #[] w') (hok:okB rs base st.hp hp') (hX:∀ b,X b→X' b)
  (hX':∀ b,X' b→X b∨w.heap.size≤b∨∃ id n,J6 μ st rs id=some (b,n)) :
  Bv w0 B κ X' (Ov μ μ' base hp') (K5 rs base hp' st) tm w'∧Rw X w w' ∧
   ∀ i q,St.sh ⟨[],hp'⟩ i=some q→(K5 rs base hp' st).sh (bwd rs base i)=some q∧Ov μ μ' base hp' (bwd rs base i)=μ' i:=by
 have hsame:Rw X w w':=by
  intro b hb
  refine h'.fr b (h.xlt b hb) fun id n hk=>?_
  obtain ⟨t,_,h2,h3⟩:=Ft hk
  exact (h.loc t b n h2 h3).1 hb
 have hlook:∀ t,A4 (K5 rs base hp' st).hp t=((if base≤t∧t - base<1000000 then (A4 hp' (t - base)).map (D3 fun i=>some (bwd rs base i)) else none).or
   (if rs.contains t then (A4 st.hp t).bind fun _=>(A4 hp' (1000000+rs.idxOf t)).map (D3 fun i=>some (bwd rs base i)) else (A4 st.hp t).map (D3 (q5Y rs hp')))):=fun t=>by
  simp only [K5,Du,q6Z,q0Y]
 have hnew:∀ t,base≤t∧t - base<1000000∧A4 hp' (t - base) ≠ none→A4 st.hp t=none∧t<1000000:=by
  intro t ⟨h1,h2,h3⟩
  cases hr:A4 hp' (t - base) with
  | none=>exact absurd hr h3
  | some r =>
   have:=q5Z hok hr
   rw [if_pos h2] at this
   have e:base+(t - base)=t:=by omega
   rw [e] at this; exact this
 have hold:∀ j r,A4 hp' j=some r→¬ j<1000000→∃ t,t ∈ rs∧j=1000000+rs.idxOf t∧bwd rs base j=t∧st.sh t=some r.sh:=by
  intro j r hr hj
  have:=q5Z hok hr
  rw [if_neg hj] at this
  obtain ⟨h1,h2⟩:=this
  have hg:rs.getD (j - 1000000) 0=rs[j - 1000000]:=by simp [List.getD,h1]
  refine ⟨rs[j - 1000000],List.getElem_mem h1,?_,by simp only [bwd,hj,↓reduceIte,hg],by rw [hg] at h2; exact h2⟩
  rw [hnd.idxOf_getElem]; omega
 have hbwd:∀ i q,St.sh ⟨[],hp'⟩ i=some q→(K5 rs base hp' st).sh (bwd rs base i)=some q∧Ov μ μ' base hp' (bwd rs base i)=μ' i:=by
  intro i q hq
  simp only [St.sh,Option.map_eq_some_iff] at hq
  obtain ⟨r,hr,rfl⟩:=hq
  by_cases hi:i<1000000
  ·have e:base+i - base=i:=by omega
   have hb:bwd rs base i=base+i:=by simp [bwd,hi]
   rw [hb]
   constructor
   ·simp only [St.sh,hlook,e]
    rw [if_pos ⟨by omega,hi⟩]
    simp [hr,Ou]
   ·simp only [Ov,e]
    rw [if_pos ⟨by omega,hi,by simp [hr]⟩]
  ·obtain ⟨t,ht,rfl,hb,hs⟩:=hold i r hr hi
   rw [hb]
   have hnn:¬ (base≤t∧t - base<1000000∧A4 hp' (t - base) ≠ none):=fun hc=>by
    have:=(hnew t hc).1
    simp [St.sh,this] at hs
   have hts:st.sh t ≠ none:=by simp [hs]
   have hz:(if base≤t∧t - base<1000000 then (A4 hp' (t - base)).map (D3 fun i=>some (bwd rs base i)) else none)=none:=by
    split
    ·rename_i hc
     cases hl:A4 hp' (t - base) with
     | none=>rfl
     | some _=>exact absurd ⟨hc.1,hc.2,by simp [hl]⟩ hnn
    ·rfl
   constructor
   ·obtain ⟨q0,hq0⟩:∃ q0,A4 st.hp t=some q0:=by
     cases hl:A4 st.hp t with
     | none=>simp [St.sh,hl] at hs
     | some q0=>exact ⟨q0,rfl⟩
    have hct:rs.contains t=true:=by simpa using ht
    show (A4 (K5 rs base hp' st).hp t).map Bc.sh=_
    rw [hlook,hz]
    simp [ht,hq0,hr,Ou]
   ·simp only [Ov]
    rw [if_neg hnn,h'.kap _ (by omega) (by simp [St.sh,hr]),Pv ht hts]
 have hgone:∀ i j q,q5Y rs hp' i=some j→st.sh i=some q→(K5 rs base hp' st).sh j=some q∧Ov μ μ' base hp' j=μ i:=by
  intro i j q hg hs
  unfold q5Y at hg
  split at hg
  ·cases hg
  rename_i hc
  simp only [Option.some.injEq] at hg; subst hg
  have his:A4 st.hp i ≠ none:=fun e=>by simp [St.sh,e] at hs
  have hnn:¬ (base≤i∧i - base<1000000∧A4 hp' (i - base) ≠ none):=fun hc=>his (hnew i hc).1
  have hz:(if base≤i∧i - base<1000000 then (A4 hp' (i - base)).map (D3 fun i=>some (bwd rs base i)) else none)=none:=by
   split
   ·rename_i hc
    cases hl:A4 hp' (i - base) with
    | none=>rfl
    | some _=>exact absurd ⟨hc.1,hc.2,by simp [hl]⟩ hnn
   ·rfl
  refine ⟨?_,by simp only [Ov]; rw [if_neg hnn]⟩
  obtain ⟨q0,hq0⟩:∃ q0,A4 st.hp i=some q0:=by
   cases hl:A4 st.hp i with
   | none=>exact absurd hl his
   | some q0=>exact ⟨q0,rfl⟩
  have hq0s:q0.sh=q:=by simpa [St.sh,hq0] using hs
  by_cases hm:i ∈ rs
  ·have hct:rs.contains i=true:=by simpa using hm
   simp only [hct,Bool.true_and,Bool.not_eq_true,Option.isNone_eq_false_iff,Option.isSome_iff_exists] at hc
   obtain ⟨r,hr⟩:=hc
   obtain ⟨t,ht,he,_,hs'⟩:=hold _ r hr (by omega)
   have:=qHy hm ht (by omega)
   subst this
   have hrs:r.sh=q:=by rw [hs] at hs'; simpa using hs'.symm
   show (A4 (K5 rs base hp' st).hp i).map Bc.sh=_
   rw [hlook,hz]
   simp [hm,hq0,hr,Ou,hrs]
  ·show (A4 (K5 rs base hp' st).hp i).map Bc.sh=_
   rw [hlook,hz]
   simp [hm,hq0,Ou,hq0s]
 -- every region behind the call: a new one, one that came back, one that was not handed over
 have hcase:∀ t r,A4 (K5 rs base hp' st).hp t=some r→(∃ r',base≤t∧t - base<1000000∧A4 hp' (t - base)=some r'∧r=D3 (fun i=>some (bwd rs base i)) r'∧Ov μ μ' base hp' t=μ' (t - base)) ∨
   (t ∈ rs∧st.sh t ≠ none∧Ov μ μ' base hp' t=μ t∧∃ r',A4 hp' (1000000+rs.idxOf t)=some r'∧r=D3 (fun i=>some (bwd rs base i)) r') ∨
   (t ∉ rs∧Ov μ μ' base hp' t=μ t∧∃ q,A4 st.hp t=some q∧r=D3 (q5Y rs hp') q):=by
  intro t r hr
  rw [hlook] at hr
  by_cases hn:base≤t∧t - base<1000000∧A4 hp' (t - base) ≠ none
  ·obtain ⟨r',hr'⟩:∃ r',A4 hp' (t - base)=some r':=by
    cases hl:A4 hp' (t - base) with
    | none=>exact absurd hl hn.2.2
    | some r'=>exact ⟨r',rfl⟩
   rw [if_pos ⟨hn.1,hn.2.1⟩] at hr
   simp only [hr',Option.map_some,Option.some_or,Option.some.injEq] at hr
   exact .inl ⟨r',hn.1,hn.2.1,hr',hr.symm,by simp only [Ov]; rw [if_pos hn]⟩
  ·have hz:(if base≤t∧t - base<1000000 then (A4 hp' (t - base)).map (D3 fun i=>some (bwd rs base i)) else none)=none:=by
    split
    ·rename_i hc
     cases hl:A4 hp' (t - base) with
     | none=>rfl
     | some _=>exact absurd ⟨hc.1,hc.2,by simp [hl]⟩ hn
    ·rfl
   have hbm:Ov μ μ' base hp' t=μ t:=by simp only [Ov]; rw [if_neg hn]
   rw [hz] at hr
   simp only [Option.none_or] at hr
   by_cases hm:t ∈ rs
   ·have hct:rs.contains t=true:=by simpa using hm
    simp only [hct,↓reduceIte,Option.bind_eq_some_iff,Option.map_eq_some_iff] at hr
    obtain ⟨q,hq,r',hr',rfl⟩:=hr
    exact .inr (.inl ⟨hm,by simp [St.sh,hq],hbm,r',hr',rfl⟩)
   ·have hct:rs.contains t=false:=by simpa using hm
    simp only [hct,Bool.false_eq_true,↓reduceIte,Option.map_eq_some_iff] at hr
    obtain ⟨q,hq,rfl⟩:=hr
    exact .inr (.inr ⟨hm,hbm,q,hq,rfl⟩)
 have hshc:∀ t,(K5 rs base hp' st).sh t ≠ none→(∃ r',base≤t∧t - base<1000000∧A4 hp' (t - base)=some r'∧Ov μ μ' base hp' t=μ' (t - base)) ∨
   (t ∈ rs∧st.sh t ≠ none∧Ov μ μ' base hp' t=μ t∧A4 hp' (1000000+rs.idxOf t) ≠ none)∨(t ∉ rs∧st.sh t ≠ none∧Ov μ μ' base hp' t=μ t):=by
  intro t ht
  cases hl:A4 (K5 rs base hp' st).hp t with
  | none=>exact absurd (by simp [St.sh,hl]) ht
  | some r =>
   rcases hcase t r hl with ⟨r',h1,h2,h3,_,h4⟩ | ⟨h1,h2,h3,r',h4,_⟩ | ⟨h1,h2,q,h3,_⟩
   ·exact .inl ⟨r',h1,h2,h3,h4⟩
   ·exact .inr (.inl ⟨h1,h2,h3,by simp [h4]⟩)
   ·exact .inr (.inr ⟨h1,by simp [St.sh,h3],h2⟩)
 have shp:∀ j r,A4 hp' j=some r→St.sh ⟨[],hp'⟩ j ≠ none:=fun j r hr=>by simp [St.sh,hr]
 have hmono:∀ {a:AV} {x:Value} {sh0:Nat→Option Sh} {μ0:Df},AR w X μ0 sh0 a x→AR w' X' μ0 sh0 a x:=fun ha=>ha.mono hsame hX (fun _ _ hq=>⟨hq,rfl⟩)
 refine ⟨⟨?_,?_,?_,?_,?_,h.kbig,h'.xlt,h'.os.trans h.os,h'.tape.trans h.tape,h'.output.trans h.output,Nat.le_trans h.size h'.size,?_⟩,hsame,hbwd⟩
 ·intro t a ht
  have h1:A4 (st.env.map fun p=>(p.1,Be (q5Y rs hp') p.2)) t=(A4 st.env t).map (Be (q5Y rs hp')):=F6 _ _ _
  have ht':A4 (st.env.map fun p=>(p.1,Be (q5Y rs hp') p.2)) t=some a:=ht
  rw [h1,Option.map_eq_some_iff] at ht'
  obtain ⟨b,hb,rfl⟩:=ht'
  exact (hmono (h.env t b hb)).ren hgone
 ·intro t r hr
  rcases hcase t r hr with ⟨r',h1,h2,h3,rfl,h4⟩ | ⟨h1,h2,h3,r',h4,rfl⟩ | ⟨h1,h2,q,h3,rfl⟩
  ·exact (h'.reg _ r' h3).ren (fun i j q hj hs=>by cases hj; exact hbwd i q hs) h4
  ·refine (h'.reg _ r' h4).ren (fun i j q hj hs=>by cases hj; exact hbwd i q hs) ?_
   rw [h3,h'.kap _ (by omega) (shp _ _ h4),Pv h1 h2]
  ·refine ((h.reg t q h3).mono hsame hX (fun _ _ hq=>⟨hq,rfl⟩) rfl fun g n hm=>?_).ren hgone h2
   obtain ⟨h5,h6,h7⟩:=h.loc t g n (by simp [St.sh,h3]) hm
   refine h'.fr g h6 fun id n' hk=>?_
   obtain ⟨t',h8,h9,h10⟩:=Ft hk
   exact h1 (h.inj t t' g n n' (by simp [St.sh,h3]) h9 hm h10 ▸ h8)
 ·intro a b g n n' ha hb hma hmb
  -- an old one's block lies below; a new one's block, if below, was a handed region's that is q5Y
  have hno:∀ t u g n n' r',base≤t→t - base<1000000→A4 hp' (t - base)=some r'→μ' (t - base)=some (g,n)→st.sh u ≠ none→μ u=some (g,n')→(u ∈ rs→A4 hp' (1000000+rs.idxOf u) ≠ none)→False:=by
   intro t u g n n' r' h1 h2 h3 h4 h5 h6 h7
   obtain ⟨_,h8,_⟩:=h.loc u g n' h5 h6
   obtain ⟨id',n2,hk⟩:=(h'.loc (t - base) g n (shp _ _ h3) h4).2.2 h8
   obtain ⟨t',h9,h10,h11⟩:=Ft hk
   have:=h.inj u t' g n' n2 h5 h10 h6 h11
   subst this
   have h12:=h7 h9
   have h13:St.sh ⟨[],hp'⟩ (1000000+rs.idxOf u) ≠ none:=by
    cases hl:A4 hp' (1000000+rs.idxOf u) with
    | none=>exact absurd hl h12
    | some r=>exact shp _ r hl
   have h14:μ' (1000000+rs.idxOf u)=some (g,n'):=by rw [h'.kap _ (by omega) h13,Pv h9 h5]; exact h6
   have:=h'.inj (t - base) (1000000+rs.idxOf u) g n n' (shp _ _ h3) h13 h4 h14
   omega
  rcases hshc a ha with ⟨r',h1,h2,h3,h4⟩ | ⟨h1,h2,h3,h4⟩ | ⟨h1,h2,h3⟩ <;> rcases hshc b hb with ⟨q',k1,k2,k3,k4⟩ | ⟨k1,k2,k3,k4⟩ | ⟨k1,k2,k3⟩
  ·rw [h4] at hma; rw [k4] at hmb
   have:=h'.inj (a - base) (b - base) g n n' (shp _ _ h3) (shp _ _ k3) hma hmb
   omega
  ·rw [h4] at hma; rw [k3] at hmb
   exact (hno a b g n n' r' h1 h2 h3 hma k2 hmb fun _=>k4).elim
  ·rw [h4] at hma; rw [k3] at hmb
   exact (hno a b g n n' r' h1 h2 h3 hma k2 hmb fun hc=>absurd hc k1).elim
  ·rw [h3] at hma; rw [k4] at hmb
   exact (hno b a g n' n q' k1 k2 k3 hmb h2 hma fun _=>h4).elim
  ·rw [h3] at hma; rw [k3] at hmb; exact h.inj a b g n n' h2 k2 hma hmb
  ·rw [h3] at hma; rw [k3] at hmb; exact h.inj a b g n n' h2 k2 hma hmb
  ·rw [h3] at hma; rw [k4] at hmb
   exact (hno b a g n' n q' k1 k2 k3 hmb h2 hma fun hc=>absurd hc h1).elim
  ·rw [h3] at hma; rw [k3] at hmb; exact h.inj a b g n n' h2 k2 hma hmb
  ·rw [h3] at hma; rw [k3] at hmb; exact h.inj a b g n n' h2 k2 hma hmb
 ·intro t g n ht hm
  rcases hshc t ht with ⟨r',h1,h2,h3,h4⟩ | ⟨h1,h2,h3,h4⟩ | ⟨h1,h2,h3⟩
  ·rw [h4] at hm
   obtain ⟨h5,h6,h7⟩:=h'.loc _ g n (shp _ _ h3) hm
   refine ⟨h5,h6,fun hlt=>?_⟩
   obtain ⟨id',n',hk⟩:=h7 (Nat.lt_of_lt_of_le hlt h.size)
   obtain ⟨t',h8,h9,h10⟩:=Ft hk
   exact (h.loc t' g n' h9 h10).2.2 hlt
  ·rw [h3] at hm
   obtain ⟨h5,h6,h7⟩:=h.loc t g n h2 hm
   have h13:St.sh ⟨[],hp'⟩ (1000000+rs.idxOf t) ≠ none:=by
    cases hl:A4 hp' (1000000+rs.idxOf t) with
    | none=>exact absurd hl h4
    | some r=>exact shp _ r hl
   have h14:μ' (1000000+rs.idxOf t)=some (g,n):=by rw [h'.kap _ (by omega) h13,Pv h1 h2]; exact hm
   obtain ⟨h8,h9,_⟩:=h'.loc _ g n h13 h14
   exact ⟨h8,h9,h7⟩
  ·rw [h3] at hm
   obtain ⟨h5,h6,h7⟩:=h.loc t g n h2 hm
   refine ⟨fun hx=>?_,Nat.lt_of_lt_of_le h6 h'.size,h7⟩
   rcases hX' g hx with hx | hx | ⟨id,n',hk⟩
   ·exact h5 hx
   ·omega
   ·obtain ⟨t',h8,h9,h10⟩:=Ft hk
    exact h1 (h.inj t t' g n n' h2 h9 hm h10 ▸ h8)
 ·intro t hbig ht
  rcases hshc t ht with ⟨r',h1,h2,h3,h4⟩ | ⟨h1,h2,h3,h4⟩ | ⟨h1,h2,h3⟩
  ·have:=(hnew t ⟨h1,h2,by simp [h3]⟩).2; omega
  ·rw [h3]; exact h.kap t hbig h2
  ·rw [h3]; exact h.kap t hbig h2
 ·intro k hk hn
  refine (h'.fr k (Nat.lt_of_lt_of_le hk h.size) fun id n hkk=>?_).trans (h.fr k hk hn)
  obtain ⟨t',h8,h9,h10⟩:=Ft hkk
  obtain ⟨id',n',hq⟩:=(h.loc t' k n h9 h10).2.2 hk
  exact hn id' n' hq
theorem Bv.news {base:Nat} {hp':List (Nat × Bc)} (h:Bv w0 B κ X μ st tm w) (h':Bv w w.heap.size (J6 μ st []) X' μ' ⟨[],hp'⟩ #[] w') (hok:okB [] base st.hp hp') (hX:∀ b,X b→X' b)
  (hX':∀ b,X' b→X b∨w.heap.size≤b∨∃ id n,J6 μ st [] id=some (b,n)) :
  Bv w0 B κ X' (Ov μ μ' base hp') ⟨st.env,Lt [] base hp'++st.hp⟩ tm w'∧Rw X w w' ∧
   ∀ i q,St.sh ⟨[],hp'⟩ i=some q→St.sh ⟨st.env,Lt [] base hp'++st.hp⟩ (bwd [] base i)=some q∧Ov μ μ' base hp' (bwd [] base i)=μ' i:=by
 obtain ⟨h2,hsame,hb⟩:=h.back List.nodup_nil h' hok hX hX'
 have hk0:∀ id,J6 μ st [] id=none:=fun id=>by
  unfold J6
  rw [if_neg]
  rintro ⟨_,hlt,_⟩
  simp at hlt
 have hall:∀ k,k<w.heap.size→w'.heap[k]? = w.heap[k]? := fun k hk=>h'.fr k hk fun id n e=>by rw [hk0] at e; cases e
 have hshE:(K5 [] base hp' st).sh=St.sh ⟨st.env,Lt [] base hp'++st.hp⟩:=by
  funext t
  simp only [St.sh,K5,Du,q0Y]
  cases A4 (Lt [] base hp') t with
  | some q=>rfl
  | none =>
   simp only [Option.none_or]
   have:([]:List Nat).contains t=false:=rfl
   rw [this]
   simp only [Bool.false_eq_true,if_false,Option.map_map]
   cases A4 st.hp t with
   | none=>rfl
   | some q=>simp [Ou]
 have hfree:∀ t,base≤t→t - base<1000000→A4 hp' (t - base) ≠ none→A4 st.hp t=none:=by
  intro t h1 h3 h4
  cases hr:A4 hp' (t - base) with
  | none=>exact absurd hr h4
  | some r =>
   have:=q5Z hok hr
   rw [if_pos h3] at this
   have e:base+(t - base)=t:=by omega
   rw [e] at this; exact this.1
 have hold:∀ id q,st.sh id=some q→St.sh ⟨st.env,Lt [] base hp'++st.hp⟩ id=some q∧Ov μ μ' base hp' id=μ id:=by
  intro id q hq
  have hne:A4 st.hp id ≠ none:=fun e=>by simp [St.sh,e] at hq
  have hn:A4 (Lt [] base hp') id=none:=by
   rw [q6Z]
   split
   ·rename_i hc
    cases hl:A4 hp' (id - base) with
    | none=>rfl
    | some r=>exact absurd (hfree id hc.1 hc.2 (by simp [hl])) hne
   ·rfl
  refine ⟨?_,?_⟩
  ·simp only [St.sh,Du,hn,Option.none_or]; exact hq
  ·unfold Ov
   rw [if_neg]
   rintro ⟨h1,h3,h4⟩
   exact hne (hfree id h1 h3 h4)
 refine ⟨⟨fun t a ht=>(h.env t a ht).mono hsame hX hold,fun id r hr=>?_,?_,?_,?_,h2.kbig,h2.xlt,h2.os,h2.tape,h2.output,h2.size,h2.fr⟩,hsame,fun i q hq=>by rw [← hshE]; exact hb i q hq⟩
 ·simp only [Du] at hr
  cases hn:A4 (Lt [] base hp') id with
  | some q =>
   rw [hn] at hr
   simp only [Option.some_or,Option.some.injEq] at hr
   subst hr
   rw [← hshE]
   exact h2.reg id q (by simp only [K5,Du,hn,Option.some_or])
  | none =>
   rw [hn,Option.none_or] at hr
   have hq:st.sh id=some r.sh:=by simp [St.sh,hr]
   refine (h.reg id r hr).mono hsame hX hold (hold id _ hq).2 fun g m hm=>hall g (h.loc id g m (by simp [hq]) hm).2.1
 ·rw [← hshE]; exact h2.inj
 ·rw [← hshE]; exact h2.loc
 ·rw [← hshE]; exact h2.kap
theorem Bv.looked {rs:List Nat} (hnd:rs.Nodup) (hsl:∀ i ∈ rs,∃ ty s es,A4 st.hp i=some (.sl ty s es)) (h:Bv w0 B κ X μ st tm w) (h':Bv w w.heap.size (J6 μ st rs) X' μ' ⟨[],Fg rs st.hp⟩ #[] w') (hX:∀ b,X b→X' b)
  (hX':∀ b,X' b→X b∨w.heap.size≤b∨∃ id n,J6 μ st rs id=some (b,n)) :
  Bv w0 B κ X' μ st tm w'∧Rw X w w'∧∀ i q,St.sh ⟨[],Fg rs st.hp⟩ i=some q→st.sh (bwd rs 0 i)=some q∧μ (bwd rs 0 i)=μ' i:=by
 have hsame:Rw X w w':=by
  intro b hb
  refine h'.fr b (h.xlt b hb) fun id n hk=>?_
  obtain ⟨t,_,h2,h3⟩:=Ft hk
  exact (h.loc t b n h2 h3).1 hb
 have hshr:∀ t ∈ rs,∃ q,st.sh t=some q:=fun t ht=>by
  obtain ⟨ty,s,es,hl⟩:=hsl t ht
  exact ⟨_,by simp [St.sh,hl]; rfl⟩
 have hat:∀ t ∈ rs,μ' (1000000+rs.idxOf t)=μ t:=fun t ht=>by
  obtain ⟨q,hq⟩:=hshr t ht
  rw [h'.kap _ (by omega) (by rw [Ys ht hq]; simp),Pv ht (by simp [hq])]
 have hxn:∀ t ∈ rs,∀ g n,μ t=some (g,n)→¬ X' g:=fun t ht g n hm=>by
  obtain ⟨q,hq⟩:=hshr t ht
  exact (h'.loc (1000000+rs.idxOf t) g n (by rw [Ys ht hq]; simp) (by rw [hat t ht]; exact hm)).1
 refine ⟨⟨fun t a ht=>(h.env t a ht).mono hsame hX fun _ _ hq=>⟨hq,rfl⟩,fun id r hr=>?_,h.inj,fun id g n hs hm=>?_,h.kap,h.kbig,h'.xlt,h'.os.trans h.os,h'.tape.trans h.tape,h'.output.trans h.output,Nat.le_trans h.size h'.size,fun k hk hn=>?_⟩,hsame,fun i q hq=>?_⟩
 ·by_cases hid:id ∈ rs
  ·obtain ⟨ty,s,es,hl⟩:=hsl id hid
   rw [hl] at hr
   simp only [Option.some.injEq] at hr
   subst hr
   have hh:=q8O (hp:=st.hp) hid hl
   have:=h'.reg _ _ hh
   simp only [D3,Oq,hat id hid] at this ⊢
   exact this
  ·have hq:st.sh id=some r.sh:=by simp [St.sh,hr]
   refine (h.reg id r hr).mono hsame hX (fun _ _ hq=>⟨hq,rfl⟩) rfl fun g m hm=>?_
   refine h'.fr g (h.loc id g m (by simp [hq]) hm).2.1 fun id' n hk=>?_
   obtain ⟨t,ht,h2,h3⟩:=Ft hk
   have:=h.inj id t g m n (by simp [hq]) h2 hm h3
   subst this
   exact hid ht
 ·obtain ⟨h1,h2,h3⟩:=h.loc id g n hs hm
  refine ⟨fun hx=>?_,Nat.lt_of_lt_of_le h2 h'.size,h3⟩
  rcases hX' g hx with hx' | hx' | ⟨id',n',hk⟩
  ·exact h1 hx'
  ·omega
  ·obtain ⟨t,ht,h4,h5⟩:=Ft hk
   exact hxn t ht g n' h5 hx
 ·rw [h'.fr k (Nat.lt_of_lt_of_le hk h.size) fun id n e=>?_]
  ·exact h.fr k hk hn
  ·obtain ⟨t,ht,h4,h5⟩:=Ft e
   obtain ⟨id',n',hq⟩:=(h.loc t k n h4 h5).2.2 hk
   exact hn id' n' hq
 ·obtain ⟨t,ht,rfl,hs⟩:=Yt (by rw [hq]; simp)
  obtain ⟨q0,hq0⟩:=hshr t ht
  have hb:bwd rs 0 (1000000+rs.idxOf t)=t:=by
   have hi:rs.idxOf t<rs.length:=List.idxOf_lt_length_iff.2 ht
   unfold bwd
   rw [if_neg (by omega),Nat.add_sub_cancel_left,q5a hi,List.getElem_idxOf]
  rw [hb,hat t ht]
  have:=Ys ht hq0
  rw [hq] at this
  exact ⟨by rw [hq0,this],rfl⟩
end
end Go.Lg
namespace Go.Lg
open Go
def q4d (P:Program) (Γ:Tables) (hp:List (Nat × Bc)) (f:FuncId) (as:List AV) (res:T):Prop :=
 (∃ ts,Ai (as.map toT)=some ts∧Ae P Γ f ts res)∨∃ ts,Ai (as.map (Aj hp 4))=some ts∧A6 P Γ f ts res
def qAq:AV→Option (FuncId × List AV)
 | .t (.fn f cs)=>some (f,cs.map .t)
 | .fn f cs=>some (f,cs)
 | _=>none
def Fh (P:Program) (Γ:Tables) (d:Nat) (io:Ce) (st:St) (r:AV) (st1:St):Prop :=
 match io with
 | .call f args=>∃ as res,evs Γ st.env args=some as∧q4d P Γ st.hp f as res∧r=.t res∧st1=st
 | .callv x args=>∃ a f cs as res,ev Γ st.env x=some a∧qAq a=some (f,cs)∧evs Γ st.env args=some as∧q4d P Γ st.hp f (as++cs) res∧r=.t res∧st1=st
 | .hcall f args rs base=>∃ as res hp',evs Γ st.env args=some as∧rs.Nodup∧F9 P Γ f (Fg rs st.hp) (as.map (Be (fwd rs))) res hp'∧okB rs base st.hp hp'∧r=Be (fun i=>some (bwd rs base i)) res∧st1=K5 rs base hp' st
 | .hcallv x args rs base=>∃ a f cs as res hp',ev Γ st.env x=some a∧qAq a=some (f,cs)∧evs Γ st.env args=some as∧rs.Nodup∧F9 P Γ f (Fg rs st.hp) ((as++cs).map (Be (fwd rs))) res hp'∧okB rs base st.hp hp'∧r=Be (fun i=>some (bwd rs base i)) res∧st1=K5 rs base hp' st
 | .ncall f args base=>∃ as res hp',evs Γ st.env args=some as∧F9 P Γ f [] (as.map (Be (fwd []))) res hp'∧okB [] base st.hp hp'∧r=Be (fun i=>some (bwd [] base i)) res∧st1=⟨st.env,Lt [] base hp'++st.hp⟩
 | .callT f args=>∃ as ts res,evs Γ st.env args=some as∧Ai (as.map toT)=some ts∧(Ae P Γ f ts res∨A6 P Γ f ts res)∧r=.t res∧st1=st
 | .rcall f args rs=>∃ as res,evs Γ st.env args=some as∧rs.Nodup∧(∀ i ∈ rs,∃ ty s es,A4 st.hp i=some (.sl ty s es))∧F9 P Γ f (Fg rs st.hp) (as.map (Be (fwd rs))) res (Fg rs st.hp)∧r=Be (fun i=>some (bwd rs 0 i)) res∧st1=st
 | io=>∃ c,Ap Γ d io st=some (c,r,st1)∧c
def Gt (env:List (Nat × AV)):Option (Nat × Bool)→Option Bool
 | none=>some true
 | some (g,b)=>match A4 env g with
  | some (.t (.v (.bool p)))=>some (p == b)
  | some .un=>some false
  | _=>none
def Gi (P:Program) (Γ:Tables) (ro:RO) (st st2:St):Prop :=
 (Gt st.env ro.guard=some true∧∃ r st1,Fh P Γ ro.d ro.op st r st1∧st2=st1.put ro.dst r)∨(Gt st.env ro.guard=some false∧st2=st.put ro.dst .un)
def Px (P:Program) (Γ:Tables):List RO→St→St→Prop
 | [],st,st2=>st2=st
 | ro::ros,st,st2=>∃ st1,Gi P Γ ro st st1∧Px P Γ ros st1 st2
def q8P (P:Program) (N:Nat) (ops:List Oper) (ro:RO) (o:Oper):Bool :=
 decide (ro.dst=o.dst) && Pj P ro.op o.op && ro.op.opds.all Am && (match ro.dst with | some d=>decide (d<N) | none=>true) && decide (ro.d<1000000) &&
 match ro.guard,o.guard with
 | none,none=>true
 | some (g,b),some (j,b')=>b == b' && decide ((ops[j]?).bind (·.dst)=some g)
 | _,_=>false
def Wy (Γ:Tables) (w0:World) (B:Nat) (κ:Df) (X0:Nat→Prop) (N:Nat) (st:St) (a:Act) (w:World):Prop :=
 ∃ X μ,Bv w0 B κ X μ st a.tmps w∧Gl Γ w X∧(∀ b,X0 b→X b)∧(∀ b,X b→X0 b∨B≤b∨∃ id n,κ id=some (b,n))∧a.tmps.size=N∧a.defers=[]
section
variable {P:Program} {Γ:Tables} {w0:World} {B:Nat} {κ:Df} {X0 X:Nat→Prop} {μ:Df} {st st1:St} {tm:Array Value} {w:World} {N:Nat} {a:Act} {o:Oper} {K:Act→World→Prop} {Q:Exit→Act→World→Prop}
theorem qHz {a:Act} (h:a.defers=[]):a=⟨a.tmps,[]⟩:=by cases a; simp at h; subst h; rfl
theorem q4e (h:Bv w0 B κ X μ st a.tmps w) (hsz:a.tmps.size=N) {d:Option Nat} (hd:∀ t,d=some t→t<N) {r:AV} {v:Value} (hv:AR w X μ st.sh r v):Bv w0 B κ X μ (st.put d r) (a.put d v).tmps w∧(a.put d v).tmps.size=N∧(a.put d v).defers=a.defers:=by
 cases d with
 | none=>exact ⟨h,hsz,rfl⟩
 | some t =>
  refine ⟨h.put (by rw [hsz]; exact hd t rfl) hv,?_,rfl⟩
  simp [Act.put,hsz]
theorem q1O {hp:List (Nat × Bc)}:∀ {as:List AV} {xs:List Value} {ts:List T},J5 w X μ st.sh as xs→Ai (as.map toT)=some ts→F5 w X ts xs
 | [],xs,ts,h,ho=>by
  simp only [List.map_nil,Ai,Option.some.injEq] at ho
  subst ho; rw [h.nil_inv]; exact F5.nil _ _
 | c::cs,xs,ts,h,ho=>by
  obtain ⟨x,ys,rfl,hx,hs⟩:=h.cons_inv
  simp only [List.map_cons] at ho
  cases hc:toT c with
  | none=>rw [hc] at ho; simp [Ai] at ho
  | some t =>
   rw [hc] at ho
   simp only [Ai,Option.map_eq_some_iff] at ho
   obtain ⟨ts',ho',rfl⟩:=ho
   exact F5.cons (q8K hx hc) (q1O (hp:=hp) hs ho')
theorem q9y {f:FuncId} {as:List AV} {xs:List Value} {res:T} (h:Bv w0 B κ X μ st tm w) (hg:Gl Γ w X) (has:J5 w X μ st.sh as xs) (hc:q4d P Γ st.hp f as res) :
  q09 P f xs.toArray w fun v w'=>RowKit.Below w.heap.size w w'∧TR w' (fun b=>X b∨(w.heap.size≤b∧b<w'.heap.size)) res v:=by
 rcases hc with ⟨ts,hts,hp⟩ | ⟨ts,hts,hp⟩
 ·exact hp w X xs hg h.xlt (q1O (hp:=st.hp) has hts)
 ·have h1:=S1 has (fun c _ t x hc hf=>q8N h 4 hc hf) hts
  refine (hp w (fun b=>X b∨qAp st μ b) xs (hg.mono (fun _ _=>rfl) (fun _ hb=>.inl hb)) (fun b hb=>?_) h1).mono fun v w' ⟨hb,ht⟩=>⟨hb,ht.mono (fun _ _=>rfl) (fun _ hb=>.inr hb)⟩
  rcases hb with hb | ⟨id,n,hi,hm⟩
  ·exact h.xlt b hb
  ·exact (h.loc id b n hi hm).2.1
theorem qD6 {f:FuncId} {as:List AV} {ts:List T} {xs:List Value} {res:T} (h:Bv w0 B κ X μ st tm w) (hg:Gl Γ w X) (has:J5 w X μ st.sh as xs) (hts:Ai (as.map toT)=some ts) (hc:Ae P Γ f ts res∨A6 P Γ f ts res) :
  q09 P f xs.toArray w fun v w'=>RowKit.Below w.heap.size w w'∧TR w' (fun b=>X b∨(w.heap.size≤b∧b<w'.heap.size)) res v:=by
 rcases hc with hp | hp
 ·exact hp w X xs hg h.xlt (q1O (hp:=st.hp) has hts)
 ·exact (hp w X xs hg h.xlt (q1O (hp:=st.hp) has hts)).mono fun v w' ⟨hb,ht⟩=>⟨hb,ht.mono (fun _ _=>rfl) (fun _ hb=>.inr hb)⟩
theorem qD7 {f:FuncId} {xs:List Value} {res:T} (hsim:Bv w0 B κ X μ st a.tmps w) (hg:Gl Γ w X) (h0:∀ b,X0 b→X b) (hbd:∀ b,X b→X0 b∨B≤b∨∃ id n,κ id=some (b,n)) (hsz:a.tmps.size=N) (hds:a.defers=[]) (hd:∀ t,o.dst=some t→t<N)
  (hrun:(execOp a.eval o).run P w=(callFunc f xs.toArray).run P w)
  (hr:q09 P f xs.toArray w fun v w'=>RowKit.Below w.heap.size w w'∧TR w' (fun b=>X b∨(w.heap.size≤b∧b<w'.heap.size)) res v)
  (hK:∀ a' w',Wy Γ w0 B κ X0 N (st.put o.dst (.t res)) a' w'→K a' w'):o.wp P a w K Q:=by
 have fin:∀ v w',RowKit.Below w.heap.size w w'→TR w' (fun b=>X b∨(w.heap.size≤b∧b<w'.heap.size)) res v→K (a.put o.dst v) w':=by
  intro v w' hb ht
  have hs2:=hsim.grow (X':=fun b=>X b∨(w.heap.size≤b∧b<w'.heap.size)) hb (fun _ hx=>.inl hx) (fun _ hx=>hx)
  obtain ⟨h1,h2,h3⟩:=q4e hs2 hsz hd (AR.t _ _ ht)
  refine hK _ _ ⟨_,_,h1,hg.mono (fun b hx=>hb.block b (hsim.xlt b hx)) (fun _ hx=>.inl hx),fun b hx=>.inl (h0 b hx),fun b hx=>?_,h2,h3.trans hds⟩
  rcases hx with hx | hx
  ·exact hbd b hx
  ·exact .inr (.inl (Nat.le_trans hsim.size hx.1))
 unfold Oper.wp
 rcases hr with ⟨hr1,hr2⟩ | ⟨v,hr1,hb,ht⟩
 ·rw [hrun,hr1,Oper.upon_enter]
  exact hr2.mono fun e w' ⟨v,he,hb,ht⟩=>by subst he; exact fin v w' hb ht
 ·rw [hrun,hr1,Oper.upon_value]
  exact fin v w hb ht
theorem qD8 {ro:RO} {ops:List Oper} {r:AV} (hI:Wy Γ w0 B κ X0 N st a w) (hN:N≤1000000) (hchk:q8P P N ops ro o=true) (hx:Fh P Γ ro.d ro.op st r st1) (hK:∀ a' w',Wy Γ w0 B κ X0 N (st1.put ro.dst r) a' w'→K a' w'):o.wp P a w K Q:=by
 obtain ⟨X,μ,hsim,hg,h0,hbd,hsz,hds⟩:=hI
 simp only [q8P,Bool.and_eq_true,decide_eq_true_eq] at hchk
 obtain ⟨⟨⟨⟨⟨hdst,hch⟩,hok⟩,hdn⟩,hd1⟩,_⟩:=hchk
 have hd:∀ t,o.dst=some t→t<N:=fun t ht=>by
  rw [← hdst] at ht
  rw [ht] at hdn
  simpa using hdn
 have hae:a.eval=Act.eval ⟨a.tmps,[]⟩:=by rw [← qHz hds]
 have plain:(∃ c,Ap Γ ro.d ro.op st=some (c,r,st1)∧c)→o.wp P a w K Q:=by
  rintro ⟨c,hs,hc⟩
  obtain ⟨nx,v,w',μ',X',hrun,hnx,hsim',har,hX,hsame,hX'⟩:=qF6 (ds:=[]) hsim hg hch hok hd1 hs hc
  unfold Oper.wp
  rw [hae,hrun]
  obtain ⟨h1,h2,h3⟩:=q4e hsim' hsz hd har
  have hfin:K (a.put o.dst v) w':=hK _ _ ⟨X',μ',by rw [hdst]; exact h1,hg.mono hsame hX,fun b hb=>hX b (h0 b hb),fun b hb=>by
   rcases hX' b hb with hb | hb
   ·exact hbd b hb
   ·exact .inr hb,h2,h3.trans hds⟩
  rcases hnx with rfl | ⟨rfl,rfl⟩
  ·exact hfin
  ·exact hfin
 have callee:∀ (f:FuncId) (xs:List Value) (res:T),(execOp a.eval o).run P w=(callFunc f xs.toArray).run P w→r=.t res→st1=st →
   q09 P f xs.toArray w (fun v w'=>RowKit.Below w.heap.size w w'∧TR w' (fun b=>X b∨(w.heap.size≤b∧b<w'.heap.size)) res v)→o.wp P a w K Q:=by
  rintro f xs res hrun rfl rfl hr
  exact qD7 hsim hg h0 hbd hsz hds hd hrun hr (by rw [← hdst]; exact hK)
 cases hop:ro.op with
 | hcall f args rs base =>
  rw [hop] at hx hch hok
  obtain ⟨as,res,hp',has,hnd,hcall,hokB,rfl,rfl⟩:=hx
  have hars:=M7 (ds:=[]) hsim hg has (by simpa [Ce.opds] using hok)
  have hrun:(execOp a.eval o).run P w=(callFunc f (args.map (Act.eval ⟨a.tmps,[]⟩)).toArray).run P w:=by
   generalize hoo:o.op=op at hch
   simp only [Pj] at hch
   split at hch
   case h_2=>cases hch
   split at hch
   case h_2=>cases hch
   rename_i c f' hcal
   simp only [Bool.and_eq_true] at hch
   have hf:f=f':=by simpa using hch.1
   subst hf
   have:=N9 hch.2; subst this
   rw [hae]
   rw [← Array.toList_map,Array.toArray_toList]
   simp [execOp,hoo,resolve,hcal,Deferred.ofValue,Act.eval,invoke]
  have hr:=hcall w X (J6 μ st rs) (args.map (Act.eval ⟨a.tmps,[]⟩)) hg (fun id hi=>by
   cases hk:J6 μ st rs id with
   | none=>exact absurd hk hi
   | some l =>
    unfold J6 at hk
    split at hk
    ·rename_i hc
     have e0:=q5a hc.2.1
     have hm:rs.getD (id - 1000000) 0 ∈ rs:=by rw [e0]; exact List.getElem_mem _
     have hidx:rs.idxOf (rs.getD (id - 1000000) 0)=id - 1000000:=by rw [e0,hnd.idxOf_getElem]
     obtain ⟨q,hq⟩:∃ q,st.sh (rs.getD (id - 1000000) 0)=some q:=by
      cases he:st.sh (rs.getD (id - 1000000) 0) with
      | none=>exact absurd he hc.2.2
      | some q=>exact ⟨q,rfl⟩
     have:=Ys hm hq
     rw [hidx] at this
     have e:1000000+(id - 1000000)=id:=by have:=hc.1; omega
     rw [e] at this
     intro hn
     simp only [St.sh,hn,Option.map_none,reduceCtorEq] at this
    ·cases hk) (hsim.hand rs) (q3V hsim hars)
  have fin:∀ v w',(∃ X' μ',Bv w w.heap.size (J6 μ st rs) X' μ' ⟨[],hp'⟩ #[] w'∧AR w' X' μ' (St.sh ⟨[],hp'⟩) res v∧(∀ b,X b→X' b)∧(∀ b,X' b→X b∨w.heap.size≤b∨∃ id n,J6 μ st rs id=some (b,n)))→K (a.put o.dst v) w':=by
   rintro v w' ⟨X',μ',hs',hav,hX,hX'⟩
   obtain ⟨hs2,hsame,hbw⟩:=hsim.back hnd hs' hokB hX hX'
   obtain ⟨h1,h2,h3⟩:=q4e hs2 hsz hd (hav.ren (φ:=fun i=>some (bwd rs base i)) fun i j q hj hs=>by simp only [Option.some.injEq] at hj; subst hj; exact hbw i q hs)
   refine hK _ _ ⟨X',_,by rw [hdst]; exact h1,hg.mono hsame hX,fun b hb=>hX b (h0 b hb),fun b hb=>?_,h2,h3.trans hds⟩
   rcases hX' b hb with hb | hb | ⟨id,n,hk⟩
   ·exact hbd b hb
   ·exact .inr (.inl (Nat.le_trans hsim.size hb))
   ·obtain ⟨t',h8,h9,h10⟩:=Ft hk
    rcases Nat.lt_or_ge b B with hlt | hge
    ·obtain ⟨id',n',hq⟩:=(hsim.loc t' b n h9 h10).2.2 hlt
     exact .inr (.inr ⟨id',n',hq⟩)
    ·exact .inr (.inl hge)
  unfold Oper.wp
  rcases hr with ⟨hr1,hr2⟩ | ⟨v,hr1,hp⟩
  ·rw [hrun,hr1,Oper.upon_enter]
   exact hr2.mono fun e w' ⟨v,he,hp⟩=>by subst he; exact fin v w' hp
  ·rw [hrun,hr1,Oper.upon_value]
   exact fin v w hp
 | hcallv x args rs base =>
  rw [hop] at hx hch hok
  obtain ⟨av,f,cs,as,res,hp',hxv,hfn,has,hnd,hcall,hokB,rfl,rfl⟩:=hx
  simp only [Ce.opds,List.all_cons,Bool.and_eq_true] at hok
  have hars0:=M7 (ds:=[]) hsim hg has hok.2
  have harx:=B9 (ds:=[]) hsim hg hxv hok.1
  have hfv:∃ ys:List Value,Act.eval ⟨a.tmps,[]⟩ x=.func (.func f) #[] ys.toArray∧J5 w X μ st.sh cs ys:=by
   unfold qAq at hfn
   split at hfn
   ·simp only [Option.some.injEq,Prod.mk.injEq] at hfn
    obtain ⟨rfl,rfl⟩:=hfn
    generalize hev:Act.eval ⟨a.tmps,[]⟩ x=v at harx
    cases harx.t_inv with
    | fn f cs xs hlen hrel=>exact ⟨xs,rfl,J5.ofT ⟨hlen,hrel⟩⟩
   ·simp only [Option.some.injEq,Prod.mk.injEq] at hfn
    obtain ⟨rfl,rfl⟩:=hfn
    generalize hev:Act.eval ⟨a.tmps,[]⟩ x=v at harx
    cases harx with
    | fn f cs xs hlen hrel=>exact ⟨xs,rfl,hlen,hrel⟩
   ·cases hfn
  obtain ⟨ys,hy,hys⟩:=hfv
  have hars:=hars0.append hys
  have hrun:(execOp a.eval o).run P w=(callFunc f (args.map (Act.eval ⟨a.tmps,[]⟩)++ys).toArray).run P w:=by
   generalize hoo:o.op=op at hch
   simp only [Pj] at hch
   split at hch
   case h_2=>cases hch
   split at hch
   case h_2=>cases hch
   rename_i cc c y hcal
   simp only [Bool.and_eq_true] at hch
   have:=Ak hch.1; subst this
   have:=N9 hch.2; subst this
   rw [hae]
   rw [show (List.map (Act.eval ⟨a.tmps,[]⟩) cc.args.toList++ys).toArray=cc.args.map (Act.eval ⟨a.tmps,[]⟩)++ys.toArray from by simp]
   simp [execOp,hoo,resolve,hcal,Deferred.ofValue,hy,invoke]
  have hr:=hcall w X (J6 μ st rs) (args.map (Act.eval ⟨a.tmps,[]⟩)++ys) hg (fun id hi=>by
   cases hk:J6 μ st rs id with
   | none=>exact absurd hk hi
   | some l =>
    unfold J6 at hk
    split at hk
    ·rename_i hc
     have e0:=q5a hc.2.1
     have hm:rs.getD (id - 1000000) 0 ∈ rs:=by rw [e0]; exact List.getElem_mem _
     have hidx:rs.idxOf (rs.getD (id - 1000000) 0)=id - 1000000:=by rw [e0,hnd.idxOf_getElem]
     obtain ⟨q,hq⟩:∃ q,st.sh (rs.getD (id - 1000000) 0)=some q:=by
      cases he:st.sh (rs.getD (id - 1000000) 0) with
      | none=>exact absurd he hc.2.2
      | some q=>exact ⟨q,rfl⟩
     have:=Ys hm hq
     rw [hidx] at this
     have e:1000000+(id - 1000000)=id:=by have:=hc.1; omega
     rw [e] at this
     intro hn
     simp only [St.sh,hn,Option.map_none,reduceCtorEq] at this
    ·cases hk) (hsim.hand rs) (q3V hsim hars)
  have fin:∀ v w',(∃ X' μ',Bv w w.heap.size (J6 μ st rs) X' μ' ⟨[],hp'⟩ #[] w'∧AR w' X' μ' (St.sh ⟨[],hp'⟩) res v∧(∀ b,X b→X' b)∧(∀ b,X' b→X b∨w.heap.size≤b∨∃ id n,J6 μ st rs id=some (b,n)))→K (a.put o.dst v) w':=by
   rintro v w' ⟨X',μ',hs',hav,hX,hX'⟩
   obtain ⟨hs2,hsame,hbw⟩:=hsim.back hnd hs' hokB hX hX'
   obtain ⟨h1,h2,h3⟩:=q4e hs2 hsz hd (hav.ren (φ:=fun i=>some (bwd rs base i)) fun i j q hj hs=>by simp only [Option.some.injEq] at hj; subst hj; exact hbw i q hs)
   refine hK _ _ ⟨X',_,by rw [hdst]; exact h1,hg.mono hsame hX,fun b hb=>hX b (h0 b hb),fun b hb=>?_,h2,h3.trans hds⟩
   rcases hX' b hb with hb | hb | ⟨id,n,hk⟩
   ·exact hbd b hb
   ·exact .inr (.inl (Nat.le_trans hsim.size hb))
   ·obtain ⟨t',h8,h9,h10⟩:=Ft hk
    rcases Nat.lt_or_ge b B with hlt | hge
    ·obtain ⟨id',n',hq⟩:=(hsim.loc t' b n h9 h10).2.2 hlt
     exact .inr (.inr ⟨id',n',hq⟩)
    ·exact .inr (.inl hge)
  unfold Oper.wp
  rcases hr with ⟨hr1,hr2⟩ | ⟨v,hr1,hp⟩
  ·rw [hrun,hr1,Oper.upon_enter]
   exact hr2.mono fun e w' ⟨v,he,hp⟩=>by subst he; exact fin v w' hp
  ·rw [hrun,hr1,Oper.upon_value]
   exact fin v w hp
 | ncall f args base =>
  rw [hop] at hx hch hok
  obtain ⟨as,res,hp',has,hcall,hokB,rfl,rfl⟩:=hx
  have hars:=M7 (ds:=[]) hsim hg has (by simpa [Ce.opds] using hok)
  have hrun:(execOp a.eval o).run P w=(callFunc f (args.map (Act.eval ⟨a.tmps,[]⟩)).toArray).run P w:=by
   generalize hoo:o.op=op at hch
   simp only [Pj] at hch
   split at hch
   case h_2=>cases hch
   split at hch
   case h_2=>cases hch
   rename_i c f' hcal
   simp only [Bool.and_eq_true] at hch
   have hf:f=f':=by simpa using hch.1
   subst hf
   have:=N9 hch.2; subst this
   rw [hae]
   rw [← Array.toList_map,Array.toArray_toList]
   simp [execOp,hoo,resolve,hcal,Deferred.ofValue,Act.eval,invoke]
  have hk0:∀ id,J6 μ st [] id=none:=fun id=>by
   unfold J6
   rw [if_neg]
   rintro ⟨_,hlt,_⟩
   simp at hlt
  have hr:=hcall w X (J6 μ st []) (args.map (Act.eval ⟨a.tmps,[]⟩)) hg (fun id hi=>absurd (hk0 id) hi) (hsim.hand []) (q3V hsim hars)
  have fin:∀ v w',(∃ X' μ',Bv w w.heap.size (J6 μ st []) X' μ' ⟨[],hp'⟩ #[] w'∧AR w' X' μ' (St.sh ⟨[],hp'⟩) res v∧(∀ b,X b→X' b)∧(∀ b,X' b→X b∨w.heap.size≤b∨∃ id n,J6 μ st [] id=some (b,n)))→K (a.put o.dst v) w':=by
   rintro v w' ⟨X',μ',hs',hav,hX,hX'⟩
   obtain ⟨hs2,hsame,hbw⟩:=hsim.news hs' hokB hX hX'
   obtain ⟨h1,h2,h3⟩:=q4e hs2 hsz hd (hav.ren (φ:=fun i=>some (bwd [] base i)) fun i j q hj hs=>by simp only [Option.some.injEq] at hj; subst hj; exact hbw i q hs)
   refine hK _ _ ⟨X',_,by rw [hdst]; exact h1,hg.mono hsame hX,fun b hb=>hX b (h0 b hb),fun b hb=>?_,h2,h3.trans hds⟩
   rcases hX' b hb with hb | hb | ⟨id,n,hk⟩
   ·exact hbd b hb
   ·exact .inr (.inl (Nat.le_trans hsim.size hb))
   ·rw [hk0] at hk; cases hk
  unfold Oper.wp
  rcases hr with ⟨hr1,hr2⟩ | ⟨v,hr1,hp⟩
  ·rw [hrun,hr1,Oper.upon_enter]
   exact hr2.mono fun e w' ⟨v,he,hp⟩=>by subst he; exact fin v w' hp
  ·rw [hrun,hr1,Oper.upon_value]
   exact fin v w hp
 | rcall f args rs =>
  rw [hop] at hx hch hok
  obtain ⟨as,res,has,hnd,hsl,hcall,rfl,hst⟩:=hx
  have hst:=hst.symm
  subst hst
  have hars:=M7 (ds:=[]) hsim hg has (by simpa [Ce.opds] using hok)
  have hrun:(execOp a.eval o).run P w=(callFunc f (args.map (Act.eval ⟨a.tmps,[]⟩)).toArray).run P w:=by
   generalize hoo:o.op=op at hch
   simp only [Pj] at hch
   split at hch
   case h_2=>cases hch
   split at hch
   case h_2=>cases hch
   rename_i c f' hcal
   simp only [Bool.and_eq_true] at hch
   have hf:f=f':=by simpa using hch.1
   subst hf
   have:=N9 hch.2; subst this
   rw [hae]
   rw [← Array.toList_map,Array.toArray_toList]
   simp [execOp,hoo,resolve,hcal,Deferred.ofValue,Act.eval,invoke]
  have hr:=hcall w X (J6 μ st rs) (args.map (Act.eval ⟨a.tmps,[]⟩)) hg (fun id hi=>by
   cases hk:J6 μ st rs id with
   | none=>exact absurd hk hi
   | some l =>
    unfold J6 at hk
    split at hk
    ·rename_i hc
     have e0:=q5a hc.2.1
     have hm:rs.getD (id - 1000000) 0 ∈ rs:=by rw [e0]; exact List.getElem_mem _
     have hidx:rs.idxOf (rs.getD (id - 1000000) 0)=id - 1000000:=by rw [e0,hnd.idxOf_getElem]
     obtain ⟨q,hq⟩:∃ q,st.sh (rs.getD (id - 1000000) 0)=some q:=by
      cases he:st.sh (rs.getD (id - 1000000) 0) with
      | none=>exact absurd he hc.2.2
      | some q=>exact ⟨q,rfl⟩
     have:=Ys hm hq
     rw [hidx] at this
     have e:1000000+(id - 1000000)=id:=by have:=hc.1; omega
     rw [e] at this
     intro hn
     simp only [St.sh,hn,Option.map_none,reduceCtorEq] at this
    ·cases hk) (hsim.hand rs) (q3V hsim hars)
  have fin:∀ v w',(∃ X' μ',Bv w w.heap.size (J6 μ st rs) X' μ' ⟨[],Fg rs st.hp⟩ #[] w'∧AR w' X' μ' (St.sh ⟨[],Fg rs st.hp⟩) res v∧(∀ b,X b→X' b)∧(∀ b,X' b→X b∨w.heap.size≤b∨∃ id n,J6 μ st rs id=some (b,n)))→K (a.put o.dst v) w':=by
   rintro v w' ⟨X',μ',hs',hav,hX,hX'⟩
   obtain ⟨hs2,hsame,hbw⟩:=hsim.looked hnd hsl hs' hX hX'
   obtain ⟨h1,h2,h3⟩:=q4e hs2 hsz hd (hav.ren (φ:=fun i=>some (bwd rs 0 i)) fun i j q hj hs=>by simp only [Option.some.injEq] at hj; subst hj; exact hbw i q hs)
   refine hK _ _ ⟨X',_,by rw [hdst]; exact h1,hg.mono hsame hX,fun b hb=>hX b (h0 b hb),fun b hb=>?_,h2,h3.trans hds⟩
   rcases hX' b hb with hb | hb | ⟨id,n,hk⟩
   ·exact hbd b hb
   ·exact .inr (.inl (Nat.le_trans hsim.size hb))
   ·obtain ⟨t',h8,h9,h10⟩:=Ft hk
    rcases Nat.lt_or_ge b B with hlt | hge
    ·obtain ⟨id',n',hq⟩:=(hsim.loc t' b n h9 h10).2.2 hlt
     exact .inr (.inr ⟨id',n',hq⟩)
    ·exact .inr (.inl hge)
  unfold Oper.wp
  rcases hr with ⟨hr1,hr2⟩ | ⟨v,hr1,hp⟩
  ·rw [hrun,hr1,Oper.upon_enter]
   exact hr2.mono fun e w' ⟨v,he,hp⟩=>by subst he; exact fin v w' hp
  ·rw [hrun,hr1,Oper.upon_value]
   exact fin v w hp
 | callT f args =>
  rw [hop] at hx hch hok
  obtain ⟨as,ts,res,has,hts,hcall,hr,hst⟩:=hx
  have hars:=M7 (ds:=[]) hsim hg has (by simpa [Ce.opds] using hok)
  refine callee f (args.map (Act.eval ⟨a.tmps,[]⟩)) res ?_ hr hst (qD6 hsim hg hars hts hcall)
  generalize hoo:o.op=op at hch
  simp only [Pj] at hch
  split at hch
  case h_2=>cases hch
  split at hch
  case h_2=>cases hch
  rename_i c f' hcal
  simp only [Bool.and_eq_true] at hch
  have hf:f=f':=by simpa using hch.1
  subst hf
  have:=N9 hch.2; subst this
  rw [hae]
  rw [← Array.toList_map,Array.toArray_toList]
  simp [execOp,hoo,resolve,hcal,Deferred.ofValue,Act.eval,invoke]
 | call f args =>
  rw [hop] at hx hch hok
  obtain ⟨as,res,has,hcall,hr,hst⟩:=hx
  have hars:=M7 (ds:=[]) hsim hg has (by simpa [Ce.opds] using hok)
  refine callee f (args.map (Act.eval ⟨a.tmps,[]⟩)) res ?_ hr hst (q9y hsim hg hars hcall)
  generalize hoo:o.op=op at hch
  simp only [Pj] at hch
  split at hch
  case h_2=>cases hch
  split at hch
  case h_2=>cases hch
  rename_i c f' hcal
  simp only [Bool.and_eq_true] at hch
  have hf:f=f':=by simpa using hch.1
  subst hf
  have:=N9 hch.2; subst this
  rw [hae]
  rw [← Array.toList_map,Array.toArray_toList]
  simp [execOp,hoo,resolve,hcal,Deferred.ofValue,Act.eval,invoke]
 | callv x args =>
  rw [hop] at hx hch hok
  obtain ⟨av,f,cs,as,res,hxv,hfn,has,hcall,hr,hst⟩:=hx
  simp only [Ce.opds,List.all_cons,Bool.and_eq_true] at hok
  have hars:=M7 (ds:=[]) hsim hg has hok.2
  have harx:=B9 (ds:=[]) hsim hg hxv hok.1
  have hfv:∃ ys:List Value,Act.eval ⟨a.tmps,[]⟩ x=.func (.func f) #[] ys.toArray∧J5 w X μ st.sh cs ys:=by
   unfold qAq at hfn
   split at hfn
   ·simp only [Option.some.injEq,Prod.mk.injEq] at hfn
    obtain ⟨rfl,rfl⟩:=hfn
    generalize hev:Act.eval ⟨a.tmps,[]⟩ x=v at harx
    cases harx.t_inv with
    | fn f cs xs hlen hrel=>exact ⟨xs,rfl,J5.ofT ⟨hlen,hrel⟩⟩
   ·simp only [Option.some.injEq,Prod.mk.injEq] at hfn
    obtain ⟨rfl,rfl⟩:=hfn
    generalize hev:Act.eval ⟨a.tmps,[]⟩ x=v at harx
    cases harx with
    | fn f cs xs hlen hrel=>exact ⟨xs,rfl,hlen,hrel⟩
   ·cases hfn
  obtain ⟨ys,hy,hys⟩:=hfv
  refine callee f (args.map (Act.eval ⟨a.tmps,[]⟩)++ys) res ?_ hr hst (q9y hsim hg (hars.append hys) hcall)
  generalize hoo:o.op=op at hch
  simp only [Pj] at hch
  split at hch
  case h_2=>cases hch
  split at hch
  case h_2=>cases hch
  rename_i cc c y hcal
  simp only [Bool.and_eq_true] at hch
  have:=Ak hch.1; subst this
  have:=N9 hch.2; subst this
  rw [hae]
  rw [show (List.map (Act.eval ⟨a.tmps,[]⟩) cc.args.toList++ys).toArray=cc.args.map (Act.eval ⟨a.tmps,[]⟩)++ys.toArray from by simp]
  simp [execOp,hoo,resolve,hcal,Deferred.ofValue,hy,invoke]
 | _=>exact plain (by simpa only [Fh,hop] using hx)
theorem qI0 {tm:Array Value} {g:Nat} {p:Bool} (h:tm.getD g undef=.bool p):tm[g]? = some (.bool p):=by
 rw [Array.getD_eq_getD_getElem?] at h
 cases hg:tm[g]? with
 | none=>rw [hg] at h; simp [undef] at h
 | some v=>rw [hg] at h; simp at h; rw [h]
theorem qEB {ops:List Oper} {ro:RO} {q:Bool} (hsim:Bv w0 B κ X μ st a.tmps w) (hchk:q8P P N ops ro o=true) (hw:Gt st.env ro.guard=some q):Region.wanted o (yielded ops.toArray a.tmps)=q:=by
 simp only [q8P,Bool.and_eq_true] at hchk
 have hgd:=hchk.2
 cases hr:ro.guard with
 | none =>
  rw [hr] at hw hgd
  simp only [Gt,Option.some.injEq] at hw; subst hw
  cases ho:o.guard with
  | none=>simp [Region.wanted,ho]
  | some x=>rw [ho] at hgd; cases hgd
 | some gb =>
  obtain ⟨g,b⟩:=gb
  rw [hr] at hw hgd
  cases ho:o.guard with
  | none=>rw [ho] at hgd; cases hgd
  | some jb =>
   obtain ⟨j,b'⟩:=jb
   rw [ho] at hgd
   simp only [Bool.and_eq_true,decide_eq_true_eq] at hgd
   obtain ⟨hb,hj⟩:=hgd
   have hb:b=b':=by simpa using hb
   subst hb
   have hy:yielded ops.toArray a.tmps j=match a.tmps[g]? with | some (.bool b)=>some b | _=>none:=by
    simp only [yielded,List.getElem?_toArray,hj,Option.bind_some]
    rfl
   simp only [Gt] at hw
   split at hw
   ·rename_i p hl
    simp only [Option.some.injEq] at hw; subst hw
    have hv:=(hsim.env g _ hl).t_inv.v_inv
    have hv:a.tmps.getD g undef=.bool p:=hv
    simp only [Region.wanted,ho,hy,qI0 hv]
    cases p <;> cases b <;> rfl
   ·rename_i hl
    simp only [Option.some.injEq] at hw; subst hw
    have hu:=hsim.env g _ hl
    have hv:a.tmps.getD g undef=undef:=by
     generalize a.tmps.getD g undef=v at hu
     cases hu; rfl
    have:(match a.tmps[g]? with | some (.bool b)=>some b | _=>none)=(none:Option Bool):=by
     rw [Array.getD_eq_getD_getElem?] at hv
     cases hg:a.tmps[g]? with
     | none=>rfl
     | some v=>rw [hg] at hv; simp [undef] at hv; subst hv; rfl
    simp only [Region.wanted,ho,hy,this]
    cases b <;> rfl
   ·cases hw
theorem q8Q {ro:RO} {ops:List Oper} {st2:St} (hI:Wy Γ w0 B κ X0 N st a w) (hN:N≤1000000) (hchk:q8P P N ops ro o=true) (hx:Gi P Γ ro st st2) (hK:∀ a' w',Wy Γ w0 B κ X0 N st2 a' w'→K a' w') :
  if Region.wanted o (yielded ops.toArray a.tmps) then o.wp P a w K Q∨(o.asks P a w∧LetsOut Q) else K (a.put o.dst undef) w:=by
 obtain ⟨X,μ,hsim,hrest⟩:=id hI
 rcases hx with ⟨hw,r,st1,hex,rfl⟩ | ⟨hw,rfl⟩
 ·rw [qEB hsim hchk hw,if_pos rfl]
  exact .inl (qD8 hI hN hchk hex hK)
 ·rw [qEB hsim hchk hw,if_neg (by simp)]
  obtain ⟨hg,h0,hbd,hsz,hds⟩:=hrest
  simp only [q8P,Bool.and_eq_true,decide_eq_true_eq] at hchk
  obtain ⟨⟨⟨⟨⟨hdst,hch⟩,hok⟩,hdn⟩,_⟩,_⟩:=hchk
  have hd:∀ t,ro.dst=some t→t<N:=fun t ht=>by rw [ht] at hdn; simpa using hdn
  obtain ⟨h1,h2,h3⟩:=q4e hsim hsz hd AR.un
  rw [← hdst]
  exact hK _ _ ⟨X,μ,h1,hg,h0,hbd,h2,h3.trans hds⟩
def Qr (P:Program) (N:Nat) (ops:List Oper):List RO→List Oper→Bool
 | [],[]=>true
 | ro::ros,o::os=>q8P P N ops ro o && Qr P N ops ros os
 | _,_=>false
theorem q7F {ops:List Oper} (hN:N≤1000000):∀ {ros:List RO} {os:List Oper} {st st2:St} {a:Act} {w:World},Wy Γ w0 B κ X0 N st a w→Qr P N ops ros os=true→Px P Γ ros st st2→(∀ a' w',Wy Γ w0 B κ X0 N st2 a' w'→Q .normal a' w')→wpList P ops.toArray Q os a w
 | [],[],st,st2,a,w,hI,hc,hs,hQ=>by
  simp only [Px] at hs; subst hs
  exact hQ a w hI
 | [],_::_,_,_,_,_,_,hc,_,_=>by simp [Qr] at hc
 | _::_,[],_,_,_,_,_,hc,_,_=>by simp [Qr] at hc
 | ro::ros,o::os,st,st2,a,w,hI,hc,hs,hQ=>by
  simp only [Qr,Bool.and_eq_true] at hc
  obtain ⟨st1,h1,h2⟩:=hs
  unfold wpList
  exact q8Q hI hN hc.1 h1 (fun a' w' hI'=>q7F hN hI' hc.2 h2 hQ)
end
end Go.Lg
namespace Go.Lg
open Go
def Ce.kd:Ce→Nat
 | .alloc fz _ | .box fz _ | .bsl fz _ _ _=>if fz then 0 else 2
 | .app _ _ _ _ _ | .appR _ _ _ _ _ | .hcall _ _ _ _ | .hcallv _ _ _ _=>3
 | .cpy _ _ _ | .ncall _ _ _ | .mk _ _ _ _ _ | .mkE _ _ _ _ _ | .mkB _ _ _ _ | .appZ _ _ _ _ _ | .appN _ _ _ | .mkmap | .rng _ | .nxt _ | .store _ _ _ | .stR _ _ _ _ | .mup _ _ _ _=>2
 | .load _ _ _ | .ldR _ _ _ _ | .bytesStr _ | .len _ _ | .iadr _ _ _ | .slice _ _ _ _ _ | .appT _ _ _ _ | .appB _ _ | .lkup _ _ _ _ _ | .call _ _ | .callv _ _ | .rcall _ _ _=>1
 | _=>0
section
variable {P:Program} {Γ:Tables} {d:Nat} {io:Ce} {e e':List (Nat × AV)} {h h':List (Nat × Bc)} {c:Prop} {r:AV} {s st st1:St}
theorem L9:∀ {xs:List Operand},(∀ o ∈ xs,ev Γ e' o=ev Γ e o)→evs Γ e' xs=evs Γ e xs
 | [],_=>rfl
 | x::xs,hx=>by
  have h1:=L9 (xs:=xs) (fun o ho=>hx o (List.mem_cons_of_mem _ ho))
  unfold evs at h1 ⊢
  simp only [List.map_cons,hx x List.mem_cons_self]
  cases ev Γ e x <;> simp [Ai,h1]
theorem q4f {o:Option Operand} {n:Nat} (hx:∀ x ∈ o.toList,ev Γ e' x=ev Γ e x):Ip Γ e' o n=Ip Γ e o n:=by
 cases o with
 | none=>rfl
 | some x=>simp only [Ip,hx x (by simp)]
theorem q7y (hk:io.kd≤2) (hx:∀ o ∈ io.opds,ev Γ e' o=ev Γ e o):Ap Γ d io ⟨e',h⟩=(Ap Γ d io ⟨e,h⟩).map fun q=>(q.1,q.2.1,⟨e',q.2.2.hp⟩):=by
 cases io
 case app=>simp [Ce.kd] at hk
 case appR=>simp [Ce.kd] at hk
 case hcall=>simp [Ce.kd] at hk
 case hcallv=>simp [Ce.kd] at hk
 case call=>simp [Ap]
 case callv=>simp [Ap]
 case slice s0 x lo hi mx =>
  have h1:=hx x (by simp [Ce.opds])
  have h2:∀ n,Ip Γ e' lo n=Ip Γ e lo n:=fun n=>q4f fun y hy=>hx y (by simp [Ce.opds]; simp at hy; simp [hy])
  have h3:∀ n,Ip Γ e' hi n=Ip Γ e hi n:=fun n=>q4f fun y hy=>hx y (by simp [Ce.opds]; simp at hy; simp [hy])
  have h4:∀ n,Ip Γ e' mx n=Ip Γ e mx n:=fun n=>q4f fun y hy=>hx y (by simp [Ce.opds]; simp at hy; simp [hy])
  simp only [Ap,h1,h2,h3,h4]
  cases ev Γ e x with
  | none=>simp
  | some a =>
   simp only [Option.bind_some]
   split
   ·cases Ip Γ e lo 0 <;> simp only [Option.bind_none,Option.bind_some,Option.map_none,Option.map_map,Function.comp_def]
   ·cases Ip Γ e lo 0 <;> simp only [Option.bind_none,Option.bind_some,Option.map_none]
    cases Ip Γ e hi _ <;> simp only [Option.bind_none,Option.bind_some,Option.map_none]
    cases mx <;> simp only [Option.map_some,Option.map_map,Function.comp_def]
   ·cases Ip Γ e lo 0 <;> simp only [Option.bind_none,Option.bind_some,Option.map_none]
    cases Ip Γ e hi _ <;> simp only [Option.bind_none,Option.bind_some,Option.map_none]
    split <;> try rfl
    cases mx <;> simp only [Option.map_some,Option.map_map,Function.comp_def]
   ·rfl
 case appZ ty s0 zs b n =>
  have h1:=hx b (by simp [Ce.opds])
  have h2:=hx n (by simp [Ce.opds])
  simp only [Ap,h1,h2]
  split <;> rfl
 all_goals
  try simp only [Ce.opds,List.mem_cons,List.not_mem_nil,or_false,false_or,forall_eq_or_imp,forall_eq] at hx
  try have hxs:=L9 hx
  simp only [Ap]
  try simp only [hx]
  try simp only [hxs]
  try rfl
  try simp only [Option.map_map,Option.map_bind,Function.comp_def]
  repeat' (first | rfl | split | (refine congrArg _ (funext fun _=>?_)) | simp only [Option.map_map,Option.map_bind,Function.comp_def])
theorem qGB (hk:io.kd≤1):Ap Γ d io ⟨e,h⟩=(Ap Γ d io ⟨e,h⟩).map fun q=>(q.1,q.2.1,⟨e,h⟩):=by
 cases io
 all_goals try (simp [Ce.kd] at hk; done)
 case alloc fz zs=>cases fz; (simp [Ce.kd] at hk); rfl
 case box fz zs=>cases fz; (simp [Ce.kd] at hk); (simp [Ap,Option.map_bind,Option.map_map,Function.comp_def])
 case bsl fz ty s zs=>cases fz; (simp [Ce.kd] at hk); (simp [Ap,Option.map_bind,Option.map_map,Function.comp_def])
 case slice s0 x lo hi mx =>
  simp only [Ap]
  cases ev Γ e x with
  | none=>simp
  | some a =>
   simp only [Option.bind_some]
   split
   ·cases Ip Γ e lo 0 <;> simp only [Option.bind_none,Option.bind_some,Option.map_none,Option.map_map,Function.comp_def]
   ·cases Ip Γ e lo 0 <;> simp only [Option.bind_none,Option.bind_some,Option.map_none]
    cases Ip Γ e hi _ <;> simp only [Option.bind_none,Option.bind_some,Option.map_none]
    cases mx <;> simp only [Option.map_some,Option.map_map,Function.comp_def]
   ·cases Ip Γ e lo 0 <;> simp only [Option.bind_none,Option.bind_some,Option.map_none]
    cases Ip Γ e hi _ <;> simp only [Option.bind_none,Option.bind_some,Option.map_none]
    split <;> try rfl
    cases mx <;> simp only [Option.map_some,Option.map_map,Function.comp_def]
   ·rfl
 all_goals
  simp only [Ap]
  try rfl
  try simp only [Option.map_map,Option.map_bind,Function.comp_def]
  repeat' (first | rfl | split | (refine congrArg _ (funext fun _=>?_)) | simp only [Option.map_map,Option.map_bind,Function.comp_def])
theorem qGC (hk:io.kd=0):Ap Γ d io ⟨e,h'⟩=(Ap Γ d io ⟨e,h⟩).map fun q=>(q.1,q.2.1,⟨e,h'⟩):=by
 cases io
 all_goals try (simp [Ce.kd] at hk; done)
 case alloc fz zs=>cases fz; (simp [Ce.kd] at hk); rfl
 case box fz zs=>cases fz; (simp [Ce.kd] at hk); (simp [Ap,Option.map_bind,Option.map_map,Function.comp_def])
 case bsl fz ty s zs=>cases fz; (simp [Ce.kd] at hk); (simp [Ap,Option.map_bind,Option.map_map,Function.comp_def])
 all_goals
  simp only [Ap]
  try rfl
  try simp only [Option.map_map,Option.map_bind,Function.comp_def]
  repeat' (first | rfl | split | (refine congrArg _ (funext fun _=>?_)) | simp only [Option.map_map,Option.map_bind,Function.comp_def])
def Ce.isNew:Ce→Bool
 | .alloc _ _ | .box _ _ | .bsl _ _ _ _ | .mk _ _ _ _ _ | .mkE _ _ _ _ _ | .mkB _ _ _ _ | .appZ _ _ _ _ _ | .appN _ _ _ | .mkmap | .rng _=>true
 | _=>false
theorem qI1 (hn:io.isNew=true) (hs:Ap Γ d io ⟨e,h⟩=some (c,r,s)) (hc:c):s.hp=h∨∃ q,s.hp=(d,q)::h∧A4 h d=none:=by
 cases io
 all_goals try (simp [Ce.isNew] at hn; done)
 case alloc fz zs =>
  cases fz <;> simp [Ap] at hs
  ·obtain ⟨hcc,rfl,rfl⟩:=hs; exact .inr ⟨_,rfl,hcc.2 hc⟩
  ·obtain ⟨_,rfl,rfl⟩:=hs; exact .inl rfl
 case box fz x =>
  simp only [Ap,Option.bind_eq_some_iff] at hs
  obtain ⟨a,ha,hs⟩:=hs
  cases fz <;> simp at hs
  ·obtain ⟨hcc,rfl,rfl⟩:=hs; exact .inr ⟨_,rfl,(hcc.2 hc).1⟩
  ·obtain ⟨_,_,_,_,rfl⟩:=hs; exact .inl rfl
 case bsl fz ty s0 parts =>
  simp only [Ap,Option.bind_eq_some_iff,Option.map_eq_some_iff] at hs
  obtain ⟨as,ha,es,he,hs⟩:=hs
  cases fz <;> simp at hs
  ·obtain ⟨hcc,rfl,rfl⟩:=hs; exact .inr ⟨_,rfl,(hcc.2 hc).1⟩
  ·obtain ⟨_,_,rfl⟩:=hs; exact .inl rfl
 case mk ty s0 zs l cc =>
  simp only [Ap] at hs
  split at hs
  ·simp only [Option.some.injEq,Prod.mk.injEq] at hs
   obtain ⟨rfl,rfl,rfl⟩:=hs; exact .inr ⟨_,rfl,hc.1⟩
  ·cases hs
 case mkE ty s0 zs l cc =>
  simp only [Ap] at hs
  split at hs
  ·simp only [Option.some.injEq,Prod.mk.injEq] at hs
   obtain ⟨rfl,rfl,rfl⟩:=hs; exact .inr ⟨_,rfl,hc.1⟩
  ·cases hs
 case appZ ty s0 zs l cc =>
  simp only [Ap] at hs
  split at hs
  ·simp only [Option.some.injEq,Prod.mk.injEq] at hs
   obtain ⟨rfl,rfl,rfl⟩:=hs; exact .inr ⟨_,rfl,hc.1⟩
  ·cases hs
 case appN ty s0 x =>
  simp only [Ap] at hs
  split at hs
  ·simp only [Option.some.injEq,Prod.mk.injEq] at hs
   obtain ⟨rfl,rfl,rfl⟩:=hs; exact .inr ⟨_,rfl,hc.1⟩
  ·cases hs
 case mkB ty zs l cc =>
  simp only [Ap] at hs
  split at hs
  ·simp only [Option.some.injEq,Prod.mk.injEq] at hs
   obtain ⟨rfl,rfl,rfl⟩:=hs; exact .inr ⟨_,rfl,hc.1⟩
  ·cases hs
 case rng x =>
  simp only [Ap] at hs
  split at hs
  ·simp only [Option.some.injEq,Prod.mk.injEq] at hs
   obtain ⟨rfl,rfl,rfl⟩:=hs; exact .inr ⟨_,rfl,hc⟩
  ·cases hs
 case mkmap =>
  simp only [Ap,Option.some.injEq,Prod.mk.injEq] at hs
  obtain ⟨rfl,rfl,rfl⟩:=hs; exact .inr ⟨_,rfl,hc⟩
theorem q2Y (hl:∀ id x,A4 h id=some x→A4 h' id=some x) {a:AV} {es:List (List T)} (hs:Br h a=some es):Br h' a=some es:=by
 unfold Br at hs ⊢
 split at hs
 ·exact hs
 ·split at hs
  ·rename_i hq; rw [hl _ _ hq]; exact hs
  ·cases hs
 ·cases hs
theorem qF7 (hl:∀ id x,A4 h id=some x→A4 h' id=some x) {a:AV} {n:Nat} (hs:lenOf h a=some n):lenOf h' a=some n:=by
 unfold lenOf at hs ⊢
 split at hs
 ·exact hs
 ·exact hs
 ·exact hs
 ·exact hs
 ·exact hs
 ·split at hs
  ·rename_i hq; rw [hl _ _ hq]; exact hs
  ·cases hs
 ·cases hs
theorem qI2 (hk:io.kd≤1) (hl:∀ id x,A4 h id=some x→A4 h' id=some x) (hs:Ap Γ d io ⟨e,h⟩=some (c,r,s)):Ap Γ d io ⟨e,h'⟩=some (c,r,⟨e,h'⟩):=by
 by_cases h0:io.kd=0
 ·rw [qGC (h:=h) h0,hs]; rfl
 cases io
 all_goals try (simp [Ce.kd] at hk h0; done)
 case alloc fz zs=>cases fz <;> simp [Ce.kd] at hk h0
 case box fz zs=>cases fz <;> simp [Ce.kd] at hk h0
 case bsl fz ty s zs=>cases fz <;> simp [Ce.kd] at hk h0
 case rcall=>simp [Ap] at hs
 case call=>simp [Ap] at hs
 case callv=>simp [Ap] at hs
 case load n g a =>
  simp only [Ap] at hs ⊢
  split at hs
  ·simp only [Option.some.injEq,Prod.mk.injEq] at hs
   obtain ⟨rfl,rfl,rfl⟩:=hs; rfl
  ·split at hs
   ·rename_i hq; rw [hl _ _ hq]
    simp only [Option.some.injEq,Prod.mk.injEq] at hs
    obtain ⟨rfl,rfl,rfl⟩:=hs; rfl
   ·rename_i hq; rw [hl _ _ hq]
    simp only [Option.some.injEq,Prod.mk.injEq] at hs
    obtain ⟨rfl,rfl,rfl⟩:=hs; rfl
   ·cases hs
  ·cases hs
 case ldR id n g a =>
  simp only [Ap] at hs ⊢
  split at hs
  case isFalse=>cases hs
  rename_i hp
  rw [if_pos hp]
  split at hs
  ·simp only [Option.some.injEq,Prod.mk.injEq] at hs
   obtain ⟨rfl,rfl,rfl⟩:=hs; rfl
  ·split at hs
   ·rename_i hq; rw [hl _ _ hq]
    simp only [Option.some.injEq,Prod.mk.injEq] at hs
    obtain ⟨rfl,rfl,rfl⟩:=hs; rfl
   ·rename_i hq; rw [hl _ _ hq]
    simp only [Option.some.injEq,Prod.mk.injEq] at hs
    obtain ⟨rfl,rfl,rfl⟩:=hs; rfl
   ·cases hs
  ·cases hs
 case iadr s0 x i =>
  simp only [Ap] at hs ⊢
  split at hs
  ·simp only [Option.some.injEq,Prod.mk.injEq] at hs
   obtain ⟨rfl,rfl,rfl⟩:=hs; rfl
  ·split at hs
   ·rename_i hq; rw [hl _ _ hq]
    simp only [Option.some.injEq,Prod.mk.injEq] at hs
    obtain ⟨rfl,rfl,rfl⟩:=hs; rfl
   ·cases hs
  ·split at hs
   ·rename_i hq; rw [hl _ _ hq]
    simp only [Option.some.injEq,Prod.mk.injEq] at hs
    obtain ⟨rfl,rfl,rfl⟩:=hs; rfl
   ·cases hs
  ·cases hs
 case bytesStr x =>
  simp only [Ap,Option.bind_eq_some_iff,Option.map_eq_some_iff,Prod.mk.injEq] at hs ⊢
  obtain ⟨es,⟨a,ha,he⟩,bs,hb,rfl,rfl,rfl⟩:=hs
  exact ⟨es,⟨a,ha,q2Y hl he⟩,bs,hb,rfl,rfl,trivial⟩
 case appT ty s0 b x =>
  simp only [Ap,Option.bind_eq_some_iff] at hs ⊢
  obtain ⟨es,⟨a,ha,he⟩,hs⟩:=hs
  refine ⟨es,⟨a,ha,q2Y hl he⟩,?_⟩
  split at hs
  ·simp only [Option.some.injEq,Prod.mk.injEq] at hs ⊢
   obtain ⟨rfl,rfl,rfl⟩:=hs; exact ⟨rfl,rfl,trivial⟩
  ·cases hs
 case appB b x =>
  simp only [Ap,Option.bind_eq_some_iff] at hs ⊢
  obtain ⟨es,⟨a,ha,he⟩,hs⟩:=hs
  refine ⟨es,⟨a,ha,q2Y hl he⟩,?_⟩
  split at hs
  ·simp only [Option.some.injEq,Prod.mk.injEq] at hs ⊢
   obtain ⟨rfl,rfl,rfl⟩:=hs; exact ⟨rfl,rfl,trivial⟩
  ·cases hs
 case len k x =>
  simp only [Ap,Option.bind_eq_some_iff] at hs ⊢
  obtain ⟨a,ha,hs⟩:=hs
  refine ⟨a,ha,?_⟩
  split at hs
  ·rename_i hq
   rw [if_pos hq]
   simp only [Option.map_eq_some_iff,Prod.mk.injEq] at hs ⊢
   obtain ⟨n,hn,rfl,rfl,rfl⟩:=hs
   exact ⟨n,qF7 hl hn,rfl,rfl,trivial⟩
  ·cases hs
 case lkup kt zv ok m k =>
  simp only [Ap] at hs ⊢
  split at hs
  ·split at hs
   ·simp only [Option.some.injEq,Prod.mk.injEq] at hs
    obtain ⟨rfl,rfl,rfl⟩:=hs; rfl
   ·split at hs
    ·rename_i hq; rw [hl _ _ hq]
     simp only [Option.some.injEq,Prod.mk.injEq] at hs
     obtain ⟨rfl,rfl,rfl⟩:=hs; rfl
    ·cases hs
   ·cases hs
  ·cases hs
 case slice s0 x lo hi mx =>
  simp only [Ap,Option.bind_eq_some_iff] at hs ⊢
  obtain ⟨a,ha,hs⟩:=hs
  refine ⟨a,ha,?_⟩
  split at hs
  ·simp only [Option.bind_eq_some_iff,Option.map_eq_some_iff,Prod.mk.injEq] at hs ⊢
   obtain ⟨l,hl1,q,hq,rfl,rfl,rfl⟩:=hs
   exact ⟨l,hl1,q,hq,rfl,rfl,trivial⟩
  ·simp only [Option.bind_eq_some_iff] at hs ⊢
   obtain ⟨l,hl1,q,hq,hs⟩:=hs
   refine ⟨l,hl1,q,hq,?_⟩
   cases mx
   ·simp only [Option.some.injEq,Prod.mk.injEq] at hs ⊢
    obtain ⟨rfl,rfl,rfl⟩:=hs; exact ⟨rfl,rfl,trivial⟩
   ·simp only [Option.map_eq_some_iff,Prod.mk.injEq] at hs ⊢
    obtain ⟨m,hm,rfl,rfl,rfl⟩:=hs
    exact ⟨m,hm,rfl,rfl,trivial⟩
  ·simp only [Option.bind_eq_some_iff] at hs ⊢
   obtain ⟨l,hl1,q,hq,hs⟩:=hs
   refine ⟨l,hl1,q,hq,?_⟩
   split at hs
   ·rename_i hz; rw [hl _ _ hz]
    cases mx
    ·simp only [Option.some.injEq,Prod.mk.injEq] at hs ⊢
     obtain ⟨rfl,rfl,rfl⟩:=hs; exact ⟨rfl,rfl,trivial⟩
    ·simp only [Option.map_eq_some_iff,Prod.mk.injEq] at hs ⊢
     obtain ⟨m,hm,rfl,rfl,rfl⟩:=hs
     exact ⟨m,hm,rfl,rfl,trivial⟩
   ·cases hs
  ·cases hs
theorem qBf (hn:io.isNew=true) (hs:Ap Γ d io ⟨e,h⟩=some (c,r,s)) (hc:c):(s.hp=h∧∀ h',∃ c',Ap Γ d io ⟨e,h'⟩=some (c',r,⟨e,h'⟩)∧c') ∨
  ∃ q,A4 h d=none∧s.hp=(d,q)::h∧∀ h',A4 h' d=none→∃ c',Ap Γ d io ⟨e,h'⟩=some (c',r,⟨e,(d,q)::h'⟩)∧c':=by
 cases io
 all_goals try (simp [Ce.isNew] at hn; done)
 case alloc fz zs =>
  cases fz <;> simp [Ap] at hs
  ·obtain ⟨hcc,rfl,rfl⟩:=hs; exact .inr ⟨_,hcc.2 hc,rfl,fun h' hh=>⟨A4 h' d=none,by simp [Ap],hh⟩⟩
  ·obtain ⟨_,rfl,rfl⟩:=hs; exact .inl ⟨rfl,fun h'=>⟨True,by simp [Ap],trivial⟩⟩
 case box fz x =>
  simp only [Ap,Option.bind_eq_some_iff] at hs
  obtain ⟨a,ha,hs⟩:=hs
  cases fz <;> simp only [Bool.false_eq_true,↓reduceIte,Option.map_eq_some_iff,Option.some.injEq,Prod.mk.injEq] at hs
  ·obtain ⟨rfl,rfl,rfl⟩:=hs; exact .inr ⟨_,hc.1,rfl,fun h' hh=>⟨A4 h' d=none∧D2 a.cells=true,by simp [Ap,ha],hh,hc.2⟩⟩
  ·obtain ⟨ts,hts,rfl,rfl,rfl⟩:=hs; exact .inl ⟨rfl,fun h'=>⟨Cb ts=true,by simp [Ap,ha,hts],hc⟩⟩
 case bsl fz ty s0 parts =>
  simp only [Ap,Option.bind_eq_some_iff,Option.map_eq_some_iff] at hs
  obtain ⟨as,ha,es,he,hs⟩:=hs
  cases fz <;> simp only [Bool.false_eq_true,↓reduceIte,Prod.mk.injEq] at hs
  ·obtain ⟨rfl,rfl,rfl⟩:=hs; exact .inr ⟨_,hc.1,rfl,fun h' hh=>⟨A4 h' d=none∧∀ e ∈ es,e.length=s0∧Cb e=true,by simp [Ap,ha,he],hh,hc.2⟩⟩
  ·obtain ⟨rfl,rfl,rfl⟩:=hs; exact .inl ⟨rfl,fun h'=>⟨∀ e ∈ es,e.length=s0∧Cb e=true,by simp [Ap,ha,he],hc⟩⟩
 case mk ty s0 zs l cc =>
  simp only [Ap] at hs
  split at hs
  ·rename_i e1 e2
   simp only [Option.some.injEq,Prod.mk.injEq] at hs
   obtain ⟨rfl,rfl,rfl⟩:=hs; exact .inr ⟨_,hc.1,rfl,fun h' hh=>⟨_,by simp only [Ap,e1,e2]; rfl,by exact ⟨hh,hc.2⟩⟩⟩
  ·cases hs
 case mkE ty s0 zs l cc =>
  simp only [Ap] at hs
  split at hs
  ·rename_i e1 e2
   simp only [Option.some.injEq,Prod.mk.injEq] at hs
   obtain ⟨rfl,rfl,rfl⟩:=hs; exact .inr ⟨_,hc.1,rfl,fun h' hh=>⟨_,by simp only [Ap,e1,e2]; rfl,by exact ⟨hh,hc.2⟩⟩⟩
  ·cases hs
 case appZ ty s0 zs l cc =>
  simp only [Ap] at hs
  split at hs
  ·rename_i e1 e2
   simp only [Option.some.injEq,Prod.mk.injEq] at hs
   obtain ⟨rfl,rfl,rfl⟩:=hs; exact .inr ⟨_,hc.1,rfl,fun h' hh=>⟨_,by simp only [Ap,e1,e2]; rfl,by exact ⟨hh,hc.2⟩⟩⟩
  ·cases hs
 case appN ty s0 x =>
  simp only [Ap] at hs
  split at hs
  ·rename_i e1
   simp only [Option.some.injEq,Prod.mk.injEq] at hs
   obtain ⟨rfl,rfl,rfl⟩:=hs; exact .inr ⟨_,hc.1,rfl,fun h' hh=>⟨_,by simp only [Ap,e1]; rfl,by exact ⟨hh,hc.2⟩⟩⟩
  ·cases hs
 case mkB ty zs l cc =>
  simp only [Ap] at hs
  split at hs
  ·rename_i e1 e2
   simp only [Option.some.injEq,Prod.mk.injEq] at hs
   obtain ⟨rfl,rfl,rfl⟩:=hs; exact .inr ⟨_,hc.1,rfl,fun h' hh=>⟨_,by simp only [Ap,e1,e2]; rfl,by exact ⟨hh,hc.2⟩⟩⟩
  ·cases hs
 case mkmap =>
  simp only [Ap,Option.some.injEq,Prod.mk.injEq] at hs
  obtain ⟨rfl,rfl,rfl⟩:=hs; exact .inr ⟨_,hc,rfl,fun h' hh=>⟨_,by simp only [Ap],hh⟩⟩
 case rng x =>
  simp only [Ap] at hs
  split at hs
  ·rename_i e1
   simp only [Option.some.injEq,Prod.mk.injEq] at hs
   obtain ⟨rfl,rfl,rfl⟩:=hs; exact .inr ⟨_,hc,rfl,fun h' hh=>⟨_,by simp only [Ap,e1],hh⟩⟩
  ·cases hs
theorem qEC {id n:Nat} {a x:Operand} (hs:Ap Γ d (.stR id n a x) ⟨e,h⟩=some (c,r,s)) (hc:c) :
  ∃ q q',A4 h id=some q∧q'.sh=q.sh∧s.hp=Gg id q' h∧∀ h',A4 h' id=some q→∃ c',Ap Γ d (.stR id n a x) ⟨e,h'⟩=some (c',r,⟨e,Gg id q' h'⟩)∧c':=by
 simp only [Ap] at hs
 split at hs
 case isFalse=>cases hs
 rename_i hp
 simp only [Option.bind_eq_some_iff] at hs
 obtain ⟨v,hv,hs⟩:=hs
 split at hs
 case h_2=>cases hs
 rename_i j i k ha
 have hj:j=id:=by rw [ha] at hp; simpa [Ei] using hp
 subst hj
 split at hs
 ·rename_i ty s0 es hl
  simp only [Option.map_eq_some_iff,Prod.mk.injEq] at hs
  obtain ⟨ts,hts,rfl,rfl,rfl⟩:=hs
  exact ⟨_,_,hl,by simp [Bc.sh],rfl,fun h' hh=>⟨_,by simp only [Ap,hv,ha,hh,hts,Ei,beq_self_eq_true,↓reduceIte,Option.bind_some,Option.map_some],hc⟩⟩
 ·rename_i cs hl
  simp only [Option.some.injEq,Prod.mk.injEq] at hs
  obtain ⟨rfl,rfl,rfl⟩:=hs
  exact ⟨_,.bx (cs.take k++v.cells++cs.drop (k+n)),hl,rfl,rfl,fun h' hh=>⟨_,by simp only [Ap,hv,ha,hh,Ei,beq_self_eq_true,↓reduceIte,Option.bind_some,Option.map_some],hc⟩⟩
 ·cases hs
theorem qI3 {id n:Nat} {g:Bool} {a:Operand} (hs:Ap Γ d (.ldR id n g a) ⟨e,h⟩=some (c,r,s)) (hh:A4 h' id=A4 h id):Ap Γ d (.ldR id n g a) ⟨e,h'⟩=some (c,r,⟨e,h'⟩):=by
 simp only [Ap] at hs
 split at hs
 case isFalse=>cases hs
 rename_i hp
 split at hs
 ·rename_i ha; rw [ha] at hp; simp [Ei] at hp
 ·rename_i j i k ha
  have hj:j=id:=by rw [ha] at hp; simpa [Ei] using hp
  subst hj
  split at hs
  ·rename_i hl
   simp only [Option.some.injEq,Prod.mk.injEq] at hs
   obtain ⟨rfl,rfl,rfl⟩:=hs
   simp only [Ap,ha,hh,hl,Ei,beq_self_eq_true,↓reduceIte]
  ·rename_i hl
   simp only [Option.some.injEq,Prod.mk.injEq] at hs
   obtain ⟨rfl,rfl,rfl⟩:=hs
   simp only [Ap,ha,hh,hl,Ei,beq_self_eq_true,↓reduceIte]
  ·cases hs
 ·cases hs
theorem qI4 {s0:Nat} {x i:Operand} (hs:Ap Γ d (.iadr s0 x i) ⟨e,h⟩=some (c,r,s)) (hh:∀ k,(A4 h' k).map Bc.sh=(A4 h k).map Bc.sh):Ap Γ d (.iadr s0 x i) ⟨e,h'⟩=some (c,r,⟨e,h'⟩):=by
 simp only [Ap] at hs
 split at hs
 ·rename_i e1 e2
  simp only [Option.some.injEq,Prod.mk.injEq] at hs
  obtain ⟨rfl,rfl,rfl⟩:=hs
  simp only [Ap,e1,e2]
 ·rename_i id off len cap k n e1 e2
  split at hs
  ·rename_i ty q es hl
   simp only [Option.some.injEq,Prod.mk.injEq] at hs
   obtain ⟨rfl,rfl,rfl⟩:=hs
   have:=hh id
   rw [hl] at this
   simp only [Option.map_some,Bc.sh,Option.map_eq_some_iff] at this
   obtain ⟨q',h1,h2⟩:=this
   cases q' <;> simp at h2
   obtain ⟨rfl,_⟩:=h2
   simp only [Ap,e1,e2,h1]
  ·cases hs
 ·rename_i id m k n e1 e2
  split at hs
  ·rename_i cs hl
   simp only [Option.some.injEq,Prod.mk.injEq] at hs
   obtain ⟨rfl,rfl,rfl⟩:=hs
   have:=hh id
   rw [hl] at this
   simp only [Option.map_some,Bc.sh,Option.map_eq_some_iff] at this
   obtain ⟨q',h1,h2⟩:=this
   cases q' <;> simp at h2
   simp only [Ap,e1,e2,h1]
  ·cases hs
 ·cases hs
end
end Go.Lg
