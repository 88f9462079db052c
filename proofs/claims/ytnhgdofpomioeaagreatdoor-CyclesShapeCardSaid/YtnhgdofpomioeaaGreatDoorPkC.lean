/- THE LOGIC, part 24: regions whose order is drawn. Conditions: none. -/
import Derived.Test.YtnhgdofpomioeaaGreatDoorPkB
import Derived.Orders
import Derived.Scope
import Derived.ChangeArms
import Derived.DataReads
import Derived.OpenShut
import Derived.Carry
import Derived.Handed
import Derived.Lib.LaidTab
set_option linter.unusedSimpArgs false
set_option linter.unusedVariables false
namespace Go.Lg
open Go
def RO.reads (ro:RO):List Nat:=(ro.op.opds.filterMap fun | .tmp t=>some t | _=>none)++(ro.guard.map (·.1)).toList
def qGD (x y:RO):Bool:=match x.op,y.op with
 | .stR i _ _ _,.stR j _ _ _ | .stR i _ _ _,.ldR j _ _ _ | .ldR i _ _ _,.stR j _ _ _=>i != j
 | .stR _ _ _ _,.iadr _ _ _ | .iadr _ _ _,.stR _ _ _ _=>true
 | .stR i _ _ _,io=>io.isNew && i != y.d
 | io,.stR j _ _ _=>io.isNew && j != x.d
 | io,.ldR j _ _ _=>io.isNew && j != x.d
 | io,jo=>io.isNew && jo.isNew && x.d != y.d
def Ce.isN:Ce→Bool
 | .ncall _ _ _=>true
 | io=>io.isNew
def qGE (x y:RO):Bool:=match x.op,y.op,x.dst,y.dst with
 | .mv (.tmp a),.app _ _ _ b v,some dx,some dy=>x.guard.isNone && y.guard.isNone && (match b with | .tmp t=>t != dx | _=>true) && (match v with | .tmp t=>t != dx | _=>true) && dy != a && dy != dx
 | .app _ _ _ b v,.mv (.tmp a),some dy,some dx=>x.guard.isNone && y.guard.isNone && (match b with | .tmp t=>t != dx | _=>true) && (match v with | .tmp t=>t != dx | _=>true) && dy != a && dy != dx
 | _,_,_,_=>false
def nt (o:Operand) (d:Nat):Bool:=match o with | .tmp t=>t != d | _=>true
def qGF (x y:RO):Bool:=match x.op,y.op,x.dst,y.dst with
 | .appR true _ _ b v,.ldT _ _ (.tmp a),some dx,some dy=>x.guard.isNone && y.guard.isNone && nt b dy && nt v dy && a != dx && dx != dy
 | .ldT _ _ (.tmp a),.appR true _ _ b v,some dy,some dx=>x.guard.isNone && y.guard.isNone && nt b dy && nt v dy && a != dx && dx != dy
 | .appR true i _ b v,.alloc false _,some dx,some dy=>x.guard.isNone && y.guard.isNone && nt b dy && nt v dy && dx != dy && y.d != i
 | .alloc false _,.appR true i _ b v,some dy,some dx=>x.guard.isNone && y.guard.isNone && nt b dy && nt v dy && dx != dy && x.d != i
 | _,_,_,_=>false
def qGG (x y:RO):Bool:=match x.op,y.op,x.dst,y.dst with
 | .app false _ _ b v,.fadr _ (.tmp a),some dx,some dy=>x.guard.isNone && y.guard.isNone && nt b dy && nt v dy && a != dx && dx != dy
 | .app false _ _ b v,.ldR j _ false (.tmp a),some dx,some dy=>x.guard.isNone && y.guard.isNone && nt b dy && nt v dy && a != dx && dx != dy && j != x.d
 | .app false _ _ b v,.bsl true _ _ ps,some dx,some dy=>x.guard.isNone && y.guard.isNone && nt b dy && nt v dy && ps.all (nt · dx) && dx != dy
 | _,_,_,_=>false
def qD9 (x y:RO):Bool:=qGE x y || qGF x y || qGG x y ||
 (x.op.kd≤2 && y.op.kd≤2 && (x.op.kd == 0 || y.op.kd == 0 || (x.op.kd≤1 && y.op.kd≤1) || (x.op.kd≤1 && y.op.isN) || (x.op.isN && y.op.isN) || qGD x y)) &&
 (match x.dst with | some d=>!y.reads.contains d && y.dst != some d | none=>true) &&
 (match y.dst with | some d=>!x.reads.contains d | none=>true)
def F7 (a b:St):Prop:=(∀ k,A4 b.env k=A4 a.env k)∧∀ k,A4 b.hp k=A4 a.hp k
theorem F7.rfl' {a:St}:F7 a a:=⟨fun _=>rfl,fun _=>rfl⟩
theorem F7.trans {a b c:St} (h:F7 a b) (h':F7 b c):F7 a c:=⟨fun k=>(h'.1 k).trans (h.1 k),fun k=>(h'.2 k).trans (h.2 k)⟩
section
variable {P:Program} {Γ:Tables} {d:Nat} {io:Ce} {e e':List (Nat × AV)} {h h' h1 h2:List (Nat × Bc)} {c:Prop} {r r1 r2:AV} {s st st' st1 st2 s2:St} {ro x y:RO}
theorem Bv.alike {w0:World} {B:Nat} {κ:Df} {X:Nat→Prop} {μ:Df} {tm:Array Value} {w:World} (hs:Bv w0 B κ X μ st tm w) (ha:F7 st st'):Bv w0 B κ X μ st' tm w:=by
 have e:st'.sh=st.sh:=funext fun t=>by simp only [St.sh,ha.2]
 refine ⟨fun t a ht=>?_,fun id r hr=>?_,?_,?_,?_,hs.kbig,hs.xlt,hs.os,hs.tape,hs.output,hs.size,hs.fr⟩
 ·rw [e]; exact hs.env t a (by rw [← ha.1 t]; exact ht)
 ·rw [e]; exact hs.reg id r (by rw [← ha.2]; exact hr)
 ·rw [e]; exact hs.inj
 ·rw [e]; exact hs.loc
 ·rw [e]; exact hs.kap
theorem q6a (hk:io.kd≤2) (hx:∀ o ∈ io.opds,ev Γ e' o=ev Γ e o) (hs:Fh P Γ d io ⟨e,h⟩ r s):s.env=e∧Fh P Γ d io ⟨e',h⟩ r ⟨e',s.hp⟩:=by
 have gen:(∃ c,Ap Γ d io ⟨e,h⟩=some (c,r,s)∧c)→s.env=e∧∃ c,Ap Γ d io ⟨e',h⟩=some (c,r,⟨e',s.hp⟩)∧c:=by
  rintro ⟨c,hs,hc⟩
  refine ⟨?_,c,?_,hc⟩
  ·have:=q7y (Γ:=Γ) (d:=d) (e:=e) (e':=e) (h:=h) hk (fun _ _=>rfl)
   rw [hs] at this
   simp only [Option.map_some,Option.some.injEq,Prod.mk.injEq] at this
   rw [this.2.2]
  ·rw [q7y hk hx,hs]; rfl
 cases io with
 | call f args =>
  obtain ⟨as,res,h1,h2,h3,rfl⟩:=hs
  exact ⟨rfl,as,res,(L9 hx).trans h1,h2,h3,rfl⟩
 | callv a args =>
  obtain ⟨b,f,cs,as,res,h0,h1,h2,h3,h4,rfl⟩:=hs
  simp only [Ce.opds,List.mem_cons,forall_eq_or_imp] at hx
  exact ⟨rfl,b,f,cs,as,res,hx.1.trans h0,h1,(L9 hx.2).trans h2,h3,h4,rfl⟩
 | hcall f args rs base=>simp [Ce.kd] at hk
 | hcallv x args rs base=>simp [Ce.kd] at hk
 | ncall f args base =>
  obtain ⟨as,res,hp',h1,h2,h3,h4,rfl⟩:=hs
  exact ⟨rfl,as,res,hp',(L9 hx).trans h1,h2,h3,h4,rfl⟩
 | callT f args =>
  obtain ⟨as,ts,res,h1,h2,h3,h4,rfl⟩:=hs
  exact ⟨rfl,as,ts,res,(L9 hx).trans h1,h2,h3,h4,rfl⟩
 | rcall f args rs =>
  obtain ⟨as,res,h1,h2,h3,h4,h5,rfl⟩:=hs
  exact ⟨rfl,as,res,(L9 hx).trans h1,h2,h3,h4,h5,rfl⟩
 | _=>exact gen hs
theorem q8R (hk:io.kd≤1) (hs:Fh P Γ d io st r s):s=st:=by
 obtain ⟨e,h⟩:=st
 have gen:(∃ c,Ap Γ d io ⟨e,h⟩=some (c,r,s)∧c)→s=⟨e,h⟩:=by
  rintro ⟨c,hs,hc⟩
  have:=qGB (Γ:=Γ) (d:=d) (e:=e) (h:=h) hk
  rw [hs] at this
  simp only [Option.map_some,Option.some.injEq,Prod.mk.injEq] at this
  exact this.2.2
 cases io with
 | call f args=>obtain ⟨as,res,h1,h2,h3,h4⟩:=hs; exact h4
 | callv a args=>obtain ⟨b,f,cs,as,res,h0,h1,h2,h3,h4,h5⟩:=hs; exact h5
 | hcall f args rs base=>simp [Ce.kd] at hk
 | hcallv x args rs base=>simp [Ce.kd] at hk
 | ncall f args base=>simp [Ce.kd] at hk
 | callT f args=>obtain ⟨as,ts,res,h1,h2,h3,h4,h5⟩:=hs; exact h5
 | rcall f args rs=>obtain ⟨as,res,h1,h2,h3,h4,h5,h6⟩:=hs; exact h6
 | _=>exact gen hs
theorem qGH (hk:io.kd=0) (hs:Fh P Γ d io ⟨e,h⟩ r s):Fh P Γ d io ⟨e,h'⟩ r ⟨e,h'⟩:=by
 have gen:(∃ c,Ap Γ d io ⟨e,h⟩=some (c,r,s)∧c)→∃ c,Ap Γ d io ⟨e,h'⟩=some (c,r,⟨e,h'⟩)∧c:=by
  rintro ⟨c,hs,hc⟩
  refine ⟨c,?_,hc⟩
  rw [qGC (h:=h) hk,hs]; rfl
 cases io with
 | call f args=>simp [Ce.kd] at hk
 | callv a args=>simp [Ce.kd] at hk
 | hcall f args rs base=>simp [Ce.kd] at hk
 | hcallv x args rs base=>simp [Ce.kd] at hk
 | ncall f args base=>simp [Ce.kd] at hk
 | callT f args=>obtain ⟨as,ts,res,h1,h2,h3,h4,h5⟩:=hs; exact ⟨as,ts,res,h1,h2,h3,h4,rfl⟩
 | rcall f args rs=>simp [Ce.kd] at hk
 | _=>exact gen hs
def Ba (P:Program) (Γ:Tables) (ro:RO) (st:St) (r:AV) (h1:List (Nat × Bc)):Prop :=
 (Gt st.env ro.guard=some true∧Fh P Γ ro.d ro.op st r ⟨st.env,h1⟩)∨(Gt st.env ro.guard=some false∧r=.un∧h1=st.hp)
theorem qED (hk:ro.op.kd≤2) (hs:Gi P Γ ro st s):∃ r h1,Ba P Γ ro st r h1∧s=St.put ⟨st.env,h1⟩ ro.dst r:=by
 rcases hs with ⟨hw,r,st1,hx,rfl⟩ | ⟨hw,rfl⟩
 ·have h1:=(q6a (e':=st.env) hk (fun _ _=>rfl) hx).1
  obtain ⟨e1,hp1⟩:=st1
  simp only at h1; subst h1
  exact ⟨r,hp1,.inl ⟨hw,hx⟩,rfl⟩
 ·exact ⟨.un,st.hp,.inr ⟨hw,rfl,rfl⟩,rfl⟩
theorem Ba.step (hs:Ba P Γ ro st r h1):Gi P Γ ro st (St.put ⟨st.env,h1⟩ ro.dst r):=by
 rcases hs with ⟨hw,hx⟩ | ⟨hw,rfl,rfl⟩
 ·exact .inl ⟨hw,r,_,hx,rfl⟩
 ·exact .inr ⟨hw,rfl⟩
theorem qGI (hx:∀ t ∈ ro.reads,A4 e' t=A4 e t):∀ o ∈ ro.op.opds,ev Γ e' o=ev Γ e o:=by
 intro o ho
 cases o with
 | tmp t=>exact hx t (List.mem_append_left _ (List.mem_filterMap.2 ⟨_,ho,rfl⟩))
 | _=>rfl
theorem qDA (hx:∀ t ∈ ro.reads,A4 e' t=A4 e t):Gt e' ro.guard=Gt e ro.guard:=by
 cases hg:ro.guard with
 | none=>rfl
 | some gb=>simp only [Gt,hx gb.1 (List.mem_append_right _ (by simp [hg]))]
theorem Ba.env (hk:ro.op.kd≤2) (hx:∀ t ∈ ro.reads,A4 e' t=A4 e t) (hs:Ba P Γ ro ⟨e,h⟩ r h1):Ba P Γ ro ⟨e',h⟩ r h1:=by
 have hw:Gt e' ro.guard=Gt e ro.guard:=qDA hx
 rcases hs with ⟨hw',ha⟩ | ⟨hw',rfl,rfl⟩
 ·exact .inl ⟨hw.trans hw',(q6a hk (qGI hx) ha).2⟩
 ·exact .inr ⟨hw.trans hw',rfl,rfl⟩
theorem Ba.same (hk:ro.op.kd≤1) (hs:Ba P Γ ro ⟨e,h⟩ r h1):h1=h:=by
 rcases hs with ⟨hw',ha⟩ | ⟨hw',rfl,rfl⟩
 ·have:=q8R hk ha
  simpa using this
 ·rfl
theorem Ba.hp (hk:ro.op.kd=0) (hs:Ba P Γ ro ⟨e,h⟩ r h1):Ba P Γ ro ⟨e,h'⟩ r h':=by
 rcases hs with ⟨hw',ha⟩ | ⟨hw',rfl,rfl⟩
 ·exact .inl ⟨hw',qGH hk ha⟩
 ·exact .inr ⟨hw',rfl,rfl⟩
theorem S3 {f g:AV→Option T}:∀ {cs:List AV} {ts:List T},(∀ c ∈ cs,∀ t,f c=some t→g c=some t)→Ai (cs.map f)=some ts→Ai (cs.map g)=some ts
 | [],ts,_,ho=>ho
 | c::cs,ts,hf,ho=>by
  simp only [List.map_cons] at ho ⊢
  cases hc:f c with
  | none=>rw [hc] at ho; simp [Ai] at ho
  | some t =>
   rw [hc] at ho; rw [hf c List.mem_cons_self t hc]
   simp only [Ai,Option.map_eq_some_iff] at ho ⊢
   obtain ⟨ts',ho',rfl⟩:=ho
   exact ⟨ts',S3 (fun c hm=>hf c (List.mem_cons_of_mem _ hm)) ho',rfl⟩
theorem qF8 (hl:∀ id x,A4 h id=some x→A4 h' id=some x):∀ {n:Nat} {a:AV} {t:T},Aj h n a=some t→Aj h' n a=some t:=by
 intro n
 induction n with
 | zero=>intro a t hs; cases a <;> simp only [Aj] at hs ⊢ <;> exact hs
 | succ n ih =>
  intro a t hs
  cases a with
  | t x=>simp only [Aj] at hs ⊢; exact hs
  | ag cs =>
   simp only [Aj,Option.map_eq_some_iff] at hs ⊢
   obtain ⟨ts,h1,h2⟩:=hs
   exact ⟨ts,S3 (fun c _ t hc=>ih hc) h1,h2⟩
  | fn f cs =>
   simp only [Aj,Option.map_eq_some_iff] at hs ⊢
   obtain ⟨ts,h1,h2⟩:=hs
   exact ⟨ts,S3 (fun c _ t hc=>ih hc) h1,h2⟩
  | ls id off len cap =>
   simp only [Aj] at hs ⊢
   split at hs
   ·rename_i hq; rw [hl _ _ hq]; exact hs
   ·cases hs
  | lp id i k =>
   simp only [Aj] at hs ⊢
   split at hs
   ·rename_i hq; rw [hl _ _ hq]; exact hs
   ·rename_i hq; rw [hl _ _ hq]
    simp only [Option.map_eq_some_iff] at hs ⊢
    obtain ⟨ts,h1,h2⟩:=hs
    exact ⟨ts,S3 (fun c _ t hc=>ih hc) h1,h2⟩
   ·cases hs
  | li id=>simp [Aj] at hs
  | lb id m =>
   simp only [Aj] at hs ⊢
   split at hs
   ·rename_i hq; rw [hl _ _ hq]
    simp only [Option.map_eq_some_iff] at hs ⊢
    obtain ⟨ts,h1,h2⟩:=hs
    exact ⟨ts,S3 (fun c _ t hc=>ih hc) h1,h2⟩
   ·cases hs
  | lm id =>
   simp only [Aj] at hs ⊢
   split at hs
   ·rename_i hq; rw [hl _ _ hq]; exact hs
   ·cases hs
  | dead=>simp [Aj] at hs
  | un=>simp [Aj] at hs
  | tu=>simp [Aj] at hs
theorem q4d.add {f:FuncId} {as:List AV} {res:T} (hl:∀ id x,A4 h id=some x→A4 h' id=some x) (hc:q4d P Γ h f as res):q4d P Γ h' f as res:=by
 rcases hc with hc | ⟨ts,h1,h2⟩
 ·exact .inl hc
 ·exact .inr ⟨ts,S3 (fun c _ t hc=>qF8 hl hc) h1,h2⟩
theorem q9z (hl:∀ id x,A4 h id=some x→A4 h' id=some x) (hk:io.kd≤1) (hs:Fh P Γ d io ⟨e,h⟩ r s):Fh P Γ d io ⟨e,h'⟩ r ⟨e,h'⟩:=by
 have gen:(∃ c,Ap Γ d io ⟨e,h⟩=some (c,r,s)∧c)→∃ c,Ap Γ d io ⟨e,h'⟩=some (c,r,⟨e,h'⟩)∧c:=by
  rintro ⟨c,hs,hc⟩
  exact ⟨c,qI2 hk hl hs,hc⟩
 cases io with
 | call f args=>obtain ⟨as,res,h1,h2,h3,h4⟩:=hs; exact ⟨as,res,h1,h2.add hl,h3,rfl⟩
 | callv a args=>obtain ⟨b,f,cs,as,res,h0,h1,h2,h3,h4,h5⟩:=hs; exact ⟨b,f,cs,as,res,h0,h1,h2,h3.add hl,h4,rfl⟩
 | hcall f args rs base=>simp [Ce.kd] at hk
 | hcallv x args rs base=>simp [Ce.kd] at hk
 | ncall f args base=>simp [Ce.kd] at hk
 | callT f args=>obtain ⟨as,ts,res,h1,h2,h3,h4,h5⟩:=hs; exact ⟨as,ts,res,h1,h2,h3,h4,rfl⟩
 | rcall f args rs =>
  obtain ⟨as,res,h1,h2,h3,h4,h5,h6⟩:=hs
  have he:Fg rs h'=Fg rs h:=by
   unfold Fg
   have:∀ l:List Nat,(∀ i ∈ l,i ∈ rs)→l.filterMap (fun i=>(A4 h' i).map fun r=>(1000000+rs.idxOf i,D3 (fwd rs) r))=l.filterMap (fun i=>(A4 h i).map fun r=>(1000000+rs.idxOf i,D3 (fwd rs) r)):=by
    intro l
    induction l with
    | nil=>intro _; rfl
    | cons i l ih =>
     intro hm
     obtain ⟨ty,s,es,hl'⟩:=h3 i (hm i List.mem_cons_self)
     simp only at hl'
     simp only [List.filterMap_cons,hl',hl _ _ hl',ih fun j hj=>hm j (List.mem_cons_of_mem _ hj)]
   exact this rs fun i hi=>hi
  refine ⟨as,res,h1,h2,fun i hi=>?_,by rw [he]; exact h4,h5,rfl⟩
  obtain ⟨ty,s,es,hl'⟩:=h3 i hi
  exact ⟨ty,s,es,hl _ _ hl'⟩
 | _=>exact gen hs
theorem Ba.add (hl:∀ id x,A4 h id=some x→A4 h' id=some x) (hk:ro.op.kd≤1) (hs:Ba P Γ ro ⟨e,h⟩ r h1):Ba P Γ ro ⟨e,h'⟩ r h':=by
 rcases hs with ⟨hw',ha⟩ | ⟨hw',rfl,rfl⟩
 ·exact .inl ⟨hw',q9z hl hk ha⟩
 ·exact .inr ⟨hw',rfl,rfl⟩
theorem Ba.new (hn:ro.op.isNew=true) (hs:Ba P Γ ro ⟨e,h⟩ r h1):∀ id x,A4 h id=some x→A4 h1 id=some x:=by
 rcases hs with ⟨hw',ha⟩ | ⟨hw',rfl,rfl⟩
 ·have gen:(∃ c,Ap Γ ro.d ro.op ⟨e,h⟩=some (c,r,⟨e,h1⟩)∧c)→∀ id x,A4 h id=some x→A4 h1 id=some x:=by
   rintro ⟨c,hs,hc⟩ id x hx
   rcases qI1 hn hs hc with h2 | ⟨q,h2,h3⟩
   ·simp only at h2; rw [h2]; exact hx
   ·simp only at h2; rw [h2]
    have:ro.d ≠ id:=fun e=>by rw [e,hx] at h3; cases h3
    simp [A4,this,hx]
  cases hop:ro.op with
  | call f args=>rw [hop] at hn; simp [Ce.isNew] at hn
  | callv f args=>rw [hop] at hn; simp [Ce.isNew] at hn
  | hcall=>rw [hop] at hn; simp [Ce.isNew] at hn
  | hcallv=>rw [hop] at hn; simp [Ce.isNew] at hn
  | ncall=>rw [hop] at hn; simp [Ce.isNew] at hn
  | callT=>rw [hop] at hn; simp [Ce.isNew] at hn
  | rcall=>rw [hop] at hn; simp [Ce.isNew] at hn
  | _=>exact gen (by simpa only [Fh,hop] using ha)
 ·exact fun id x h=>h
theorem qBg {dst:Option Nat} {k:Nat} (hd:dst ≠ some k):A4 (St.put ⟨e,h⟩ dst r).env k=A4 e k:=by
 cases dst with
 | none=>rfl
 | some t =>
  have:t ≠ k:=fun e=>hd (e ▸ rfl)
  simp [St.put,A4,this]
theorem qJo {dst:Option Nat}:(St.put ⟨e,h⟩ dst r).hp=h:=by cases dst <;> rfl
theorem qEE {dst:Option Nat}:St.put ⟨e,h⟩ dst r=⟨(St.put ⟨e,h⟩ dst r).env,h⟩:=by cases dst <;> rfl
theorem Ba.newF (hn:ro.op.isNew=true) (hs:Ba P Γ ro ⟨e,h⟩ r h1):(h1=h∧∀ h',Ba P Γ ro ⟨e,h'⟩ r h')∨∃ q,A4 h ro.d=none∧h1=(ro.d,q)::h∧∀ h',A4 h' ro.d=none→Ba P Γ ro ⟨e,h'⟩ r ((ro.d,q)::h'):=by
 rcases hs with ⟨hw,ha⟩ | ⟨hw,rfl,rfl⟩
 ·have gen:(∃ c,Ap Γ ro.d ro.op ⟨e,h⟩=some (c,r,⟨e,h1⟩)∧c)→(∀ h' h2,(∃ c,Ap Γ ro.d ro.op ⟨e,h'⟩=some (c,r,⟨e,h2⟩)∧c)→Fh P Γ ro.d ro.op ⟨e,h'⟩ r ⟨e,h2⟩) →
    (h1=h∧∀ h',Ba P Γ ro ⟨e,h'⟩ r h')∨∃ q,A4 h ro.d=none∧h1=(ro.d,q)::h∧∀ h',A4 h' ro.d=none→Ba P Γ ro ⟨e,h'⟩ r ((ro.d,q)::h'):=by
   rintro ⟨c,hs,hc⟩ back
   rcases qBf hn hs hc with ⟨h2,h3⟩ | ⟨q,h2,h3,h4⟩
   ·exact .inl ⟨h2,fun h'=>.inl ⟨hw,back _ _ (h3 h')⟩⟩
   ·exact .inr ⟨q,h2,h3,fun h' hh=>.inl ⟨hw,back _ _ (h4 h' hh)⟩⟩
  cases hop:ro.op with
  | call f args=>rw [hop] at hn; simp [Ce.isNew] at hn
  | callv f args=>rw [hop] at hn; simp [Ce.isNew] at hn
  | hcall=>rw [hop] at hn; simp [Ce.isNew] at hn
  | hcallv=>rw [hop] at hn; simp [Ce.isNew] at hn
  | ncall=>rw [hop] at hn; simp [Ce.isNew] at hn
  | callT=>rw [hop] at hn; simp [Ce.isNew] at hn
  | rcall=>rw [hop] at hn; simp [Ce.isNew] at hn
  | _=>exact gen (by simpa only [Fh,hop] using ha) (fun h' h2 hq=>by simpa only [Fh,hop] using hq)
 ·exact .inl ⟨rfl,fun h'=>.inr ⟨hw,rfl,rfl⟩⟩
theorem q6b {base:Nat} {hp:List (Nat × Bc)}:∀ {hp':List (Nat × Bc)},okB [] base hp hp'→∀ p ∈ Lt [] base hp',A4 hp p.1=none
 | [],_,p,hp'=>by cases hp'
 | (j,r)::l,ho,p,hm=>by
  simp only [Lt] at hm
  have h0:=ho.1
  split at hm
  ·rename_i hj
   rw [if_pos hj] at h0
   rcases List.mem_cons.1 hm with rfl | hm
   ·exact h0.1
   ·exact q6b ho.2 p hm
  ·exact q6b ho.2 p hm
theorem q5b {base:Nat} {hp hq:List (Nat × Bc)}:∀ {hp':List (Nat × Bc)},okB [] base hp hp'→(∀ p ∈ Lt [] base hp',A4 hq p.1=none)→okB [] base hq hp'
 | [],_,_=>trivial
 | (j,r)::l,ho,hf=>by
  have h0:=ho.1
  by_cases hj:j<1000000
  ·rw [if_pos hj] at h0
   refine ⟨by rw [if_pos hj]; exact ⟨hf (base+j,D3 (fun i=>some (bwd [] base i)) r) (by simp only [Lt,hj,if_true]; exact List.mem_cons_self),h0.2⟩,q5b ho.2 fun p hp=>hf p (by simp only [Lt,hj,if_true]; exact List.mem_cons_of_mem _ hp)⟩
  ·rw [if_neg hj] at h0
   simp at h0
theorem Ba.newG (hn:ro.op.isN=true) (hs:Ba P Γ ro ⟨e,h⟩ r h1):∃ L,h1=L++h∧(∀ p ∈ L,A4 h p.1=none)∧∀ h',(∀ p ∈ L,A4 h' p.1=none)→Ba P Γ ro ⟨e,h'⟩ r (L++h'):=by
 by_cases ho:∃ f args base,ro.op=.ncall f args base
 ·obtain ⟨f,args,base,ho⟩:=ho
  rcases hs with ⟨hw,ha⟩ | ⟨hw,rfl,rfl⟩
  ·simp only [Fh,ho] at ha
   obtain ⟨as,res,hp',h2,h3,h4,h5,h6⟩:=ha
   simp only [St.mk.injEq,true_and] at h6
   refine ⟨Lt [] base hp',h6,q6b h4,fun h' hf=>.inl ⟨hw,?_⟩⟩
   simp only [Fh,ho]
   exact ⟨as,res,hp',h2,h3,q5b h4 hf,h5,rfl⟩
  ·exact ⟨[],rfl,by simp,fun h' _=>.inr ⟨hw,rfl,rfl⟩⟩
 ·have hn':ro.op.isNew=true:=by
   cases hop:ro.op with
   | ncall f args base=>exact absurd ⟨_,_,_,hop⟩ ho
   | _=>rw [hop] at hn; exact hn
  rcases hs.newF hn' with ⟨h2,h3⟩ | ⟨q,h2,h3,h4⟩
  ·exact ⟨[],h2,by simp,fun h' _=>h3 h'⟩
  ·exact ⟨[(ro.d,q)],h3,by simpa using h2,fun h' hf=>h4 h' (hf (ro.d,q) List.mem_cons_self)⟩
theorem q1P {L:List (Nat × Bc)} {t:Nat} (hl:∀ p ∈ L,p.1 ≠ t):A4 L t=none:=by
 induction L with
 | nil=>rfl
 | cons p L ih =>
  obtain ⟨k,q⟩:=p
  simp only [A4]
  rw [if_neg (hl (k,q) List.mem_cons_self)]
  exact ih fun p hp=>hl p (List.mem_cons_of_mem _ hp)
theorem q9V {L:List (Nat × Bc)} {p:Nat × Bc} (hp:p ∈ L):A4 L p.1 ≠ none:=by
 induction L with
 | nil=>cases hp
 | cons q L ih =>
  obtain ⟨k,r⟩:=q
  simp only [A4]
  split
  ·simp
  ·rename_i hk
   rcases List.mem_cons.1 hp with rfl | hp
   ·exact absurd rfl hk
   ·exact ih hp
theorem Ba.newN (hn:ro.op.isN=true) (hs:Ba P Γ ro ⟨e,h⟩ r h1):∀ id x,A4 h id=some x→A4 h1 id=some x:=by
 obtain ⟨L,rfl,hf,_⟩:=hs.newG hn
 intro id x hx
 have:A4 L id=none:=q1P fun p hp e=>by
  have:=hf p hp
  rw [e,hx] at this; cases this
 rw [Du,this,Option.none_or]; exact hx
theorem qI5 (hn:x.op.isN=true) (hn':y.op.isN=true) (hx:Ba P Γ x ⟨e,h⟩ r1 h1) (hy:Ba P Γ y ⟨e,h1⟩ r2 h2):∃ h3 h4,Ba P Γ y ⟨e,h⟩ r2 h3∧Ba P Γ x ⟨e,h3⟩ r1 h4∧∀ k,A4 h4 k=A4 h2 k:=by
 obtain ⟨L,rfl,hf,fx⟩:=hx.newG hn
 obtain ⟨M,rfl,hg,fy⟩:=hy.newG hn'
 have hLM:∀ p ∈ M,A4 L p.1=none∧A4 h p.1=none:=fun p hp=>by
  have:=hg p hp
  rw [Du] at this
  cases hl:A4 L p.1 with
  | some q=>rw [hl] at this; cases this
  | none=>rw [hl,Option.none_or] at this; exact ⟨rfl,this⟩
 have hML:∀ p ∈ L,A4 M p.1=none:=fun p hp=>q1P fun q hq e=>by
  have:=(hLM q hq).1
  rw [e] at this
  exact q9V hp this
 refine ⟨M++h,L++(M++h),fy h fun p hp=>(hLM p hp).2,fx _ fun p hp=>by rw [Du,hML p hp,Option.none_or]; exact hf p hp,fun k=>?_⟩
 simp only [Du]
 cases hl:A4 L k with
 | none=>simp
 | some q =>
  cases hm:A4 M k with
  | none=>simp
  | some p =>
   exfalso
   have:∃ p ∈ M,p.1=k:=by
    by_cases he:∃ p ∈ M,p.1=k
    ·exact he
    ·rw [q1P fun p hp e=>he ⟨p,hp,e⟩] at hm; cases hm
   obtain ⟨p,hp,rfl⟩:=this
   have:=(hLM p hp).1
   rw [hl] at this; cases this
theorem Ba.stF {i n:Nat} {a x:Operand} (ho:ro.op=.stR i n a x) (hs:Ba P Γ ro ⟨e,h⟩ r h1):(h1=h∧∀ h',Ba P Γ ro ⟨e,h'⟩ r h') ∨
  ∃ q q',A4 h i=some q∧q'.sh=q.sh∧h1=Gg i q' h∧∀ h',A4 h' i=some q→Ba P Γ ro ⟨e,h'⟩ r (Gg i q' h'):=by
 rcases hs with ⟨hw,ha⟩ | ⟨hw,rfl,rfl⟩
 ·simp only [Fh,ho] at ha
  obtain ⟨c,hs,hc⟩:=ha
  obtain ⟨q,q',h2,h3,h4,h5⟩:=qEC hs hc
  exact .inr ⟨q,q',h2,h3,h4,fun h' hh=>.inl ⟨hw,by simp only [Fh,ho]; exact h5 h' hh⟩⟩
 ·exact .inl ⟨rfl,fun h'=>.inr ⟨hw,rfl,rfl⟩⟩
theorem Ba.ldF {i n:Nat} {g:Bool} {a:Operand} (ho:ro.op=.ldR i n g a) (hs:Ba P Γ ro ⟨e,h⟩ r h1):h1=h∧∀ h',A4 h' i=A4 h i→Ba P Γ ro ⟨e,h'⟩ r h':=by
 refine ⟨hs.same (by rw [ho]; exact Nat.le_refl _),fun h' hh=>?_⟩
 rcases hs with ⟨hw,ha⟩ | ⟨hw,rfl,rfl⟩
 ·simp only [Fh,ho] at ha
  obtain ⟨c,hs,hc⟩:=ha
  exact .inl ⟨hw,by simp only [Fh,ho]; exact ⟨c,qI3 hs hh,hc⟩⟩
 ·exact .inr ⟨hw,rfl,rfl⟩
theorem Ba.iaF {s0:Nat} {x i:Operand} (ho:ro.op=.iadr s0 x i) (hs:Ba P Γ ro ⟨e,h⟩ r h1):h1=h∧∀ h',(∀ k,(A4 h' k).map Bc.sh=(A4 h k).map Bc.sh)→Ba P Γ ro ⟨e,h'⟩ r h':=by
 refine ⟨hs.same (by rw [ho]; exact Nat.le_refl _),fun h' hh=>?_⟩
 rcases hs with ⟨hw,ha⟩ | ⟨hw,rfl,rfl⟩
 ·simp only [Fh,ho] at ha
  obtain ⟨c,hs,hc⟩:=ha
  exact .inl ⟨hw,by simp only [Fh,ho]; exact ⟨c,qI4 hs hh,hc⟩⟩
 ·exact .inr ⟨hw,rfl,rfl⟩
theorem qEF {i:Nat} {q q':Bc} (hq:A4 h i=some q) (he:q'.sh=q.sh) (k:Nat):(A4 (Gg i q' h) k).map Bc.sh=(A4 h k).map Bc.sh:=by
 rw [Es]
 split
 ·rename_i e; subst e; simp [hq,he]
 ·rfl
theorem qGJ (hc:qGD x y=true) (hx:Ba P Γ x ⟨e,h⟩ r1 h1) (hy:Ba P Γ y ⟨e,h1⟩ r2 h2):∃ h3 h4,Ba P Γ y ⟨e,h⟩ r2 h3∧Ba P Γ x ⟨e,h3⟩ r1 h4∧∀ k,A4 h4 k=A4 h2 k:=by
 have newst:∀ {j n:Nat} {a v:Operand},x.op.isNew=true→y.op=.stR j n a v→j ≠ x.d→∃ h3 h4,Ba P Γ y ⟨e,h⟩ r2 h3∧Ba P Γ x ⟨e,h3⟩ r1 h4∧∀ k,A4 h4 k=A4 h2 k:=by
  intro j n a v hn ho hne
  rcases hx.newF hn with ⟨rfl,fx⟩ | ⟨q,hq,rfl,fx⟩
  ·exact ⟨h2,h2,hy,fx h2,fun k=>rfl⟩
  ·rcases hy.stF ho with ⟨rfl,fy⟩ | ⟨p,p',hp,hs,rfl,fy⟩
   ·exact ⟨h,_,fy h,fx h hq,fun k=>rfl⟩
   ·have hp':A4 h j=some p:=by simpa [A4,Ne.symm hne] using hp
    refine ⟨_,_,fy h hp',fx _ (by rw [Es,if_neg (Ne.symm hne)]; exact hq),fun k=>?_⟩
    simp only [A4,Es]
    by_cases h1:x.d=k
    ·have:¬ k=j:=fun e=>hne (e.symm.trans h1.symm)
     simp [h1,this]
    ·by_cases h2:k=j
     ·subst h2; simp [h1]
     ·simp [h1,h2]
 have stnew:∀ {j n:Nat} {a v:Operand},y.op.isNew=true→x.op=.stR j n a v→j ≠ y.d→∃ h3 h4,Ba P Γ y ⟨e,h⟩ r2 h3∧Ba P Γ x ⟨e,h3⟩ r1 h4∧∀ k,A4 h4 k=A4 h2 k:=by
  intro j n a v hn ho hne
  rcases hx.stF ho with ⟨rfl,fx⟩ | ⟨p,p',hp,hs,rfl,fx⟩
  ·exact ⟨h2,h2,hy,fx h2,fun k=>rfl⟩
  ·rcases hy.newF hn with ⟨rfl,fy⟩ | ⟨q,hq,rfl,fy⟩
   ·exact ⟨h,_,fy h,fx h hp,fun k=>rfl⟩
   ·have hq':A4 h y.d=none:=by rw [Es,if_neg (Ne.symm hne)] at hq; exact hq
    refine ⟨_,_,fy h hq',fx _ (by simp [A4,Ne.symm hne,hp]),fun k=>?_⟩
    simp only [A4,Es]
    by_cases h1:y.d=k
    ·have:¬ k=j:=fun e=>hne (e.symm.trans h1.symm)
     simp [h1,this]
    ·by_cases h2:k=j
     ·subst h2; simp [h1]
     ·simp [h1,h2]
 have newnew:x.op.isNew=true→y.op.isNew=true→x.d ≠ y.d→∃ h3 h4,Ba P Γ y ⟨e,h⟩ r2 h3∧Ba P Γ x ⟨e,h3⟩ r1 h4∧∀ k,A4 h4 k=A4 h2 k:=by
  intro hn hn' hne
  rcases hx.newF hn with ⟨rfl,fx⟩ | ⟨q,hq,rfl,fx⟩
  ·exact ⟨h2,h2,hy,fx h2,fun k=>rfl⟩
  ·rcases hy.newF hn' with ⟨rfl,fy⟩ | ⟨p,hp,rfl,fy⟩
   ·exact ⟨h,_,fy h,fx h hq,fun k=>rfl⟩
   ·have hp':A4 h y.d=none:=by simpa [A4,hne] using hp
    refine ⟨_,_,fy h hp',fx _ (by simp [A4,Ne.symm hne,hq]),fun k=>?_⟩
    simp only [A4]
    by_cases h1:x.d=k
    ·have:¬ y.d=k:=fun e=>hne (h1.trans e.symm)
     simp [h1,this]
    ·simp [h1]
 unfold qGD at hc
 split at hc
 ·rename_i i n a v j n' a' v' ox oy
  have hne:i ≠ j:=by simpa using hc
  rcases hx.stF ox with ⟨rfl,fx⟩ | ⟨q,q',hq,hs,rfl,fx⟩
  ·exact ⟨h2,h2,hy,fx h2,fun k=>rfl⟩
  ·rcases hy.stF oy with ⟨rfl,fy⟩ | ⟨p,p',hp,hs',rfl,fy⟩
   ·exact ⟨h,_,fy h,fx h hq,fun k=>rfl⟩
   ·have hp':A4 h j=some p:=by rw [Es,if_neg (Ne.symm hne)] at hp; exact hp
    refine ⟨_,_,fy h hp',fx _ (by rw [Es,if_neg hne]; exact hq),fun k=>?_⟩
    simp only [Es]
    by_cases h1:k=i
    ·subst h1; simp [hne]
    ·by_cases h2:k=j
     ·subst h2; simp [h1]
     ·simp [h1,h2]
 ·rename_i i n a v j n' g' a' ox oy
  have hne:i ≠ j:=by simpa using hc
  obtain ⟨rfl,fy⟩:=hy.ldF oy
  rcases hx.stF ox with ⟨rfl,fx⟩ | ⟨q,q',hq,hs,rfl,fx⟩
  ·exact ⟨_,_,hy,hx,fun k=>rfl⟩
  ·exact ⟨h,_,fy h (by rw [Es,if_neg (Ne.symm hne)]),hx,fun k=>rfl⟩
 ·rename_i i n g a j n' a' v' ox oy
  have hne:i ≠ j:=by simpa using hc
  obtain ⟨rfl,fx⟩:=hx.ldF ox
  rcases hy.stF oy with ⟨rfl,fy⟩ | ⟨p,p',hp,hs',rfl,fy⟩
  ·exact ⟨_,_,hy,hx,fun k=>rfl⟩
  ·exact ⟨_,_,hy,fx _ (by rw [Es,if_neg hne]),fun k=>rfl⟩
 ·rename_i i n a v s0 x' i' ox oy
  obtain ⟨rfl,fy⟩:=hy.iaF oy
  rcases hx.stF ox with ⟨rfl,fx⟩ | ⟨q,q',hq,hs,rfl,fx⟩
  ·exact ⟨_,_,hy,hx,fun k=>rfl⟩
  ·exact ⟨h,_,fy h (fun k=>(qEF hq hs k).symm),hx,fun k=>rfl⟩
 ·rename_i s0 x' i' i n a v ox oy
  obtain ⟨rfl,fx⟩:=hx.iaF ox
  rcases hy.stF oy with ⟨rfl,fy⟩ | ⟨p,p',hp,hs',rfl,fy⟩
  ·exact ⟨_,_,hy,hx,fun k=>rfl⟩
  ·exact ⟨_,_,hy,fx _ (qEF hp hs'),fun k=>rfl⟩
 ·simp only [Bool.and_eq_true] at hc
  exact stnew hc.1 (by assumption) (by simpa using hc.2)
 ·simp only [Bool.and_eq_true] at hc
  exact newst hc.1 (by assumption) (by simpa using hc.2)
 ·rename_i _ _ j n' g' a' oy _
  simp only [Bool.and_eq_true] at hc
  obtain ⟨rfl,fy⟩:=hy.ldF oy
  have hne:j ≠ x.d:=by simpa using hc.2
  rcases hx.newF hc.1 with ⟨rfl,fx⟩ | ⟨q,hq,rfl,fx⟩
  ·exact ⟨_,_,hy,hx,fun k=>rfl⟩
  ·exact ⟨h,_,fy h (by simp [A4,Ne.symm hne]),hx,fun k=>rfl⟩
 ·simp only [Bool.and_eq_true] at hc
  exact newnew hc.1.1 hc.1.2 (by simpa using hc.2)
theorem qI6 {fz:Bool} {ty s0 d dx:Nat} {b v:Operand} {av:AV} (hs:Ap Γ d (.app fz ty s0 b v) ⟨(dx,av)::e,h⟩=some (c,r,st1)) (hb:ev Γ ((dx,av)::e) b=ev Γ e b) (hv:ev Γ ((dx,av)::e) v=ev Γ e v) :
  ∃ F:AV→AV,st1.env=((dx,av)::e).map (fun p=>(p.1,F p.2))∧Ap Γ d (.app fz ty s0 b v) ⟨e,h⟩=some (c,r,⟨e.map fun p=>(p.1,F p.2),st1.hp⟩):=by
 have idm:∀ l:List (Nat × AV),l.map (fun p=>(p.1,id p.2))=l:=fun l=>by simp
 simp only [Ap,hb,hv] at hs ⊢
 revert hs
 cases ev Γ e v with
 | none=>simp
 | some ax =>
  simp only [Option.bind_some]
  cases Br h ax with
  | none=>simp
  | some news =>
   simp only [Option.bind_some]
   cases ev Γ e b with
   | none=>simp
   | some a =>
    simp only [Option.bind_some]
    intro hs
    split at hs
    ·split at hs <;> simp only [Option.some.injEq,Prod.mk.injEq] at hs <;> obtain ⟨rfl,rfl,rfl⟩:=hs
     ·exact ⟨id,(idm _).symm,by rw [idm,if_pos (by assumption)]⟩
     ·exact ⟨id,(idm _).symm,by rw [idm,if_neg (by assumption)]⟩
    ·split at hs
     case h_2=>cases hs
     split at hs <;> simp only [Option.some.injEq,Prod.mk.injEq] at hs <;> obtain ⟨rfl,rfl,rfl⟩:=hs
     ·exact ⟨id,(idm _).symm,by rw [idm,if_pos (by assumption)]⟩
     ·exact ⟨id,(idm _).symm,by rw [idm,if_neg (by assumption)]⟩
    ·split at hs
     case h_2=>cases hs
     rename_i id0 len _ _ _ _ _
     split at hs <;> simp only [Option.some.injEq,Prod.mk.injEq] at hs <;> obtain ⟨rfl,rfl,rfl⟩:=hs
     ·exact ⟨B0 _,rfl,by rw [if_pos (by assumption)]; rfl⟩
     ·exact ⟨B0 _,rfl,by rw [if_neg (by assumption)]; rfl⟩
    ·cases hs
theorem qGK {fz:Bool} {ty s0 d dx:Nat} {b v:Operand} (hs:Ap Γ d (.app fz ty s0 b v) ⟨e,h⟩=some (c,r,st1)) (hb:∀ av:AV,ev Γ ((dx,av)::e) b=ev Γ e b) (hv:∀ av:AV,ev Γ ((dx,av)::e) v=ev Γ e v) :
  ∃ F:AV→AV,st1.env=e.map (fun p=>(p.1,F p.2))∧∀ av:AV,Ap Γ d (.app fz ty s0 b v) ⟨(dx,av)::e,h⟩=some (c,r,⟨((dx,av)::e).map fun p=>(p.1,F p.2),st1.hp⟩):=by
 have idm:∀ l:List (Nat × AV),l.map (fun p=>(p.1,id p.2))=l:=fun l=>by simp
 simp only [Ap,hb,hv] at hs ⊢
 revert hs
 cases ev Γ e v with
 | none=>simp
 | some ax =>
  simp only [Option.bind_some]
  cases Br h ax with
  | none=>simp
  | some news =>
   simp only [Option.bind_some]
   cases ev Γ e b with
   | none=>simp
   | some a =>
    simp only [Option.bind_some]
    intro hs
    split at hs
    ·split at hs <;> simp only [Option.some.injEq,Prod.mk.injEq] at hs <;> obtain ⟨rfl,rfl,rfl⟩:=hs
     ·exact ⟨id,(idm _).symm,fun av=>by rw [idm,if_pos (by assumption)]⟩
     ·exact ⟨id,(idm _).symm,fun av=>by rw [idm,if_neg (by assumption)]⟩
    ·split at hs
     case h_2=>cases hs
     split at hs <;> simp only [Option.some.injEq,Prod.mk.injEq] at hs <;> obtain ⟨rfl,rfl,rfl⟩:=hs
     ·exact ⟨id,(idm _).symm,fun av=>by rw [idm,if_pos (by assumption)]⟩
     ·exact ⟨id,(idm _).symm,fun av=>by rw [idm,if_neg (by assumption)]⟩
    ·split at hs
     case h_2=>cases hs
     rename_i id0 len _ _ _ _ _
     split at hs <;> simp only [Option.some.injEq,Prod.mk.injEq] at hs <;> obtain ⟨rfl,rfl,rfl⟩:=hs
     ·exact ⟨B0 _,rfl,fun av=>by rw [if_pos (by assumption)]; rfl⟩
     ·exact ⟨B0 _,rfl,fun av=>by rw [if_neg (by assumption)]; rfl⟩
    ·cases hs
theorem qBh (hc:qGE x y=true) (hx:Gi P Γ x st s) (hy:Gi P Γ y s s2):∃ t t2,Gi P Γ y st t∧Gi P Γ x t t2∧F7 s2 t2:=by
 obtain ⟨dst1,op1,g1,id1⟩:=x
 obtain ⟨dst2,op2,g2,id2⟩:=y
 unfold qGE at hc
 split at hc
 case h_3=>cases hc
 case h_2 =>
  rename_i fz ty s0 b v a dy dx ox oy e1 e2
  simp only at ox oy e1 e2
  subst ox; subst oy; subst e1; subst e2
  simp only [Bool.and_eq_true,Option.isNone_iff_eq_none,bne_iff_ne,ne_eq] at hc
  obtain ⟨⟨⟨⟨⟨rfl,rfl⟩,hb⟩,hv⟩,hda⟩,hdd⟩:=hc
  obtain ⟨e,h⟩:=st
  simp only [Gi,Gt,reduceCtorEq,Option.some.injEq,Bool.true_eq_false,false_and,or_false,true_and] at hx hy
  obtain ⟨r1,st1,⟨c1,hs1,hc1⟩,rfl⟩:=hx
  obtain ⟨r2,st2,⟨c2,hs2,hc2⟩,rfl⟩:=hy
  simp only [Ap,ev,Option.map_eq_some_iff,Prod.mk.injEq] at hs2
  obtain ⟨av',hav',rfl,rfl,rfl⟩:=hs2
  have evne:∀ {o:Operand},(match o with | .tmp t=>t != dx | _=>true)=true→∀ av:AV,ev Γ ((dx,av)::e) o=ev Γ e o:=fun {o} ho av=>by
   cases o with
   | tmp t =>
    simp only [bne_iff_ne,ne_eq] at ho
    simp only [ev,A4]
    rw [if_neg (fun h=>ho h.symm)]
   | _=>rfl
  obtain ⟨F,h1,h2⟩:=qGK (d:=RO.d ⟨some dy,.app fz ty s0 b v,none,id1⟩) hs1 (evne hb) (evne hv)
  have hav2:A4 ((dy,r1)::st1.env) a=some av':=hav'
  simp only [A4] at hav2
  rw [if_neg hda,h1,F6 F] at hav2
  obtain ⟨av,hav,rfl⟩:=Option.map_eq_some_iff.1 hav2
  refine ⟨⟨(dx,av)::e,h⟩,⟨(dy,r1)::((dx,av)::e).map fun p=>(p.1,F p.2),st1.hp⟩,.inl ⟨rfl,av,⟨e,h⟩,⟨True,?_,trivial⟩,rfl⟩,.inl ⟨rfl,r1,⟨((dx,av)::e).map fun p=>(p.1,F p.2),st1.hp⟩,⟨c1,h2 av,hc1⟩,rfl⟩,fun k=>?_,fun k=>rfl⟩
  ·simp only [Ap,ev,hav]
   rfl
  ·show A4 ((dy,r1)::(dx,F av)::e.map fun p=>(p.1,F p.2)) k=A4 ((dx,F av)::(dy,r1)::st1.env) k
   rw [h1]
   simp only [A4]
   by_cases h3:dx=k
   ·subst h3
    rw [if_pos rfl,if_neg hdd,if_pos rfl]
   ·rw [if_neg h3]
    simp only [if_neg h3]
 rename_i a fz ty s0 b v dx dy ox oy e1 e2
 simp only at ox oy e1 e2
 subst ox; subst oy; subst e1; subst e2
 simp only [Bool.and_eq_true,Option.isNone_iff_eq_none,bne_iff_ne,ne_eq] at hc
 obtain ⟨⟨⟨⟨⟨rfl,rfl⟩,hb⟩,hv⟩,hda⟩,hdd⟩:=hc
 obtain ⟨e,h⟩:=st
 simp only [Gi,Gt,reduceCtorEq,Option.some.injEq,Bool.true_eq_false,false_and,or_false,true_and] at hx hy
 obtain ⟨r1,st1,⟨c1,hs1,hc1⟩,rfl⟩:=hx
 obtain ⟨r2,st2,⟨c2,hs2,hc2⟩,rfl⟩:=hy
 simp only [Ap,ev,Option.map_eq_some_iff,Prod.mk.injEq] at hs1
 obtain ⟨av,hav,rfl,rfl,rfl⟩:=hs1
 have evne:∀ {o:Operand},(match o with | .tmp t=>t != dx | _=>true)=true→ev Γ ((dx,av)::e) o=ev Γ e o:=fun {o} ho=>by
  cases o with
  | tmp t =>
   simp only [bne_iff_ne,ne_eq] at ho
   simp only [ev,A4]
   rw [if_neg (fun h=>ho h.symm)]
  | _=>rfl
 obtain ⟨F,h1,h2⟩:=qI6 (d:=RO.d ⟨some dy,.app fz ty s0 b v,none,id2⟩) hs2 (evne hb) (evne hv)
 refine ⟨⟨(dy,r2)::e.map fun p=>(p.1,F p.2),st2.hp⟩,⟨(dx,F av)::(dy,r2)::e.map fun p=>(p.1,F p.2),st2.hp⟩,.inl ⟨rfl,r2,_,⟨c2,h2,hc2⟩,rfl⟩,.inl ⟨rfl,F av,⟨(dy,r2)::e.map fun p=>(p.1,F p.2),st2.hp⟩,⟨True,?_,trivial⟩,rfl⟩,fun k=>?_,fun k=>rfl⟩
 ·simp only [Ap,ev,A4]
  rw [if_neg hda,F6 F,hav]
  rfl
 ·show A4 ((dx,F av)::(dy,r2)::_) k=A4 ((dy,r2)::st2.env) k
  rw [h1]
  simp only [A4,List.map_cons]
  by_cases h3:dx=k
  ·subst h3
   rw [if_pos rfl,if_neg hdd,if_pos rfl]
  ·rw [if_neg h3]
   simp only [if_neg h3]
theorem q2Z {o:Operand} {t:Nat} (h:nt o t=true) (av:AV):ev Γ ((t,av)::e) o=ev Γ e o:=by
 cases o with
 | tmp k =>
  simp only [nt,bne_iff_ne,ne_eq] at h
  simp only [ev,A4]
  rw [if_neg (fun e=>h e.symm)]
 | _=>rfl
theorem qA0 {i:Nat} {a:AV} {x:T} (h:B0 i a=.t x):a=.t x:=by
 cases a with
 | t y=>exact h
 | fn f cs=>cases cs <;> simp only [B0,kill1] at h <;> (try split at h) <;> cases h
 | ag cs=>simp [B0] at h
 | tu cs=>simp [B0] at h
 | dead=>simp [B0,kill1] at h
 | un=>simp [B0,kill1] at h
 | _=>simp only [B0,kill1] at h; split at h <;> cases h
theorem q3W {i ty d:Nat} {b v:Operand} (hs:Ap Γ d (.appR true i ty b v) ⟨e,h⟩=some (c,r,st1)):st1=St.kill i ⟨e,h⟩ ∧
  ∀ e' h',ev Γ e' b=ev Γ e b→ev Γ e' v=ev Γ e v→A4 h' i=A4 h i→Ap Γ d (.appR true i ty b v) ⟨e',h'⟩=some (c,r,St.kill i ⟨e',h'⟩):=by
 simp only [Ap] at hs
 split at hs
 case h_2=>cases hs
 rename_i news _ _ id len hx hbb
 split at hs
 case h_2=>cases hs
 rename_i t q es hlk
 simp only [if_true,Option.some.injEq,Prod.mk.injEq] at hs
 obtain ⟨rfl,rfl,rfl⟩:=hs
 exact ⟨rfl,fun e' h' hb hv hl=>by simp only [Ap,hb,hv,hx,hbb,hl,hlk,if_true]⟩
theorem q1Q {i k:Nat}:A4 (St.kill i ⟨e,h⟩).hp k=if k=i then none else (A4 h k).map (Hi i):=Wx (st:=⟨e,h⟩) i k
theorem q9W {i:Nat} {zs:List Value}:Hi i (.bx (zs.map fun z=>AV.t (Bo z)))=.bx (zs.map fun z=>AV.t (Bo z)):=by
 simp only [Hi,List.map_map]; rfl
theorem q0Z {dx dy k:Nat} {l:List (Nat × AV)} {p q:AV} (h:dx ≠ dy):A4 ((dx,p)::(dy,q)::l) k=A4 ((dy,q)::(dx,p)::l) k:=by
 simp only [A4]
 by_cases h1:dx=k
 ·subst h1; rw [if_pos rfl,if_neg (fun e=>h e.symm)]; simp
 ·rw [if_neg h1,if_neg h1]
theorem qEG {i d2 k:Nat} {zs:List Value} (h1:d2 ≠ i):A4 ((d2,Bc.bx (zs.map fun z=>AV.t (Bo z)))::(St.kill i ⟨e,h⟩).hp) k=A4 (St.kill i ⟨e',(d2,Bc.bx (zs.map fun z=>AV.t (Bo z)))::h⟩).hp k:=by
 simp only [A4,q1Q]
 by_cases h3:d2=k
 ·subst h3
  rw [if_pos rfl,if_neg h1,if_pos rfl,Option.map_some,q9W]
 ·rw [if_neg h3,if_neg h3]
def klF:Option Nat→AV→AV
 | none,a=>a
 | some i,a=>B0 i a
def klR:Option Nat→Bc→Bc
 | none,r=>r
 | some i,r=>Hi i r
def klH:Option Nat→List (Nat × Bc)→List (Nat × Bc)
 | none,h=>h
 | some i,h=>(del i h).map fun p=>(p.1,Hi i p.2)
theorem qF9 {ty s0 d dy:Nat} {b v:Operand} (hs:Ap Γ d (.app false ty s0 b v) ⟨e,h⟩=some (c,r,st1)) (hb:∀ av:AV,ev Γ ((dy,av)::e) b=ev Γ e b) (hv:∀ av:AV,ev Γ ((dy,av)::e) v=ev Γ e v) :
  ∃ K q,st1=⟨e.map fun p=>(p.1,klF K p.2),(d,q)::klH K h⟩∧∀ av:AV,Ap Γ d (.app false ty s0 b v) ⟨(dy,av)::e,h⟩=some (c,r,⟨((dy,av)::e).map fun p=>(p.1,klF K p.2),(d,q)::klH K h⟩):=by
 have idm:∀ l:List (Nat × AV),l.map (fun p=>(p.1,klF none p.2))=l:=fun l=>by simp [klF]
 simp only [Ap,hb,hv] at hs ⊢
 revert hs
 cases ev Γ e v with
 | none=>simp
 | some ax =>
  simp only [Option.bind_some]
  cases Br h ax with
  | none=>simp
  | some news =>
   simp only [Option.bind_some]
   cases ev Γ e b with
   | none=>simp
   | some a =>
    simp only [Option.bind_some,Bool.false_eq_true,if_false]
    intro hs
    split at hs
    ·simp only [Option.some.injEq,Prod.mk.injEq] at hs
     obtain ⟨rfl,rfl,rfl⟩:=hs
     exact ⟨none,_,by rw [idm]; rfl,fun av=>by rw [idm]; rfl⟩
    ·split at hs
     case h_2=>cases hs
     simp only [Option.some.injEq,Prod.mk.injEq] at hs
     obtain ⟨rfl,rfl,rfl⟩:=hs
     exact ⟨none,_,by rw [idm]; rfl,fun av=>by rw [idm]; rfl⟩
    ·split at hs
     case h_2=>cases hs
     rename_i id0 len _ _ _ _ _
     simp only [Option.some.injEq,Prod.mk.injEq] at hs
     obtain ⟨rfl,rfl,rfl⟩:=hs
     exact ⟨some _,_,rfl,fun av=>rfl⟩
    ·cases hs
theorem qLm {K:Option Nat} {a:AV} {x:T} (h:klF K a=.t x):a=.t x:=by
 cases K with
 | none=>exact h
 | some i=>exact qA0 h
theorem q6c {K:Option Nat} {x:T}:klF K (.t x)=.t x:=by cases K <;> rfl
theorem qGL {K:Option Nat} {a:AV} {j i k:Nat} (h:klF K a=.lp j i k):a=.lp j i k∧∀ q,K=some q→j ≠ q:=by
 cases K with
 | none=>exact ⟨h,fun q e=>by cases e⟩
 | some q =>
  simp only [klF] at h
  cases a with
  | lp j' i' k' =>
   simp only [B0,kill1] at h
   split at h
   ·cases h
   ·rename_i hne
    cases h
    exact ⟨rfl,fun q' e=>by cases e; exact hne⟩
  | fn f cs=>cases cs <;> simp only [B0,kill1] at h <;> (try split at h) <;> cases h
  | ag cs=>simp [B0] at h
  | tu cs=>simp [B0] at h
  | t x=>simp [B0,kill1] at h
  | dead=>simp [B0,kill1] at h
  | un=>simp [B0,kill1] at h
  | _=>simp only [B0,kill1] at h; split at h <;> cases h
theorem qBi {K:Option Nat} {j i k:Nat} (h:∀ q,K=some q→j ≠ q):klF K (.lp j i k)=.lp j i k:=by
 cases K with
 | none=>rfl
 | some q=>simp only [klF,B0,kill1]; rw [if_neg (h q rfl)]
theorem qGM {K:Option Nat}:klF K .dead=.dead:=by cases K <;> rfl
theorem qGN {K:Option Nat} {j:Nat} (hj:∀ q,K=some q→j ≠ q):A4 (klH K h) j=(A4 h j).map (klR K):=by
 cases K with
 | none=>simp only [klH]; cases A4 h j <;> rfl
 | some i =>
  simp only [klH]
  rw [F6,q5O,if_neg (hj i rfl)]
  rfl
theorem qFA {f:AV→AV} {l:List AV} {d:AV}:(l.map f).headD (f d)=f (l.headD d):=by cases l <;> rfl
theorem qFB {i:Nat} {a:AV} {x:T} (h:q0Q (kill1 i a)=some x):q0Q a=some x:=by
 cases a with
 | t y=>exact h
 | fn f cs=>cases cs <;> simp only [kill1] at h <;> (try split at h) <;> simp [q0Q] at h
 | ag cs=>simp [kill1,q0Q] at h
 | tu cs=>simp [kill1,q0Q] at h
 | dead=>simp [kill1,q0Q] at h
 | un=>simp [kill1,q0Q] at h
 | _=>simp only [kill1] at h; split at h <;> simp [q0Q] at h
theorem q4g {α β:Type} {f g:α→Option β}:∀ {l:List α} {m:List β},(∀ a b,f a=some b→g a=some b)→Ai (l.map f)=some m→Ai (l.map g)=some m
 | [],m,_,h=>h
 | a::l,m,hi,h=>by
  simp only [List.map_cons] at h ⊢
  cases hf:f a with
  | none=>rw [hf] at h; simp [Ai] at h
  | some b =>
   rw [hf] at h
   simp only [Ai,Option.map_eq_some_iff] at h
   obtain ⟨m',hm',rfl⟩:=h
   rw [hi a b hf]
   simp only [Ai,Option.map_eq_some_iff]
   exact ⟨m',q4g hi hm',rfl⟩
theorem qGO {K:Option Nat} {a:AV} {ts:List T} (h:N8 (klF K a).cells=some ts):N8 a.cells=some ts:=by
 cases K with
 | none=>exact h
 | some i =>
  simp only [klF] at h
  cases a with
  | t x=>exact h
  | ag cs =>
   simp only [B0,AV.cells,N8,List.map_map] at h ⊢
   exact q4g (f:=q0Q ∘ kill1 i) (fun a b hab=>qFB hab) h
  | tu cs=>simp [B0,AV.cells,N8,q0Q,Ai] at h
  | fn f cs=>cases cs <;> simp only [B0,kill1] at h <;> (try split at h) <;> simp [AV.cells,N8,q0Q,Ai] at h
  | dead=>simp [B0,kill1,AV.cells,N8,q0Q,Ai] at h
  | un=>simp [B0,kill1,AV.cells,N8,q0Q,Ai] at h
  | _=>simp only [B0,kill1] at h; split at h <;> simp [AV.cells,N8,q0Q,Ai] at h
theorem qGP {K:Option Nat} {dx:Nat} {r0:AV} {o:Operand} (h:nt o dx=true):ev Γ ((dx,r0)::e.map fun p=>(p.1,klF K p.2)) o=(ev Γ e o).map (klF K):=by
 rw [q2Z h]
 cases o with
 | tmp t=>simp only [ev]; rw [F6]
 | const v=>simp [ev,q5P,q6c]
 | global g=>simp only [ev,Option.map_map]; cases Γ g <;> simp [q6c]
 | func f=>simp [ev,q6c]
theorem q7G {α β γ:Type} {f:α→Option β} {g:β→γ}:∀ {l:List α},Ai (l.map fun a=>(f a).map g)=(Ai (l.map f)).map (List.map g)
 | []=>rfl
 | a::l=>by
  simp only [List.map_cons]
  have ih:=q7G (f:=f) (g:=g) (l:=l)
  cases f a with
  | none=>rfl
  | some b =>
   simp only [Option.map_some,Ai,ih,Option.map_map]
   cases Ai (l.map f) <;> rfl
theorem qLn {K:Option Nat} {dx d2:Nat} {r0:AV} {d:Nat} {q:Bc} (hk:(∃ off a,io=.fadr off (.tmp a)∧a ≠ dx)∨(∃ j n a,io=.ldR j n false (.tmp a)∧a ≠ dx∧j ≠ d)∨∃ ty s ps,io=.bsl true ty s ps∧ps.all (nt · dx)=true)
  (hs:Ap Γ d2 io ⟨(dx,r0)::e.map fun p=>(p.1,klF K p.2),(d,q)::klH K h⟩=some (c,r,st2)) (hc:c) :
  st2=⟨(dx,r0)::e.map fun p=>(p.1,klF K p.2),(d,q)::klH K h⟩∧∃ c' r',Ap Γ d2 io ⟨e,h⟩=some (c',r',⟨e,h⟩)∧c'∧klF K r'=r:=by
 have ea:∀ {a:Nat},a ≠ dx→ev Γ ((dx,r0)::e.map fun p=>(p.1,klF K p.2)) (.tmp a)=(A4 e a).map (klF K):=fun {a} ha=>by
  have:nt (.tmp a) dx=true:=by simp [nt,ha]
  rw [qGP this]; rfl
 rcases hk with ⟨off,a,rfl,ha⟩ | ⟨j,n,a,rfl,ha,hj⟩ | ⟨ty,s,ps,rfl,hps⟩
 ·simp only [Ap,ea ha] at hs ⊢
  have ee:ev Γ e (.tmp a)=A4 e a:=rfl
  rw [ee]
  cases hl:A4 e a with
  | none=>rw [hl] at hs; simp at hs
  | some a0 =>
   rw [hl] at hs
   simp only [Option.map_some] at hs
   split at hs
   ·rename_i cs k hk
    simp only [Option.some.injEq] at hk
    have:=qLm hk
    subst this
    simp only [Option.some.injEq,Prod.mk.injEq] at hs
    obtain ⟨rfl,rfl,rfl⟩:=hs
    exact ⟨rfl,True,_,rfl,trivial,q6c⟩
   ·rename_i id i k hk
    simp only [Option.some.injEq] at hk
    obtain ⟨rfl,hne⟩:=qGL hk
    simp only [Option.some.injEq,Prod.mk.injEq] at hs
    obtain ⟨rfl,rfl,rfl⟩:=hs
    exact ⟨rfl,True,_,rfl,trivial,qBi hne⟩
   ·cases hs
 ·simp only [Ap,ea ha] at hs ⊢
  have ee:ev Γ e (.tmp a)=A4 e a:=rfl
  rw [ee]
  cases hl:A4 e a with
  | none=>rw [hl] at hs; simp [Ei] at hs
  | some a0 =>
   rw [hl] at hs
   simp only [Option.map_some] at hs
   split at hs
   case isFalse=>cases hs
   rename_i hp
   obtain ⟨i,k,hk⟩:∃ i k,klF K a0=.lp j i k:=by
    cases h0:klF K a0 with
    | lp j' i k=>rw [h0] at hp; simp only [Ei,beq_iff_eq] at hp; subst hp; exact ⟨i,k,rfl⟩
    | _=>rw [h0] at hp; simp [Ei] at hp
   obtain ⟨rfl,hne⟩:=qGL hk
   rw [hk] at hs
   simp only [A4,if_neg (fun e=>hj e.symm:¬ d=j)] at hs
   rw [qGN hne] at hs
   have hp2:Ei j (some (.lp j i k))=true:=by simp [Ei]
   rw [if_pos hp2]
   simp only
   cases hr:A4 h j with
   | none=>rw [hr] at hs; simp at hs
   | some rg =>
    rw [hr] at hs
    simp only [Option.map_some] at hs
    cases rg with
    | sl t s es =>
     have e1:klR K (.sl t s es)=.sl t s es:=by cases K <;> rfl
     rw [e1] at hs
     simp only [Option.some.injEq,Prod.mk.injEq] at hs
     obtain ⟨rfl,rfl,rfl⟩:=hs
     exact ⟨rfl,_,_,rfl,hc,q6c⟩
    | bx cs =>
     have e1:klR K (.bx cs)=.bx (cs.map (klF K)):=by
      cases K with
      | none=>simp only [klR]; congr 1; exact (List.map_id cs).symm
      | some i=>rfl
     rw [e1] at hs
     simp only [Option.some.injEq,Prod.mk.injEq,List.length_map] at hs
     obtain ⟨rfl,rfl,rfl⟩:=hs
     refine ⟨rfl,_,_,rfl,hc,?_⟩
     simp only [X5,Bool.false_eq_true,if_false]
     rw [← List.map_drop,← List.map_take]
     conv=>rhs; rw [← qGM (K:=K)]
     exact qFA.symm
    | mp es =>
     have e1:klR K (.mp es)=.mp es:=by cases K <;> rfl
     rw [e1] at hs; cases hs
    | it s p =>
     have e1:klR K (.it s p)=.it s p:=by cases K <;> rfl
     rw [e1] at hs; cases hs
 ·have ev1:evs Γ ((dx,r0)::e.map fun p=>(p.1,klF K p.2)) ps=(evs Γ e ps).map (List.map (klF K)):=by
   unfold evs
   rw [← q7G]
   congr 1
   exact List.map_congr_left fun o ho=>qGP (List.all_eq_true.1 hps o ho)
  simp only [Ap,ev1] at hs ⊢
  cases hev:evs Γ e ps with
  | none=>rw [hev] at hs; simp at hs
  | some as =>
   rw [hev] at hs
   simp only [Option.map_some,Option.bind_some,List.map_map,if_true] at hs ⊢
   cases ho:Ai (as.map ((fun a=>N8 a.cells) ∘ klF K)) with
   | none=>rw [ho] at hs; simp at hs
   | some es =>
    rw [ho] at hs
    have h2:Ai (as.map fun a=>N8 a.cells)=some es:=q4g (fun a b hab=>qGO hab) ho
    rw [h2]
    simp only [Option.map_some,Option.some.injEq,Prod.mk.injEq] at hs ⊢
    obtain ⟨rfl,rfl,rfl⟩:=hs
    exact ⟨rfl,_,_,⟨rfl,rfl,trivial⟩,hc,q6c⟩
theorem qBj (hc:qGG x y=true) (hx:Gi P Γ x st s) (hy:Gi P Γ y s s2):∃ t t2,Gi P Γ y st t∧Gi P Γ x t t2∧F7 s2 t2:=by
 obtain ⟨dst1,op1,g1,id1⟩:=x
 obtain ⟨dst2,op2,g2,id2⟩:=y
 obtain ⟨ty,s0,b,v,dx,dy,rfl,rfl,rfl,rfl,rfl,hb,hv,hdd,hk⟩:∃ ty s0 b v dx dy,op1=.app false ty s0 b v∧dst1=some dx∧dst2=some dy∧g1=none∧g2=none∧nt b dy=true∧nt v dy=true∧dx ≠ dy ∧
   ((∃ off a,op2=.fadr off (.tmp a)∧a ≠ dx)∨(∃ j n a,op2=.ldR j n false (.tmp a)∧a ≠ dx∧j ≠ RO.d ⟨dst1,op1,g1,id1⟩)∨∃ ty s ps,op2=.bsl true ty s ps∧ps.all (nt · dx)=true):=by
  unfold qGG at hc
  split at hc
  ·rename_i _ _ b v off a dx dy ox oy e1 e2
   simp only at ox oy e1 e2
   subst ox; subst oy; subst e1; subst e2
   simp only [Bool.and_eq_true,Option.isNone_iff_eq_none,bne_iff_ne,ne_eq] at hc
   obtain ⟨⟨⟨⟨⟨h1,h2⟩,hb⟩,hv⟩,ha⟩,hd⟩:=hc
   exact ⟨_,_,_,_,_,_,rfl,rfl,rfl,h1,h2,hb,hv,hd,.inl ⟨_,_,rfl,ha⟩⟩
  ·rename_i _ _ b v j n a dx dy ox oy e1 e2
   simp only at ox oy e1 e2
   subst ox; subst oy; subst e1; subst e2
   simp only [Bool.and_eq_true,Option.isNone_iff_eq_none,bne_iff_ne,ne_eq] at hc
   obtain ⟨⟨⟨⟨⟨⟨h1,h2⟩,hb⟩,hv⟩,ha⟩,hd⟩,hj⟩:=hc
   exact ⟨_,_,_,_,_,_,rfl,rfl,rfl,h1,h2,hb,hv,hd,.inr (.inl ⟨_,_,_,rfl,ha,hj⟩)⟩
  ·rename_i _ _ b v _ _ ps dx dy ox oy e1 e2
   simp only at ox oy e1 e2
   subst ox; subst oy; subst e1; subst e2
   simp only [Bool.and_eq_true,Option.isNone_iff_eq_none,bne_iff_ne,ne_eq] at hc
   obtain ⟨⟨⟨⟨⟨h1,h2⟩,hb⟩,hv⟩,ha⟩,hd⟩:=hc
   exact ⟨_,_,_,_,_,_,rfl,rfl,rfl,h1,h2,hb,hv,hd,.inr (.inr ⟨_,_,_,rfl,ha⟩)⟩
  ·cases hc
 obtain ⟨e,h⟩:=st
 simp only [Gi,Gt,reduceCtorEq,Option.some.injEq,Bool.true_eq_false,false_and,or_false,true_and] at hx
 obtain ⟨r1,st1,⟨c1,hs1,hc1⟩,rfl⟩:=hx
 obtain ⟨K,q,rfl,h2⟩:=qF9 (d:=RO.d ⟨some dx,.app false ty s0 b v,none,id1⟩) hs1 (fun av=>q2Z hb av) (fun av=>q2Z hv av)
 have hy':∃ r2 st2,(∃ c2,Ap Γ (RO.d ⟨some dy,op2,none,id2⟩) op2 ⟨(dx,r1)::e.map fun p=>(p.1,klF K p.2),(RO.d ⟨some dx,.app false ty s0 b v,none,id1⟩,q)::klH K h⟩=some (c2,r2,st2)∧c2)∧s2=⟨(dy,r2)::st2.env,st2.hp⟩:=by
  rcases hk with ⟨off,a,rfl,ha⟩ | ⟨j,n,a,rfl,ha,hj⟩ | ⟨ty,s,ps,rfl,hps⟩ <;>
  ·simp only [Gi,Gt,reduceCtorEq,Option.some.injEq,Bool.true_eq_false,false_and,or_false,true_and] at hy
   exact hy
 obtain ⟨r2,st2,⟨c2,hs2,hc2⟩,rfl⟩:=hy'
 obtain ⟨rfl,c',r',hs',hcc,rfl⟩:=qLn hk hs2 hc2
 refine ⟨⟨(dy,r')::e,h⟩,⟨(dx,r1)::((dy,r')::e).map fun p=>(p.1,klF K p.2),(RO.d ⟨some dx,.app false ty s0 b v,none,id1⟩,q)::klH K h⟩,.inl ⟨rfl,r',⟨e,h⟩,?_,rfl⟩,.inl ⟨rfl,r1,_,⟨c1,h2 r',hc1⟩,rfl⟩,fun k=>?_,fun k=>rfl⟩
 ·rcases hk with ⟨off,a,rfl,ha⟩ | ⟨j,n,a,rfl,ha,hj⟩ | ⟨ty,s,ps,rfl,hps⟩ <;> exact ⟨c',hs',hcc⟩
 ·exact q0Z hdd
theorem qBk (hc:qGF x y=true) (hx:Gi P Γ x st s) (hy:Gi P Γ y s s2):∃ t t2,Gi P Γ y st t∧Gi P Γ x t t2∧F7 s2 t2:=by
 obtain ⟨dst1,op1,g1,id1⟩:=x
 obtain ⟨dst2,op2,g2,id2⟩:=y
 unfold qGF at hc
 split at hc
 case h_5=>cases hc
 ·rename_i i ty b v n g a dx dy ox oy e1 e2
  simp only at ox oy e1 e2
  subst ox; subst oy; subst e1; subst e2
  simp only [Bool.and_eq_true,Option.isNone_iff_eq_none,bne_iff_ne,ne_eq] at hc
  obtain ⟨⟨⟨⟨⟨rfl,rfl⟩,hb⟩,hv⟩,hax⟩,hxy⟩:=hc
  obtain ⟨e,h⟩:=st
  simp only [Gi,Gt,reduceCtorEq,Option.some.injEq,Bool.true_eq_false,false_and,or_false,true_and] at hx hy
  obtain ⟨r1,st1,⟨c1,hs1,hc1⟩,rfl⟩:=hx
  obtain ⟨r2,st2,⟨c2,hs2,hc2⟩,rfl⟩:=hy
  obtain ⟨rfl,mv⟩:=q3W hs1
  simp only [Ap,ev,St.put,A4,if_neg (fun q:dx=a=>hax q.symm),St.kill,F6 (B0 i)] at hs2
  split at hs2
  case h_2=>cases hs2
  rename_i cs k hla
  obtain ⟨av,hav,hk⟩:=Option.map_eq_some_iff.1 hla
  have:=qA0 hk; subst this
  simp only [Option.some.injEq,Prod.mk.injEq] at hs2
  obtain ⟨rfl,rfl,rfl⟩:=hs2
  refine ⟨⟨(dy,.t (K4 g ((cs.drop k).take n)))::e,h⟩,_,.inl ⟨rfl,_,⟨e,h⟩,⟨_,by simp only [Ap,ev,hav],hc2⟩,rfl⟩,.inl ⟨rfl,r1,_,⟨c1,mv _ _ (q2Z hb _) (q2Z hv _) rfl,hc1⟩,rfl⟩,fun k=>?_,fun k=>rfl⟩
  exact (q0Z hxy)
 ·rename_i n g a i ty b v dy dx ox oy e1 e2
  simp only at ox oy e1 e2
  subst ox; subst oy; subst e1; subst e2
  simp only [Bool.and_eq_true,Option.isNone_iff_eq_none,bne_iff_ne,ne_eq] at hc
  obtain ⟨⟨⟨⟨⟨rfl,rfl⟩,hb⟩,hv⟩,hax⟩,hxy⟩:=hc
  obtain ⟨e,h⟩:=st
  simp only [Gi,Gt,reduceCtorEq,Option.some.injEq,Bool.true_eq_false,false_and,or_false,true_and] at hx hy
  obtain ⟨r1,st1,⟨c1,hs1,hc1⟩,rfl⟩:=hx
  obtain ⟨r2,st2,⟨c2,hs2,hc2⟩,rfl⟩:=hy
  simp only [Ap,ev] at hs1
  split at hs1
  case h_2=>cases hs1
  rename_i cs k hla
  simp only [Option.some.injEq,Prod.mk.injEq] at hs1
  obtain ⟨rfl,rfl,rfl⟩:=hs1
  obtain ⟨rfl,mv⟩:=q3W hs2
  refine ⟨_,⟨(dy,.t (K4 g ((cs.drop k).take n)))::(dx,r2)::(St.kill i ⟨e,h⟩).env,(St.kill i ⟨e,h⟩).hp⟩,.inl ⟨rfl,r2,_,⟨c2,mv _ _ (q2Z hb _).symm (q2Z hv _).symm rfl,hc2⟩,rfl⟩,.inl ⟨rfl,.t (K4 g ((cs.drop k).take n)),⟨(dx,r2)::(St.kill i ⟨e,h⟩).env,(St.kill i ⟨e,h⟩).hp⟩,⟨_,?_,hc1⟩,rfl⟩,fun k=>?_,fun k=>rfl⟩
  ·simp only [Ap,ev,St.put,A4,if_neg (fun q:dx=a=>hax q.symm),St.kill,F6 (B0 i),hla,Option.map_some]
   rfl
  ·exact q0Z (fun q=>hxy q.symm)
 ·rename_i i ty b v zs dx dy ox oy e1 e2
  simp only at ox oy e1 e2
  subst ox; subst oy; subst e1; subst e2
  simp only [Bool.and_eq_true,Option.isNone_iff_eq_none,bne_iff_ne,ne_eq] at hc
  obtain ⟨⟨⟨⟨⟨rfl,rfl⟩,hb⟩,hv⟩,hxy⟩,hdi⟩:=hc
  obtain ⟨e,h⟩:=st
  simp only [Gi,Gt,reduceCtorEq,Option.some.injEq,Bool.true_eq_false,false_and,or_false,true_and] at hx hy
  obtain ⟨r1,st1,⟨c1,hs1,hc1⟩,rfl⟩:=hx
  obtain ⟨r2,st2,⟨c2,hs2,hc2⟩,rfl⟩:=hy
  obtain ⟨rfl,mv⟩:=q3W hs1
  simp only [Ap,St.put,Bool.false_eq_true,if_false,Option.some.injEq,Prod.mk.injEq] at hs2
  obtain ⟨rfl,rfl,rfl⟩:=hs2
  rw [q1Q,if_neg hdi] at hc2
  have hn2:A4 h (RO.d ⟨some dy,.alloc false zs,none,id2⟩)=none:=by simpa using hc2
  have hk:B0 i (.lp (RO.d ⟨some dy,.alloc false zs,none,id2⟩) 0 0)=.lp (RO.d ⟨some dy,.alloc false zs,none,id2⟩) 0 0:=by simp only [B0,kill1]; rw [if_neg hdi]
  refine ⟨⟨(dy,.lp (RO.d ⟨some dy,.alloc false zs,none,id2⟩) 0 0)::e,((RO.d ⟨some dy,.alloc false zs,none,id2⟩),.bx (zs.map fun z=>.t (Bo z)))::h⟩,⟨(dx,r1)::(dy,.lp (RO.d ⟨some dy,.alloc false zs,none,id2⟩) 0 0)::(St.kill i ⟨e,h⟩).env,(St.kill i ⟨(dy,.lp (RO.d ⟨some dy,.alloc false zs,none,id2⟩) 0 0)::e,((RO.d ⟨some dy,.alloc false zs,none,id2⟩),.bx (zs.map fun z=>.t (Bo z)))::h⟩).hp⟩,.inl ⟨rfl,.lp (RO.d ⟨some dy,.alloc false zs,none,id2⟩) 0 0,⟨e,((RO.d ⟨some dy,.alloc false zs,none,id2⟩),.bx (zs.map fun z=>.t (Bo z)))::h⟩,⟨_,by simp only [Ap,Bool.false_eq_true,if_false],hn2⟩,rfl⟩,.inl ⟨rfl,r1,_,⟨c1,mv _ _ (q2Z hb _) (q2Z hv _) (by simp only [A4]; rw [if_neg hdi]),hc1⟩,?_⟩,fun k=>?_,fun k=>?_⟩
  ·simp only [St.put,St.kill,List.map_cons,hk]
  ·exact q0Z hxy
  ·exact (qEG hdi).symm
 ·rename_i zs i ty b v dy dx ox oy e1 e2
  simp only at ox oy e1 e2
  subst ox; subst oy; subst e1; subst e2
  simp only [Bool.and_eq_true,Option.isNone_iff_eq_none,bne_iff_ne,ne_eq] at hc
  obtain ⟨⟨⟨⟨⟨rfl,rfl⟩,hb⟩,hv⟩,hxy⟩,hdi⟩:=hc
  obtain ⟨e,h⟩:=st
  simp only [Gi,Gt,reduceCtorEq,Option.some.injEq,Bool.true_eq_false,false_and,or_false,true_and] at hx hy
  obtain ⟨r1,st1,⟨c1,hs1,hc1⟩,rfl⟩:=hx
  obtain ⟨r2,st2,⟨c2,hs2,hc2⟩,rfl⟩:=hy
  simp only [Ap,Bool.false_eq_true,if_false,Option.some.injEq,Prod.mk.injEq] at hs1
  obtain ⟨rfl,rfl,rfl⟩:=hs1
  have hk:B0 i (.lp (RO.d ⟨some dy,.alloc false zs,none,id1⟩) 0 0)=.lp (RO.d ⟨some dy,.alloc false zs,none,id1⟩) 0 0:=by simp only [B0,kill1]; rw [if_neg hdi]
  obtain ⟨rfl,mv⟩:=q3W hs2
  refine ⟨_,⟨(dy,.lp (RO.d ⟨some dy,.alloc false zs,none,id1⟩) 0 0)::(dx,r2)::(St.kill i ⟨e,h⟩).env,((RO.d ⟨some dy,.alloc false zs,none,id1⟩),.bx (zs.map fun z=>.t (Bo z)))::(St.kill i ⟨e,h⟩).hp⟩,.inl ⟨rfl,r2,_,⟨c2,mv _ _ (q2Z hb _).symm (q2Z hv _).symm (by show A4 h i=A4 (_::h) i; simp only [A4]; rw [if_neg hdi]),hc2⟩,rfl⟩,.inl ⟨rfl,.lp (RO.d ⟨some dy,.alloc false zs,none,id1⟩) 0 0,⟨(dx,r2)::(St.kill i ⟨e,h⟩).env,((RO.d ⟨some dy,.alloc false zs,none,id1⟩),.bx (zs.map fun z=>.t (Bo z)))::(St.kill i ⟨e,h⟩).hp⟩,⟨_,by simp only [Ap,St.put,Bool.false_eq_true,if_false]; rfl,?_⟩,rfl⟩,fun k=>?_,fun k=>?_⟩
  ·rw [q1Q,if_neg hdi,hc1]; rfl
  ·simp only [St.put,St.kill,List.map_cons,hk]
   exact q0Z (fun q=>hxy q.symm)
  ·exact qEG hdi
theorem qDB (hc:qD9 x y=true) (hx:Gi P Γ x st s) (hy:Gi P Γ y s s2):∃ t t2,Gi P Γ y st t∧Gi P Γ x t t2∧F7 s2 t2:=by
  rw [qD9,Bool.or_eq_true,Bool.or_eq_true,Bool.or_eq_true] at hc
  rcases hc with ((hc | hc) | hc) | hc
  · exact qBh hc hx hy
  · exact qBk hc hx hy
  · exact qBj hc hx hy
  simp only [Bool.and_eq_true,Bool.or_eq_true,decide_eq_true_eq,beq_iff_eq] at hc
  obtain ⟨⟨⟨⟨kx,ky⟩,kk⟩,c1⟩,c2⟩:=hc
  obtain ⟨e,h⟩:=st
  obtain ⟨r,h1,h2,rfl⟩:=qED kx hx
  obtain ⟨r',h3,h4,rfl⟩:=qED ky hy
  have ry:∀ t ∈ y.reads,x.dst ≠ some t:=by
    intro t ht he
    rw [he] at c1
    simp only [Bool.and_eq_true,Bool.not_eq_true',List.contains_eq_mem,decide_eq_false_iff_not] at c1
    exact c1.1 ht
  have rx:∀ t ∈ x.reads,y.dst ≠ some t:=by
    intro t ht he
    rw [he] at c2
    simp only [Bool.not_eq_true',List.contains_eq_mem,decide_eq_false_iff_not] at c2
    exact c2 ht
  have xy:∀ t,x.dst=some t→y.dst ≠ some t:=by
    intro t he hy'
    rw [he,hy'] at c1
    simp at c1
  rw [qEE] at h4
  have h5:Ba P Γ y ⟨e,h1⟩ r' h3:=h4.env ky fun t ht=>(qBg (ry t ht)).symm
  have key:∃ hm he,Ba P Γ y ⟨e,h⟩ r' hm∧Ba P Γ x ⟨e,hm⟩ r he∧∀ k,A4 he k=A4 h3 k:=by
    rcases kk with (kk | kk) | kk
    · refine ⟨if x.op.kd≤1 then h3 else h,h3,?_,?_,fun k=>rfl⟩
      all_goals
        by_cases k1:x.op.kd≤1
        · rw [if_pos k1]
          have:=h2.same k1; subst this
          first
          | exact h5
          | (rcases kk with ((k0 | k0) | k0) | k0
             · exact h2.hp k0
             · have:=h5.same (by omega); subst this; exact h2
             · have:=h5.same k0.2; subst this; exact h2
             · exact h2.add (h5.newN k0.2) k1)
        · rw [if_neg k1]
          have k0:y.op.kd=0:=by
            rcases kk with ((k0 | k0) | k0) | k0
            · omega
            · exact k0
            · omega
            · omega
          have:=h5.same (by omega); subst this
          first
          | exact h2
          | exact h5.hp k0
    · exact qI5 kk.1 kk.2 h2 h5
    · exact qGJ kk h2 h5
  obtain ⟨hm,he,key1,key2,key3⟩:=key
  have h6:Ba P Γ x ⟨(St.put ⟨e,hm⟩ y.dst r').env,hm⟩ r he:=key2.env kx fun t ht=>qBg (rx t ht)
  have h7:=h6.step
  rw [← qEE] at h7
  refine ⟨_,_,key1.step,h7,fun k=>?_,fun k=>by simp only [qJo]; exact key3 k⟩
  cases hxd:x.dst <;> cases hyd:y.dst <;> simp only [St.put]
  rename_i a b
  have hne:b ≠ a:=fun e=>xy a hxd (e ▸ hyd)
  simp only [A4]
  by_cases h1:a=k
  · have:b ≠ k:=fun e=>hne (e.trans h1.symm)
    simp [h1,this]
  · simp [h1]
def q2a (a b:St):Prop:=(∀ k,A4 b.env k=A4 a.env k)∧b.hp=a.hp
theorem q2b {a b:St} {dst:Option Nat} (h:F7 a b):F7 (a.put dst r) (b.put dst r):=by
 cases dst with
 | none=>exact h
 | some t =>
  refine ⟨fun k=>?_,h.2⟩
  simp only [St.put,A4]
  split
  ·rfl
  ·exact h.1 k
theorem qAr (hl:q2a st st') (hs:Fh P Γ d io st r s):∃ s',Fh P Γ d io st' r s'∧q2a s s':=by
 obtain ⟨e,h⟩:=st
 obtain ⟨e',h'⟩:=st'
 obtain ⟨hl1,hl2⟩:=hl
 simp only at hl1 hl2; subst hl2
 have hev:∀ o,ev Γ e' o=ev Γ e o:=by
  intro o
  cases o with
  | tmp t=>exact hl1 t
  | _=>rfl
 by_cases hk:io.kd≤2
 ·have:=q6a hk (fun o _=>hev o) hs
  refine ⟨_,this.2,fun k=>?_,rfl⟩
  rw [this.1]; exact hl1 k
 ·cases io
  case hcall f args rs base =>
   obtain ⟨as,res,hp',h1,h2,h3,h4,rfl,rfl⟩:=hs
   refine ⟨_,⟨as,res,hp',(L9 fun o _=>hev o).trans h1,h2,h3,h4,rfl,rfl⟩,fun k=>?_,rfl⟩
   have:=hl1 k
   simp only [K5,F6 (Be (q5Y rs hp')),this]
  case hcallv x args rs base =>
   obtain ⟨av,f,cs,as,res,hp',g1,g2,h1,h2,h3,h4,rfl,rfl⟩:=hs
   refine ⟨_,⟨av,f,cs,as,res,hp',(hev x).trans g1,g2,(L9 fun o _=>hev o).trans h1,h2,h3,h4,rfl,rfl⟩,fun k=>?_,rfl⟩
   have:=hl1 k
   simp only [K5,F6 (Be (q5Y rs hp')),this]
  case cpy s0 x y =>
   obtain ⟨c,hs,hc⟩:=hs
   simp only [Ap] at hs
   split at hs
   case h_2=>cases hs
   rename_i id off len cap f1
   split at hs
   case h_2=>cases hs
   rename_i ty2 q es f2
   obtain ⟨news,hn,he⟩:=Option.map_eq_some_iff.1 hs
   simp only [Prod.mk.injEq] at he
   obtain ⟨rfl,rfl,rfl⟩:=he
   exact ⟨⟨e',_⟩,⟨_,by simp only [Ap,hev,f1,f2,hn,Option.map_some],hc⟩,hl1,rfl⟩
  case app fz ty s0 b x =>
   obtain ⟨c,hs,hc⟩:=hs
   simp only [Ap] at hs
   revert hs
   cases hx:ev Γ e x with
   | none=>simp
   | some ax =>
    simp only [Option.bind_some]
    cases hn:Br h' ax with
    | none=>simp
    | some news =>
     simp only [Option.bind_some]
     cases hb:ev Γ e b with
     | none=>simp
     | some a =>
      simp only [Option.bind_some]
      have fin:∀ {c0:Prop} {es:List (List T)} {t t':St},q2a t t' →
        (if fz=true then some (D5 s0 news∧c0,AV.t (T.sl es none none),t) else some ((D5 s0 news∧c0)∧A4 t.hp d=none,AV.ls d 0 es.length none,(⟨t.env,(d,Bc.sl ty s0 es)::t.hp⟩:St)))=some (c,r,s) →
        ∃ s',(if fz=true then some (D5 s0 news∧c0,AV.t (T.sl es none none),t') else some ((D5 s0 news∧c0)∧A4 t'.hp d=none,AV.ls d 0 es.length none,(⟨t'.env,(d,Bc.sl ty s0 es)::t'.hp⟩:St)))=some (c,r,s')∧q2a s s':=by
       intro c0 es t t' hl hq
       obtain ⟨h1,h2⟩:=hl
       split at hq
       ·rename_i hf
        simp only [Option.some.injEq,Prod.mk.injEq] at hq
        obtain ⟨rfl,rfl,rfl⟩:=hq
        rw [if_pos hf]
        exact ⟨t',rfl,h1,h2⟩
       ·rename_i hf
        simp only [Option.some.injEq,Prod.mk.injEq] at hq
        obtain ⟨rfl,rfl,rfl⟩:=hq
        rw [if_neg hf,h2]
        exact ⟨_,rfl,h1,rfl⟩
      have out:∀ {s'},Ap Γ d (.app fz ty s0 b x) ⟨e',h'⟩=some (c,r,s')→q2a s s'→∃ s',Fh P Γ d (.app fz ty s0 b x) ⟨e',h'⟩ r s'∧q2a s s':=fun h1 h2=>⟨_,⟨c,h1,hc⟩,h2⟩
      have hst:q2a ⟨e,h'⟩ ⟨e',h'⟩:=⟨hl1,rfl⟩
      have hki:∀ id,q2a (St.kill id ⟨e,h'⟩) (St.kill id ⟨e',h'⟩):=by
       intro id
       refine ⟨fun k=>?_,rfl⟩
       have:=hl1 k
       simp only [St.kill,F6 (B0 id),this]
      split
      ·intro hq
       obtain ⟨s',h1,h2⟩:=fin hst hq
       exact out (s':=s') (by simp only [Ap,hev,hx,hn,hb,Option.bind_some]; exact h1) h2
      ·split
       ·intro hq
        rename_i hlk
        obtain ⟨s',h1,h2⟩:=fin hst hq
        exact out (s':=s') (by simp only [Ap,hev,hx,hn,hb,Option.bind_some,hlk]; exact h1) h2
       ·simp
      ·split
       ·intro hq
        rename_i hlk
        obtain ⟨s',h1,h2⟩:=fin (hki _) hq
        exact out (s':=s') (by simp only [Ap,hev,hx,hn,hb,Option.bind_some,hlk]; exact h1) h2
       ·simp
      ·simp
  case appR fz i0 ty b x =>
   obtain ⟨c,hs,hc⟩:=hs
   simp only [Ap] at hs
   revert hs
   split
   ·rename_i news _ _ id len hx hb
    split
    ·rename_i t q es hlk
     intro hq
     have he:∀ k,A4 (St.kill i0 ⟨e',h'⟩).env k=A4 (St.kill i0 ⟨e,h'⟩).env k:=fun k=>by
      have:=hl1 k
      simp only [St.kill,F6 (B0 i0),this]
     cases fz with
     | true =>
      simp only [if_true,Option.some.injEq,Prod.mk.injEq] at hq
      obtain ⟨rfl,rfl,rfl⟩:=hq
      exact ⟨St.kill i0 ⟨e',h'⟩,⟨_,by simp only [Ap,hev,hx,hb,hlk,if_true],hc⟩,he,rfl⟩
     | false =>
      simp only [Bool.false_eq_true,if_false,Option.some.injEq,Prod.mk.injEq] at hq
      obtain ⟨rfl,rfl,rfl⟩:=hq
      exact ⟨⟨(St.kill i0 ⟨e',h'⟩).env,(d,.sl ty 1 (es.take len++news))::(St.kill i0 ⟨e',h'⟩).hp⟩,⟨_,by simp only [Ap,hev,hx,hb,hlk,Bool.false_eq_true,if_false]; rfl,hc⟩,he,rfl⟩
    ·simp
   ·simp
  all_goals simp [Ce.kd] at hk
  all_goals (split at hk <;> simp at hk)
theorem q3y (hl:∀ k,A4 h' k=A4 h k) (a:AV):Br h' a=Br h a:=by
 unfold Br
 split <;> simp only [hl]
theorem S4 (hl:∀ k,A4 h' k=A4 h k) (i:Nat) (q:Bc):∀ k,A4 (Gg i q h') k=A4 (Gg i q h) k:=fun k=>by simp only [Es,hl]
theorem q8S (hl:∀ k,A4 h' k=A4 h k) (i:Nat):∀ k,A4 (St.kill i ⟨e,h'⟩).hp k=A4 (St.kill i ⟨e,h⟩).hp k:=fun k=>by simp only [Wx,hl]
theorem qAs (hl:∀ k,A4 h' k=A4 h k) (hs:Fh P Γ d io ⟨e,h⟩ r s):∃ s',Fh P Γ d io ⟨e,h'⟩ r s'∧F7 s s':=by
 by_cases hk:io.kd≤1
 ·have h1:=q8R hk hs
  subst h1
  exact ⟨_,q9z (fun id x hx=>(hl id).trans hx) hk hs,fun _=>rfl,hl⟩
 have cons:∀ (d:Nat) (q:Bc) (k:Nat),A4 ((d,q)::h') k=A4 ((d,q)::h) k:=fun d q k=>by simp only [A4,hl]
 by_cases hn:io.isNew=true
 ·have gen:(∃ c,Ap Γ d io ⟨e,h⟩=some (c,r,s)∧c)→∃ s',(∃ c,Ap Γ d io ⟨e,h'⟩=some (c,r,s')∧c)∧F7 s s':=by
   rintro ⟨c,hs,hc⟩
   have hen:s.env=e:=by
    have:=q7y (Γ:=Γ) (d:=d) (e:=e) (e':=e) (h:=h) (io:=io) (by cases io <;> simp [Ce.isNew,Ce.kd] at hn ⊢ <;> split <;> omega) (fun _ _=>rfl)
    rw [hs] at this
    simp only [Option.map_some,Option.some.injEq,Prod.mk.injEq] at this
    rw [this.2.2]
   rcases qBf hn hs hc with ⟨h2,h3⟩ | ⟨q,h2,h3,h4⟩
   ·exact ⟨_,h3 h',fun k=>by rw [hen],fun k=>by rw [h2]; exact hl k⟩
   ·exact ⟨_,h4 h' ((hl d).trans h2),fun k=>by rw [hen],fun k=>by rw [h3]; exact cons d q k⟩
  cases io with
  | call f args=>simp [Ce.isNew] at hn
  | callv f args=>simp [Ce.isNew] at hn
  | hcall=>simp [Ce.isNew] at hn
  | hcallv=>simp [Ce.isNew] at hn
  | ncall=>simp [Ce.isNew] at hn
  | callT=>simp [Ce.isNew] at hn
  | rcall=>simp [Ce.isNew] at hn
  | _=>exact gen hs
 cases io
 all_goals try (simp [Ce.kd] at hk; done)
 all_goals try (simp [Ce.isNew] at hn; done)
 case store n a x =>
  obtain ⟨c,hs,hc⟩:=hs
  simp only [Ap,Option.bind_eq_some_iff] at hs
  obtain ⟨v,hv,hs⟩:=hs
  split at hs
  case h_2=>cases hs
  rename_i id i k ha
  split at hs
  ·rename_i ty s0 es hq
   simp only [Option.map_eq_some_iff,Prod.mk.injEq] at hs
   obtain ⟨ts,hts,rfl,rfl,rfl⟩:=hs
   exact ⟨⟨e,Gg id _ h'⟩,⟨_,by simp only [Ap,hv,ha,hl,hq,hts,Option.bind_some,Option.map_some],hc⟩,fun _=>rfl,S4 hl _ _⟩
  ·rename_i cs hq
   simp only [Option.some.injEq,Prod.mk.injEq] at hs
   obtain ⟨rfl,rfl,rfl⟩:=hs
   exact ⟨⟨e,Gg id _ h'⟩,⟨_,by simp only [Ap,hv,ha,hl,hq,Option.bind_some],hc⟩,fun _=>rfl,S4 hl _ _⟩
  ·cases hs
 case stR id n a x =>
  obtain ⟨c,hs,hc⟩:=hs
  have hen:s.env=e:=by
   have:=q7y (Γ:=Γ) (d:=d) (e:=e) (e':=e) (h:=h) (io:=.stR id n a x) (by simp [Ce.kd]) (fun _ _=>rfl)
   rw [hs] at this
   simp only [Option.map_some,Option.some.injEq,Prod.mk.injEq] at this
   rw [this.2.2]
  obtain ⟨q,q',h2,h3,h4,h5⟩:=qEC hs hc
  exact ⟨_,h5 h' ((hl id).trans h2),fun k=>by rw [hen],fun k=>by rw [h4]; exact S4 hl _ _ k⟩
 case mup kt m k x =>
  obtain ⟨c,hs,hc⟩:=hs
  simp only [Ap] at hs
  split at hs
  case h_2=>cases hs
  rename_i kv id e1 e2
  split at hs
  case h_2=>cases hs
  rename_i es hq
  simp only [Option.map_eq_some_iff,Prod.mk.injEq] at hs
  obtain ⟨t,ht,rfl,rfl,rfl⟩:=hs
  exact ⟨⟨e,Gg id _ h'⟩,⟨_,by simp only [Ap,e1,e2,hl,hq,ht,Option.map_some],hc⟩,fun _=>rfl,S4 hl _ _⟩
 case nxt x =>
  obtain ⟨c,hs,hc⟩:=hs
  simp only [Ap] at hs
  split at hs
  case h_2=>cases hs
  rename_i id e1
  split at hs
  case h_2=>cases hs
  rename_i b pos hq
  split at hs <;> rename_i hp <;> simp only [Option.some.injEq,Prod.mk.injEq] at hs <;> obtain ⟨rfl,rfl,rfl⟩:=hs
  ·exact ⟨⟨e,Gg id _ h'⟩,⟨True,by simp only [Ap,e1,hl,hq,hp,↓reduceIte],trivial⟩,fun _=>rfl,S4 hl _ _⟩
  ·exact ⟨⟨e,h'⟩,⟨True,by simp only [Ap,e1,hl,hq,hp,↓reduceIte],trivial⟩,fun _=>rfl,hl⟩
 case hcall f args rs base =>
  obtain ⟨as,res,hp',h1,h2,h3,h4,rfl,rfl⟩:=hs
  have hh:Fg rs h'=Fg rs h:=by simp only [Fg,hl]
  have hb:∀ l,okB rs base h l→okB rs base h' l:=by
   intro l
   induction l with
   | nil=>exact fun h=>h
   | cons p l ih=>intro hq; obtain ⟨j,q⟩:=p; simp only [okB,hl] at hq ⊢; exact ⟨hq.1,ih hq.2⟩
  refine ⟨_,⟨as,res,hp',h1,h2,by simp only [hh]; exact h3,hb _ h4,rfl,rfl⟩,fun k=>rfl,fun k=>?_⟩
  simp only [K5,Du,q0Y,hl]
 case hcallv x args rs base =>
  obtain ⟨av,f,cs,as,res,hp',g1,g2,h1,h2,h3,h4,rfl,rfl⟩:=hs
  have hh:Fg rs h'=Fg rs h:=by simp only [Fg,hl]
  have hb:∀ l,okB rs base h l→okB rs base h' l:=by
   intro l
   induction l with
   | nil=>exact fun h=>h
   | cons p l ih=>intro hq; obtain ⟨j,q⟩:=p; simp only [okB,hl] at hq ⊢; exact ⟨hq.1,ih hq.2⟩
  refine ⟨_,⟨av,f,cs,as,res,hp',g1,g2,h1,h2,by simp only [hh]; exact h3,hb _ h4,rfl,rfl⟩,fun k=>rfl,fun k=>?_⟩
  simp only [K5,Du,q0Y,hl]
 case ncall f args base =>
  obtain ⟨as,res,hp',h1,h2,h3,h4,rfl⟩:=hs
  have hb:∀ l,okB [] base h l→okB [] base h' l:=by
   intro l
   induction l with
   | nil=>exact fun h=>h
   | cons p l ih=>intro hq; obtain ⟨j,q⟩:=p; simp only [okB,hl] at hq ⊢; exact ⟨hq.1,ih hq.2⟩
  exact ⟨_,⟨as,res,hp',h1,h2,hb _ h3,h4,rfl⟩,fun k=>rfl,fun k=>by simp only [Du,hl]⟩
 case cpy s0 x y =>
  obtain ⟨c,hs,hc⟩:=hs
  simp only [Ap] at hs
  split at hs
  case h_2=>cases hs
  rename_i id off len cap f1
  split at hs
  case h_2=>cases hs
  rename_i ty2 q es f2
  obtain ⟨news,hn,he⟩:=Option.map_eq_some_iff.1 hs
  simp only [Prod.mk.injEq] at he
  obtain ⟨rfl,rfl,rfl⟩:=he
  obtain ⟨ay,fy,fe⟩:=Option.bind_eq_some_iff.1 hn
  exact ⟨⟨e,Gg id _ h'⟩,⟨_,by simp only [Ap,f1,hl,f2,fy,Option.bind_some,(q3y hl ay).trans fe,Option.map_some],hc⟩,fun _=>rfl,S4 hl _ _⟩
 case app fz ty s0 b x =>
  obtain ⟨c,hs,hc⟩:=hs
  simp only [Ap] at hs
  revert hs
  cases hx:ev Γ e x with
  | none=>simp
  | some ax =>
   simp only [Option.bind_some]
   cases hn:Br h ax with
   | none=>simp
   | some news =>
    have hn':=(q3y hl ax).trans hn
    simp only [Option.bind_some]
    cases hb:ev Γ e b with
    | none=>simp
    | some a =>
     simp only [Option.bind_some]
     have fin:∀ {c0:Prop} {es:List (List T)} {t t':St},F7 t t' →
       (if fz=true then some (D5 s0 news∧c0,AV.t (T.sl es none none),t) else some ((D5 s0 news∧c0)∧A4 t.hp d=none,AV.ls d 0 es.length none,(⟨t.env,(d,Bc.sl ty s0 es)::t.hp⟩:St)))=some (c,r,s) →
       ∃ c' s',(if fz=true then some (D5 s0 news∧c0,AV.t (T.sl es none none),t') else some ((D5 s0 news∧c0)∧A4 t'.hp d=none,AV.ls d 0 es.length none,(⟨t'.env,(d,Bc.sl ty s0 es)::t'.hp⟩:St)))=some (c',r,s')∧c'∧F7 s s':=by
      intro c0 es t t' hl hq
      obtain ⟨h1,h2⟩:=hl
      split at hq
      ·rename_i hf
       simp only [Option.some.injEq,Prod.mk.injEq] at hq
       obtain ⟨rfl,rfl,rfl⟩:=hq
       rw [if_pos hf]
       exact ⟨_,t',rfl,hc,h1,h2⟩
      ·rename_i hf
       simp only [Option.some.injEq,Prod.mk.injEq] at hq
       obtain ⟨rfl,rfl,rfl⟩:=hq
       rw [if_neg hf]
       exact ⟨_,_,rfl,⟨hc.1,by rw [h2]; exact hc.2⟩,h1,fun k=>by simp only [A4,h2]⟩
     have out:∀ {c' s'},Ap Γ d (.app fz ty s0 b x) ⟨e,h'⟩=some (c',r,s')→c'→F7 s s'→∃ s',Fh P Γ d (.app fz ty s0 b x) ⟨e,h'⟩ r s'∧F7 s s':=fun h1 h2 h3=>⟨_,⟨_,h1,h2⟩,h3⟩
     have hst:F7 ⟨e,h⟩ ⟨e,h'⟩:=⟨fun _=>rfl,hl⟩
     have hki:∀ id,F7 (St.kill id ⟨e,h⟩) (St.kill id ⟨e,h'⟩):=fun id=>⟨fun k=>rfl,q8S hl id⟩
     split
     ·intro hq
      obtain ⟨c',s',h1,h2,h3⟩:=fin hst hq
      exact out (s':=s') (by simp only [Ap,hx,hn',hb,Option.bind_some]; exact h1) h2 h3
     ·split
      ·intro hq
       rename_i hlk
       obtain ⟨c',s',h1,h2,h3⟩:=fin hst hq
       exact out (s':=s') (by simp only [Ap,hx,hn',hb,Option.bind_some,(hl _).trans hlk]; exact h1) h2 h3
      ·simp
     ·split
      ·intro hq
       rename_i hlk
       obtain ⟨c',s',h1,h2,h3⟩:=fin (hki _) hq
       exact out (s':=s') (by simp only [Ap,hx,hn',hb,Option.bind_some,(hl _).trans hlk]; exact h1) h2 h3
      ·simp
     ·simp
 case appR fz i0 ty b x =>
  obtain ⟨c,hs,hc⟩:=hs
  simp only [Ap] at hs
  revert hs
  split
  ·rename_i news _ _ id len hx hb
   split
   ·rename_i t q es hlk
    intro hq
    have hki:∀ k,A4 (St.kill i0 ⟨e,h'⟩).hp k=A4 (St.kill i0 ⟨e,h⟩).hp k:=q8S hl i0
    cases fz with
    | true =>
     simp only [if_true,Option.some.injEq,Prod.mk.injEq] at hq
     obtain ⟨rfl,rfl,rfl⟩:=hq
     exact ⟨St.kill i0 ⟨e,h'⟩,⟨_,by simp only [Ap,hx,hb,(hl _).trans hlk,if_true],hc⟩,fun k=>rfl,fun k=>hki k⟩
    | false =>
     simp only [Bool.false_eq_true,if_false,Option.some.injEq,Prod.mk.injEq] at hq
     obtain ⟨rfl,rfl,rfl⟩:=hq
     exact ⟨⟨(St.kill i0 ⟨e,h'⟩).env,(d,.sl ty 1 (es.take len++news))::(St.kill i0 ⟨e,h'⟩).hp⟩,⟨(id=i0∧D5 1 news∧t=ty∧q=1∧len+news.length≤140737488355328)∧A4 (St.kill i0 ⟨e,h'⟩).hp d=none,by simp only [Ap,hx,hb,(hl _).trans hlk,Bool.false_eq_true,if_false],⟨hc.1,by rw [hki]; exact hc.2⟩⟩,fun k=>rfl,fun k=>by simp only [A4,hki]⟩
   ·simp
  ·simp
 all_goals (simp only [Ce.kd] at hk; split at hk <;> simp [Ce.isNew] at hn hk)
theorem qBl (hl:F7 st st') (hs:Fh P Γ d io st r s):∃ s',Fh P Γ d io st' r s'∧F7 s s':=by
 obtain ⟨e,h⟩:=st
 obtain ⟨e',h'⟩:=st'
 obtain ⟨s1,h1,h2⟩:=qAs (h':=h') hl.2 hs
 obtain ⟨s2,h3,h4⟩:=qAr (st:=⟨e,h'⟩) (st':=⟨e',h'⟩) ⟨hl.1,rfl⟩ h1
 exact ⟨s2,h3,h2.trans ⟨h4.1,fun k=>by rw [h4.2]⟩⟩
theorem qBm (hl:F7 st st') (hs:Gi P Γ ro st s):∃ s',Gi P Γ ro st' s'∧F7 s s':=by
 have hw:Gt st'.env ro.guard=Gt st.env ro.guard:=by
  cases hg:ro.guard with
  | none=>rfl
  | some gb=>simp only [Gt,hl.1 gb.1]
 rcases hs with ⟨hw',r,st1,hx,rfl⟩ | ⟨hw',rfl⟩
 ·obtain ⟨s',h1,h2⟩:=qBl hl hx
  exact ⟨_,.inl ⟨hw.trans hw',r,s',h1,rfl⟩,q2b h2⟩
 ·exact ⟨_,.inr ⟨hw.trans hw',rfl⟩,q2b hl⟩
theorem q5c:∀ {ros:List RO} {st st' s:St},F7 st st'→Px P Γ ros st s→∃ s',Px P Γ ros st' s'∧F7 s s'
 | [],st,st',s,hl,hs=>by simp only [Px] at hs; subst hs; exact ⟨st',rfl,hl⟩
 | ro::ros,st,st',s,hl,hs=>by
  obtain ⟨t,h1,h2⟩:=hs
  obtain ⟨t',h3,h4⟩:=qBm hl h1
  obtain ⟨s',h5,h6⟩:=q5c h4 h2
  exact ⟨s',⟨t',h3,h5⟩,h6⟩
theorem qGQ {y:RO} {l2:List RO}:∀ {l1:List RO} {st s:St},(∀ x ∈ l1,qD9 x y=true)→Px P Γ (l1++y::l2) st s→∃ s',Px P Γ (y::(l1++l2)) st s'∧F7 s s'
 | [],st,s,_,hs=>⟨s,hs,F7.rfl'⟩
 | x::l1,st,s,hc,hs=>by
  obtain ⟨t,h1,h2⟩:=hs
  obtain ⟨s1,⟨t2,h3,h4⟩,hl⟩:=qGQ (fun z hz=>hc z (List.mem_cons_of_mem _ hz)) h2
  obtain ⟨u,u2,h5,h6,hl2⟩:=qDB (hc x List.mem_cons_self) h1 h3
  obtain ⟨s2,h7,hl3⟩:=q5c hl2 h4
  exact ⟨s2,⟨u,h5,u2,h6,h7⟩,hl.trans hl3⟩
end
end Go.Lg
namespace Go.Lg
open Go
def q1s (o:Oper):List Nat:=o.after.toList.filterMap fun e=>if Region.binds .any e then some e.on else none
def qDC (ms:List Nat) (es:List Nat):Nat:=es.foldl (fun m k=>m ||| 2 ^ k ||| ms.getD k 0) 0
def q2c:List Oper→List Nat→List Nat
 | [],ms=>ms
 | o::os,ms=>q2c os (ms++[qDC ms (q1s o)])
structure Pt where
 i:Nat
 ro:RO
 m:Nat
def pts:Nat→List RO→List Nat→List Pt
 | i,ro::ros,m::ms=>⟨i,ro,m⟩::pts (i+1) ros ms
 | _,_,_=>[]
def q7z:List Pt→Bool
 | []=>true
 | p::l=>(l.all fun q=>q.m.testBit p.i || qD9 p.ro q.ro) && q7z l
def q80:Nat→List Oper→Bool
 | _,[]=>true
 | i,o::os=>(q1s o).all (·<i) && q80 (i+1) os
def qDD (ros:List RO) (ops:List Oper):Bool:=q80 0 ops && q7z (pts 0 ros (q2c ops []))
def qDE (ops:List Oper) (listed:Nat→Bool):Prop:=∀ (k:Nat) (o:Oper),listed k=true→ops[k]? = some o→∀ e ∈ q1s o,listed e=true
def q8T (ops:List Oper) (es:List Nat) (m:Nat):Prop:=∀ listed,qDE ops listed→(∀ e ∈ es,listed e=true)→∀ i,m.testBit i=true→listed i=true
theorem qFC {ops:List Oper} {ms:List Nat} (hms:∀ (k m:Nat) (o:Oper),ms[k]? = some m→ops[k]? = some o→q8T ops (q1s o) m) (hlen:ms.length≤ops.length) {es:List Nat}:q8T ops es (qDC ms es):=by
 have key:∀ (es:List Nat) (m0:Nat) listed,qDE ops listed→(∀ e ∈ es,listed e=true)→(∀ i,m0.testBit i=true→listed i=true)→∀ i,(es.foldl (fun m k=>m ||| 2 ^ k ||| ms.getD k 0) m0).testBit i=true→listed i=true:=by
  intro es
  induction es with
  | nil=>intro m0 listed _ _ h0 i hi; exact h0 i hi
  | cons k es ih =>
   intro m0 listed hc he h0 i hi
   rw [List.foldl_cons] at hi
   refine ih _ listed hc (fun e h=>he e (List.mem_cons_of_mem _ h)) (fun i hi=>?_) i hi
   simp only [Nat.testBit_or,Bool.or_eq_true] at hi
   rcases hi with (hi | hi) | hi
   ·exact h0 i hi
   ·rw [Nat.testBit_two_pow] at hi
    simp at hi; subst hi; exact he _ List.mem_cons_self
   ·cases hk:ms[k]? with
    | none=>simp [List.getD,hk] at hi
    | some m =>
     simp only [List.getD,hk,Option.getD_some] at hi
     have hlt:k<ops.length:=Nat.lt_of_lt_of_le (List.getElem?_eq_some_iff.1 hk).1 hlen
     exact hms k m _ hk (List.getElem?_eq_getElem hlt) listed hc (fun e he'=>hc k _ (he k List.mem_cons_self) (List.getElem?_eq_getElem hlt) e he') i hi
 intro listed hc he i hi
 exact key es 0 listed hc he (by simp) i hi
theorem qBn {ops:List Oper}:∀ {os:List Oper} {ms:List Nat} {done:List Oper},ops=done++os→ms.length=done.length→(∀ (k m:Nat) (o:Oper),ms[k]? = some m→ops[k]? = some o→q8T ops (q1s o) m) →
  (q2c os ms).length=ops.length∧∀ (k m:Nat) (o:Oper),(q2c os ms)[k]? = some m→ops[k]? = some o→q8T ops (q1s o) m
 | [],ms,done,h1,h2,h3=>⟨by simp [q2c,h1,h2],h3⟩
 | o::os,ms,done,h1,h2,h3=>by
  refine qBn (os:=os) (ms:=ms++[qDC ms (q1s o)]) (done:=done++[o]) (by simp [h1]) (by simp [h2]) ?_
  intro k m o' hm ho
  rw [List.getElem?_append] at hm
  split at hm
  ·exact h3 k m o' hm ho
  ·rename_i hk
   have hk':k=ms.length:=by
    have:=(List.getElem?_eq_some_iff.1 hm).1
    simp at this; omega
   subst hk'
   simp only [Nat.sub_self,List.getElem?_cons_zero,Option.some.injEq] at hm
   subst hm
   have:o'=o:=by
    rw [h1,h2] at ho
    simpa using ho.symm
   subst this
   exact qFC h3 (by simp [h1,h2])
theorem q8U:∀ {os:List Oper} {i:Nat},q80 i os=true→∀ (k:Nat) (o:Oper),os[k]? = some o→∀ e ∈ q1s o,e<i+k
 | [],i,_,k,o,hk=>by simp at hk
 | o::os,i,h,k,o',hk=>by
  simp only [q80,Bool.and_eq_true,List.all_eq_true,decide_eq_true_eq] at h
  cases k with
  | zero=>simp only [List.getElem?_cons_zero,Option.some.injEq] at hk; subst hk; exact h.1
  | succ k =>
   intro e he
   have:=q8U h.2 k o' (by simpa using hk) e he
   omega
theorem q8V:∀ {l:List Pt},q7z l=true→l.Pairwise fun p q=>q.m.testBit p.i=true∨qD9 p.ro q.ro=true
 | [],_=>.nil
 | p::l,h=>by
  simp only [q7z,Bool.and_eq_true,List.all_eq_true,Bool.or_eq_true] at h
  exact .cons h.1 (q8V h.2)
theorem qEH:∀ {ros:List RO} {ms:List Nat} {i:Nat},ros.length=ms.length→(pts i ros ms).map (·.ro)=ros∧(pts i ros ms).map (·.i)=List.range' i ros.length ∧
  ∀ p ∈ pts i ros ms,i≤p.i∧ms[p.i - i]? = some p.m∧ros[p.i - i]? = some p.ro
 | [],[],i,_=>by simp [pts]
 | [],_::_,i,h=>by simp at h
 | _::_,[],i,h=>by simp at h
 | ro::ros,m::ms,i,h=>by
  obtain ⟨h1,h2,h3⟩:=qEH (ros:=ros) (ms:=ms) (i:=i+1) (by simpa using h)
  refine ⟨by simp [pts,h1],by simp [pts,h2,List.range'_succ],?_⟩
  intro p hp
  simp only [pts,List.mem_cons] at hp
  rcases hp with rfl | hp
  ·simp
  ·obtain ⟨h4,h5,h6⟩:=h3 p hp
   have:p.i - i=(p.i - (i+1))+1:=by omega
   exact ⟨by omega,by rw [this]; simpa using h5,by rw [this]; simpa using h6⟩
theorem qA1 {P:Program} {N:Nat} {ops:List Oper}:∀ {ros:List RO} {os:List Oper},Qr P N ops ros os=true→ros.length=os.length∧∀ (k:Nat) (ro:RO) (o:Oper),ros[k]? = some ro→os[k]? = some o→q8P P N ops ro o=true
 | [],[],_=>by simp
 | [],_::_,h=>by simp [Qr] at h
 | _::_,[],h=>by simp [Qr] at h
 | ro::ros,o::os,h=>by
  simp only [Qr,Bool.and_eq_true] at h
  obtain ⟨h1,h2⟩:=qA1 h.2
  refine ⟨by simp [h1],fun k ro' o' h3 h4=>?_⟩
  cases k with
  | zero=>simp at h3 h4; subst h3; subst h4; exact h.1
  | succ k=>exact h2 k ro' o' (by simpa using h3) (by simpa using h4)
theorem F7.symm {a b:St} (h:F7 a b):F7 b a:=⟨fun k=>(h.1 k).symm,fun k=>(h.2 k).symm⟩
section
variable {P:Program} {Γ:Tables} {w0:World} {B:Nat} {κ:Df} {X0 X:Nat→Prop} {st st1:St} {N:Nat} {a:Act} {w:World} {Q:Exit→Act→World→Prop}
theorem Wy.alike (h:Wy Γ w0 B κ X0 N st a w) (hl:F7 st st1):Wy Γ w0 B κ X0 N st1 a w:=by
 obtain ⟨X,μ,h1,h2⟩:=h
 exact ⟨X,μ,h1.alike hl,h2⟩
theorem qI7 {ops:List Oper} (hN:N≤1000000) (hlt:∀ (k:Nat) (o:Oper),ops[k]? = some o→∀ e ∈ q1s o,e<k) :
  ∀ (fuel:Nat) (listed:Array Bool) (ps:List Pt) (st s:St) (a:Act) (w:World),Wy Γ w0 B κ X0 N st a w→(ps.Pairwise fun p q=>p.i<q.i)→(∀ i,listed.getD i true=false↔∃ p ∈ ps,p.i=i)→listed.size=ops.length →
   qDE ops (fun i=>listed.getD i false)→(ps.Pairwise fun p q=>q.m.testBit p.i=true∨qD9 p.ro q.ro=true)→(∀ p ∈ ps,∃ o,ops[p.i]? = some o∧q8P P N ops p.ro o=true∧q8T ops (q1s o) p.m)→ps.length≤fuel →
   Px P Γ (ps.map (·.ro)) st s→(∀ a' w',Wy Γ w0 B κ X0 N s a' w'→Q .normal a' w')→wpAny P .any ops.toArray Q fuel listed a w:=by
 intro fuel
 induction fuel with
 | zero =>
  intro listed ps st s a w hI hsort hun hsz hcl hpr hps hlen hst hQ
  have:ps=[]:=List.eq_nil_of_length_eq_zero (by omega)
  subst this
  refine ⟨List.eq_nil_iff_forall_not_mem.2 fun j hj=>?_,?_⟩
  ·have:=(hun j).1 (mem_ready.1 hj).1
   simp at this
  ·simp only [List.map_nil,Px] at hst; subst hst
   exact hQ a w hI
 | succ fuel ih =>
  intro listed ps st s a w hI hsort hun hsz hcl hpr hps hlen hst hQ
  have hedge:∀ {o:Oper} {e:Edge},e ∈ o.after→Region.binds .any e=true→e.on ∈ q1s o:=by
   intro o e he hb
   exact List.mem_filterMap.2 ⟨e,by simpa using he,by rw [if_pos hb]⟩
  have hedge':∀ {o:Oper} {k:Nat},k ∈ q1s o→∃ e ∈ o.after,Region.binds .any e=true∧e.on=k:=by
   intro o k hk
   obtain ⟨e,he,hb⟩:=List.mem_filterMap.1 hk
   split at hb
   ·exact ⟨e,by simpa using he,by assumption,by simpa using hb⟩
   ·cases hb
  refine ⟨fun hnil=>?_,fun i hi=>?_⟩
  ·cases ps with
   | nil=>simp only [List.map_nil,Px] at hst; subst hst; exact hQ a w hI
   | cons p ps =>
    exfalso
    obtain ⟨o,ho,_,_⟩:=hps p List.mem_cons_self
    have:p.i ∈ Region.ready .any ops.toArray listed:=by
     refine mem_ready.2 ⟨(hun p.i).2 ⟨p,List.mem_cons_self,rfl⟩,o,by simpa using ho,fun e he hb=>?_⟩
     have h1:=hlt p.i o ho e.on (hedge he hb)
     have h2:p.i<ops.length:=(List.getElem?_eq_some_iff.1 ho).1
     have h3:listed.getD e.on true=true:=by
      cases hq:listed.getD e.on true with
      | true=>rfl
      | false =>
       obtain ⟨q,hq,hqi⟩:=(hun e.on).1 hq
       rcases List.mem_cons.1 hq with rfl | hq
       ·omega
       ·have:=(List.pairwise_cons.1 hsort).1 q hq
        omega
     have h4:e.on<listed.size:=by omega
     simpa [Array.getD,h4] using h3
    rw [hnil] at this; cases this
  ·obtain ⟨hi0,o,ho,hall⟩:=mem_ready.1 hi
   have ho':ops[i]? = some o:=by simpa using ho
   obtain ⟨p,hp,rfl⟩:=(hun i).1 hi0
   obtain ⟨l1,l2,rfl⟩:=List.append_of_mem hp
   obtain ⟨o2,ho2,hch,hmk⟩:=hps p hp
   rw [ho'] at ho2; cases ho2
   have hdone:∀ i,p.m.testBit i=true→listed.getD i false=true:=hmk _ hcl (fun e he=>by
    obtain ⟨e',he',hb,rfl⟩:=hedge' he
    exact hall e' he' hb)
   have hsort':=List.pairwise_append.1 hsort
   have hpr':=List.pairwise_append.1 hpr
   have hcm:∀ x ∈ l1.map (·.ro),qD9 x p.ro=true:=by
    intro x hx
    obtain ⟨q,hq,rfl⟩:=List.mem_map.1 hx
    rcases hpr'.2.2 q hq p List.mem_cons_self with hb | hb
    ·have h1:=hdone _ hb
     have h2:listed.getD q.i true=false:=(hun q.i).2 ⟨q,List.mem_append_left _ hq,rfl⟩
     have:q.i<listed.size:=by
      rcases Nat.lt_or_ge q.i listed.size with h' | h'
      ·exact h'
      ·rw [Array.getD_eq_getD_getElem?,Array.getElem?_eq_none h'] at h2; simp at h2
     rw [Array.getD_eq_getD_getElem?,Array.getElem?_eq_getElem this] at h1 h2
     simp only [Option.getD_some] at h1 h2
     rw [h1] at h2; cases h2
    ·exact hb
   rw [List.map_append,List.map_cons] at hst
   obtain ⟨s',⟨t,hs1,hs2⟩,hl⟩:=qGQ hcm hst
   unfold wpOp
   simp only [ho]
   refine q8Q hI hN hch hs1 fun a' w' hI'=>?_
   have hne:∀ q ∈ l1++l2,q.i ≠ p.i:=by
    intro q hq
    rcases List.mem_append.1 hq with hq | hq
    ·have:=hsort'.2.2 q hq p List.mem_cons_self; omega
    ·have:=(List.pairwise_cons.1 hsort'.2.1).1 q hq; omega
   have hsub:(l1++l2).Sublist (l1++p::l2):=List.Sublist.append_left (List.sublist_cons_self _ _) _
   have hpi:p.i<listed.size:=by rw [hsz]; exact (List.getElem?_eq_some_iff.1 ho').1
   refine ih (listed.setIfInBounds p.i true) (l1++l2) t s' a' w' hI' (hsort.sublist hsub) ?_ (by simpa using hsz) ?_ (hpr.sublist hsub) (fun q hq=>hps q (hsub.subset hq)) (by simp at hlen ⊢; omega) (by rw [List.map_append]; exact hs2) (fun a' w' h=>hQ a' w' (h.alike hl.symm))
   ·intro j
    by_cases hj:p.i=j
    ·subst hj
     refine ⟨fun h=>?_,fun ⟨q,hq,he⟩=>absurd he (hne q hq)⟩
     simp [Array.getD,hpi] at h
    ·rw [getD_set_ne true hj,hun j]
     constructor
     ·rintro ⟨q,hq,rfl⟩
      refine ⟨q,?_,rfl⟩
      rcases List.mem_append.1 hq with hq | hq
      ·exact List.mem_append_left _ hq
      ·rcases List.mem_cons.1 hq with rfl | hq
       ·exact absurd rfl hj
       ·exact List.mem_append_right _ hq
     ·rintro ⟨q,hq,rfl⟩
      exact ⟨q,hsub.subset hq,rfl⟩
   ·intro k ok hk hok e he
    by_cases hkp:p.i=k
    ·subst hkp
     rw [ho'] at hok; cases hok
     obtain ⟨e',he',hb,rfl⟩:=hedge' he
     exact getD_set_true (hall e' he' hb)
    ·have hk2:listed.getD k false=true:=by
      have:(listed.setIfInBounds p.i true).getD k false=true:=hk
      rwa [getD_set_ne false hkp] at this
     exact getD_set_true (hcl k ok hk2 hok e he)
theorem qDF {ops:List Oper} {ros:List RO} {s:St} (hN:N≤1000000) (hI:Wy Γ w0 B κ X0 N st a w) (hc:Qr P N ops ros ops=true) (hd:qDD ros ops=true) (hs:Px P Γ ros st s)
  (hQ:∀ a' w',Wy Γ w0 B κ X0 N s a' w'→Q .normal a' w'):wpAny P .any ops.toArray Q ops.toArray.size (Array.replicate ops.toArray.size false) a w:=by
 simp only [qDD,Bool.and_eq_true] at hd
 obtain ⟨hlen,hch⟩:=qA1 hc
 obtain ⟨hml,hmk⟩:=qBn (ops:=ops) (os:=ops) (ms:=[]) (done:=[]) rfl rfl (by simp)
 obtain ⟨h1,h2,h3⟩:=qEH (ros:=ros) (ms:=q2c ops []) (i:=0) (by rw [hml,hlen])
 have hmem:∀ p ∈ pts 0 ros (q2c ops []),p.i<ops.length:=by
  intro p hp
  have:=(List.getElem?_eq_some_iff.1 (h3 p hp).2.2).1
  omega
 refine qI7 hN (fun k o ho e he=>by have:=q8U hd.1 k o ho e he; omega) _ _ (pts 0 ros (q2c ops [])) st s a w hI ?_ ?_ (by simp) ?_ (q8V hd.2) ?_ ?_ (by rw [h1]; exact hs) hQ
 ·have:((pts 0 ros (q2c ops [])).map (·.i)).Pairwise (·<·):=by rw [h2]; exact List.pairwise_lt_range'
  exact List.pairwise_map.1 this
 ·intro i
  constructor
  ·intro h
   have hi:i<ops.length:=by
    rcases Nat.lt_or_ge i ops.length with h' | h'
    ·exact h'
    ·simp [Array.getD,Nat.not_lt.2 h'] at h
   have:i ∈ (pts 0 ros (q2c ops [])).map (·.i):=by rw [h2,List.mem_range'_1]; omega
   obtain ⟨p,hp,he⟩:=List.mem_map.1 this
   exact ⟨p,hp,he⟩
  ·rintro ⟨p,hp,rfl⟩
   simp [Array.getD,hmem p hp]
 ·intro k o hk
  exfalso
  simp only [Array.getD] at hk
  split at hk <;> simp at hk
 ·intro p hp
  obtain ⟨_,h5,h6⟩:=h3 p hp
  have hlt:=hmem p hp
  exact ⟨ops[p.i],List.getElem?_eq_getElem hlt,hch _ _ _ h6 (List.getElem?_eq_getElem hlt),hmk _ _ _ h5 (List.getElem?_eq_getElem hlt)⟩
 ·have:(pts 0 ros (q2c ops [])).length=ros.length:=by
   have:=congrArg List.length h1
   simpa using this
  simp [this,hlen]
end
end Go.Lg
namespace Go.Lg
open Go
def Bc.closed:Bc→Bool
 | .bx cs=>cs.all fun | .t _=>true | _=>false
 | _=>true
def frz0 (id:Nat) (r:Bc):AV→AV
 | .ls i off len cap=>if i=id then (match Aj [(id,r)] 4 (.ls id off len cap) with | some t=>.t t | none=>.dead) else .ls i off len cap
 | .lp i a k=>if i=id then (match Aj [(id,r)] 4 (.lp id a k) with | some t=>.t t | none=>.dead) else .lp i a k
 | .lm i=>if i=id then (match Aj [(id,r)] 4 (.lm id) with | some t=>.t t | none=>.dead) else .lm i
 | .lb i m=>if i=id then (match Aj [(id,r)] 4 (.lb id m) with | some t=>.t t | none=>.dead) else .lb i m
 | .li i=>if i=id then .dead else .li i
 | .fn f []=>.fn f []
 | .fn _ (_::_)=>.dead
 | a=>a
def frz1 (id:Nat) (r:Bc):AV→AV
 | .fn f cs=>if cs.all Cj then .fn f (cs.map (frz0 id r)) else .dead
 | a=>frz0 id r a
def Bi (id:Nat) (r:Bc):AV→AV
 | .ag cs=>.ag (cs.map (frz1 id r))
 | .tu cs=>.tu (cs.map (frz1 id r))
 | a=>frz1 id r a
def Dq (id:Nat) (r:Bc):Bc→Bc
 | .bx cs=>.bx (cs.map (Bi id r))
 | q=>q
def St.freeze (id:Nat) (st:St):St:=match A4 st.hp id with
 | some r=>if r.closed then ⟨st.env.map fun p=>(p.1,Bi id r p.2),(del id st.hp).map fun p=>(p.1,Dq id r p.2)⟩ else st
 | none=>st
section
variable {P:Program} {Γ:Tables} {w0:World} {B:Nat} {κ:Df} {X:Nat→Prop} {μ:Df} {st:St} {tm:Array Value} {w:World} {id:Nat} {r:Bc}
theorem Bv.lone (h:Bv w0 B κ X μ st tm w) (hl:A4 st.hp id=some r) (hc:r.closed=true):Bv w0 B κ X μ ⟨[],[(id,r)]⟩ tm w:=by
 have hsh:∀ i,St.sh ⟨[],[(id,r)]⟩ i ≠ none→i=id∧st.sh i ≠ none:=by
  intro i hi
  by_cases e:i=id
  ·subst e; exact ⟨rfl,by simp [Ff hl]⟩
  ·simp [St.sh,A4,Ne.symm e] at hi
 refine ⟨fun t a ht=>by simp [A4] at ht,?_,fun i j g n n' hi hj=>h.inj i j g n n' (hsh i hi).2 (hsh j hj).2,fun i g n hi=>h.loc i g n (hsh i hi).2,fun i hk hi=>h.kap i hk (hsh i hi).2,h.kbig,h.xlt,h.os,h.tape,h.output,h.size,h.fr⟩
 intro i q hq
 simp only [A4] at hq
 split at hq
 ·rename_i e; subst e
  simp only [Option.some.injEq] at hq; subst hq
  have:=h.reg id _ hl
  cases r with
  | sl ty s es=>exact this
  | mp es=>exact this
  | it s pos=>exact this
  | bx cs =>
   obtain ⟨h1,g,arr,ty,hm,hg,hle,hr⟩:=this
   refine ⟨h1,g,arr,ty,hm,hg,hle,fun k a x ha hx=>?_⟩
   have:=List.all_eq_true.1 hc a (List.mem_of_getElem? ha)
   have h2:=hr k a x ha hx
   cases a <;> simp at this
   exact .t _ _ h2.t_inv
 ·cases hq
variable {sh':Nat→Option Sh}
theorem AR.frz0 (h:Bv w0 B κ X μ st tm w) (hl:A4 st.hp id=some r) (hc:r.closed=true) (hsh:∀ i q,i ≠ id→st.sh i=some q→sh' i=some q) {a:AV} {x:Value} (ha:AR w X μ st.sh a x) (hna:Cj a=true) :
  AR w (fun b=>X b∨∃ n,μ id=some (b,n)) μ sh' (frz0 id r a) x:=by
 have hX:∀ b,X b→X b∨∃ n,μ id=some (b,n):=fun b hb=>.inl hb
 have hS:Rw X w w:=fun _ _=>rfl
 have hlone:=h.lone hl hc
 have hshid:St.sh ⟨[],[(id,r)]⟩ id=st.sh id:=by rw [Ff hl]; simp [St.sh,A4]
 have conv:∀ {a:AV} {x:Value} {t:T},AR w X μ (St.sh ⟨[],[(id,r)]⟩) a x→Aj [(id,r)] 4 a=some t→TR w (fun b=>X b∨∃ n,μ id=some (b,n)) t x:=by
  intro a x t ha hr
  refine (q8N hlone 4 ha hr).mono (fun _ _=>rfl) (fun b hb=>?_)
  rcases hb with hb | ⟨i,n,hi,hm⟩
  ·exact .inl hb
  ·have:i=id:=by
    by_cases e:i=id
    ·exact e
    ·simp [St.sh,A4,Ne.symm e] at hi
   subst this; exact .inr ⟨n,hm⟩
 cases ha with
 | t y v hy=>exact .t _ _ (hy.mono hS hX)
 | lsnil i s n hs hm oa cap hq =>
  simp only [Lg.frz0]; split
  ·rename_i e; subst e
   split
   ·rename_i t ht; exact .t _ _ (conv (.lsnil i s n (hshid.trans hs) hm oa cap hq) ht)
   ·exact .dead _ rfl
  ·rename_i hne; exact .lsnil i s n (hsh _ _ hne hs) hm oa cap hq
 | ls i off len s n g m c cap hs hm hle hlc hcm hfit hfull hq ad had =>
  simp only [Lg.frz0]; split
  ·rename_i e; subst e
   split
   ·rename_i t ht; exact .t _ _ (conv (.ls i off len s n g m c cap (hshid.trans hs) hm hle hlc hcm hfit hfull hq ad had) ht)
   ·exact .dead _ rfl
  ·rename_i hne; exact .ls i off len s n g m c cap (hsh _ _ hne hs) hm hle hlc hcm hfit hfull hq ad had
 | lpsl i j k s n g m hs hm =>
  simp only [Lg.frz0]; split
  ·rename_i e; subst e
   split
   ·rename_i t ht; exact .t _ _ (conv (.lpsl i j k s n g m (hshid.trans hs) hm) ht)
   ·exact .dead _ rfl
  ·rename_i hne; exact .lpsl i j k s n g m (hsh _ _ hne hs) hm
 | lpbx i k g m hs hm =>
  simp only [Lg.frz0]; split
  ·rename_i e; subst e
   split
   ·rename_i t ht; exact .t _ _ (conv (.lpbx i k g m (hshid.trans hs) hm) ht)
   ·exact .dead _ rfl
  ·rename_i hne; exact .lpbx i k g m (hsh _ _ hne hs) hm
 | lm i g m hs hm =>
  simp only [Lg.frz0]; split
  ·rename_i e; subst e
   split
   ·rename_i t ht; exact .t _ _ (conv (.lm i g m (hshid.trans hs) hm) ht)
   ·exact .dead _ rfl
  ·rename_i hne; exact .lm i g m (hsh _ _ hne hs) hm
 | lb i g m hs hm hle =>
  simp only [Lg.frz0]; split
  ·rename_i e; subst e
   split
   ·rename_i t ht; exact .t _ _ (conv (.lb i g m (hshid.trans hs) hm hle) ht)
   ·exact .dead _ rfl
  ·rename_i hne; exact .lb i g m (hsh _ _ hne hs) hm hle
 | li i g m hs hm =>
  simp only [Lg.frz0]; split
  ·exact .dead _ rfl
  ·rename_i hne; exact .li i g m (hsh _ _ hne hs) hm
 | fn f cs xs hlen hrel =>
  cases cs with
  | nil=>exact .fn f [] xs hlen (fun k a x h=>by simp at h)
  | cons c cs=>exact .dead _ rfl
 | dead v h=>exact .dead _ h
 | un=>exact .un
 | ag=>simp [Cj] at hna
 | tu=>simp [Cj] at hna
theorem AR.frz1 (h:Bv w0 B κ X μ st tm w) (hl:A4 st.hp id=some r) (hc:r.closed=true) (hsh:∀ i q,i ≠ id→st.sh i=some q→sh' i=some q) {a:AV} {x:Value} (ha:AR w X μ st.sh a x) (hna:Cj a=true) :
  AR w (fun b=>X b∨∃ n,μ id=some (b,n)) μ sh' (frz1 id r a) x:=by
 by_cases hf:∃ f cs,a=.fn f cs
 ·obtain ⟨f,cs,rfl⟩:=hf
  simp only [Lg.frz1]
  split
  ·rename_i hall
   cases ha with
   | fn f cs xs hlen hrel =>
    refine .fn f _ xs (by simpa using hlen) fun k a x ha hx=>?_
    simp only [List.getElem?_map,Option.map_eq_some_iff] at ha
    obtain ⟨b,hb,rfl⟩:=ha
    exact (hrel k b x hb hx).frz0 h hl hc hsh (List.all_eq_true.1 hall b (List.mem_of_getElem? hb))
  ·cases ha; exact .dead _ rfl
 ·have e:Lg.frz1 id r a=Lg.frz0 id r a:=by cases a <;> first | rfl | exact absurd ⟨_,_,rfl⟩ hf
  rw [e]; exact ha.frz0 h hl hc hsh hna
theorem q2d {a:AV} (h:a.one=true):(frz0 id r a).one=true:=by
 have key:∀ a:AV,a.one=true→(∀ x,a ≠ .t x)→(match Aj [(id,r)] 4 a with | some t=>AV.t t | none=>.dead).one=true:=by
  intro a h1 _
  split
  ·rename_i t ht; exact q9w h1 ht
  ·rfl
 cases a with
 | fn f cs=>cases cs <;> rfl
 | ag cs=>simp [AV.one] at h
 | tu cs=>simp [AV.one] at h
 | un=>simp [AV.one] at h
 | t x=>exact h
 | dead=>rfl
 | ls i off len cap=>simp only [frz0]; split; exact key (.ls id off len cap) rfl (by simp); rfl
 | lp i j k=>simp only [frz0]; split; exact key (.lp id j k) rfl (by simp); rfl
 | lm i=>simp only [frz0]; split; exact key (.lm id) rfl (by simp); rfl
 | lb i m=>simp only [frz0]; split; exact key (.lb id m) rfl (by simp); rfl
 | li i=>simp only [frz0]; split <;> rfl
theorem qBo {a:AV} (h:a.one=true):(frz1 id r a).one=true:=by
 cases a with
 | fn f cs=>simp only [frz1]; split <;> rfl
 | ag cs=>simp [AV.one] at h
 | tu cs=>simp [AV.one] at h
 | un=>simp [AV.one] at h
 | t x=>exact h
 | dead=>rfl
 | ls i off len cap=>exact q2d (a:=.ls i off len cap) rfl
 | lp i j k=>exact q2d (a:=.lp i j k) rfl
 | lm i=>exact q2d (a:=.lm i) rfl
 | lb i m=>exact q2d (a:=.lb i m) rfl
 | li i=>exact q2d (id:=id) (r:=r) (a:=.li i) rfl
theorem qDG {a:AV} (h:a.one=true):(Bi id r a).one=true:=by
 have e:Bi id r a=frz1 id r a:=by cases a <;> first | rfl | simp [AV.one] at h
 rw [e]; exact qBo h
theorem qDH {a:AV} (h:Cj a=true):Cj (frz0 id r a)=true:=by
 have key:∀ b:AV,Cj (match Aj [(id,r)] 4 b with | some t=>AV.t t | none=>.dead)=true:=by
  intro b; split <;> rfl
 cases a with
 | ag=>simp [Cj] at h
 | tu=>simp [Cj] at h
 | fn f cs=>cases cs <;> rfl
 | t | dead | un=>rfl
 | li i=>simp only [frz0]; split <;> rfl
 | _=>simp only [frz0]; split <;> first | exact key _ | rfl
theorem qDI {a:AV} (h:Cj a=true):Cj (frz1 id r a)=true:=by
 by_cases hf:∃ f cs,a=.fn f cs
 ·obtain ⟨f,cs,rfl⟩:=hf
  simp only [Lg.frz1]; split <;> rfl
 ·have e:Lg.frz1 id r a=Lg.frz0 id r a:=by cases a <;> first | rfl | exact absurd ⟨_,_,rfl⟩ hf
  rw [e]; exact qDH h
theorem AR.frz (h:Bv w0 B κ X μ st tm w) (hl:A4 st.hp id=some r) (hc:r.closed=true) (hsh:∀ i q,i ≠ id→st.sh i=some q→sh' i=some q) {a:AV} {x:Value} (ha:AR w X μ st.sh a x) :
  AR w (fun b=>X b∨∃ n,μ id=some (b,n)) μ sh' (Bi id r a) x:=by
 by_cases hg:Cj a=true
 ·have e:Bi id r a=Lg.frz1 id r a:=by cases a <;> first | rfl | simp [Cj] at hg
  rw [e]; exact ha.frz1 h hl hc hsh hg
 ·cases a with
  | ag cs =>
   obtain ⟨xs,rfl,h1,hr⟩:=ha.ag_inv
   refine AR.mk_ag (List.all_eq_true.2 fun b hb=>?_) ⟨by simpa using hr.1,fun k b y hb hy=>?_⟩
   ·obtain ⟨c,hc,rfl⟩:=List.mem_map.1 hb
    exact qBo (List.all_eq_true.1 h1 c hc)
   ·simp only [List.getElem?_map,Option.map_eq_some_iff] at hb
    obtain ⟨c,hc',rfl⟩:=hb
    exact (hr.2 k c y hc' hy).frz1 h hl hc hsh (q3Q (Wv h1 hc'))
  | tu cs =>
   obtain ⟨xs,rfl,h1,hr⟩:=ha.tu_inv
   refine AR.mk_tu (fun k b hb=>?_) ⟨by simpa using hr.1,fun k b y hb hy=>?_⟩
   ·simp only [List.getElem?_map,Option.map_eq_some_iff] at hb
    obtain ⟨c,hc',rfl⟩:=hb
    exact qDI (h1 k c hc')
   ·simp only [List.getElem?_map,Option.map_eq_some_iff] at hb
    obtain ⟨c,hc',rfl⟩:=hb
    exact (hr.2 k c y hc' hy).frz1 h hl hc hsh (h1 k c hc')
  | _=>exact absurd rfl hg
theorem qFD (q:Bc):(Dq id r q).sh=q.sh:=by cases q <;> rfl
theorem Bv.freeze (h:Bv w0 B κ X μ st tm w) (hl:A4 st.hp id=some r) (hc:r.closed=true) :
  Bv w0 B κ (fun b=>X b∨∃ n,μ id=some (b,n)) μ ⟨st.env.map fun p=>(p.1,Bi id r p.2),(del id st.hp).map fun p=>(p.1,Dq id r p.2)⟩ tm w:=by
 have hlook:∀ t,A4 ((del id st.hp).map fun p=>(p.1,Dq id r p.2)) t=if t=id then none else (A4 st.hp t).map (Dq id r):=by
  intro t
  rw [F6 (Dq id r),q5O]
  split <;> rfl
 have hs:∀ t,St.sh ⟨st.env.map fun p=>(p.1,Bi id r p.2),(del id st.hp).map fun p=>(p.1,Dq id r p.2)⟩ t=if t=id then none else st.sh t:=by
  intro t
  simp only [St.sh,hlook]
  split
  ·rfl
  ·cases A4 st.hp t <;> simp [qFD]
 have hsh:∀ i q,i ≠ id→st.sh i=some q→St.sh ⟨st.env.map fun p=>(p.1,Bi id r p.2),(del id st.hp).map fun p=>(p.1,Dq id r p.2)⟩ i=some q:=fun i q hi hq=>by rw [hs,if_neg hi]; exact hq
 have hback:∀ i,St.sh ⟨st.env.map fun p=>(p.1,Bi id r p.2),(del id st.hp).map fun p=>(p.1,Dq id r p.2)⟩ i ≠ none→i ≠ id∧st.sh i ≠ none:=fun i hi=>by
  rw [hs] at hi
  split at hi
  ·exact absurd rfl hi
  ·rename_i hne; exact ⟨hne,hi⟩
 have hid:st.sh id ≠ none:=by simp [Ff hl]
 refine ⟨?_,?_,fun a b g n n' ha hb=>h.inj a b g n n' (hback a ha).2 (hback b hb).2,?_,fun a hk ha=>h.kap a hk (hback a ha).2,h.kbig,?_,h.os,h.tape,h.output,h.size,h.fr⟩
 ·intro t a ht
  have h1:A4 (st.env.map fun p=>(p.1,Bi id r p.2)) t=(A4 st.env t).map (Bi id r):=F6 _ _ _
  simp only [h1,Option.map_eq_some_iff] at ht
  obtain ⟨b,hb,rfl⟩:=ht
  exact (h.env t b hb).frz h hl hc hsh
 ·intro i q hq
  simp only [hlook] at hq
  split at hq
  ·cases hq
  ·rename_i hne
   rw [Option.map_eq_some_iff] at hq
   obtain ⟨q,hq,rfl⟩:=hq
   have:=h.reg i q hq
   cases q with
   | sl ty s es =>
    refine ⟨this.1,this.2.imp (fun h=>h) fun ⟨g,arr,hm,hg,hle,hr⟩=>⟨g,arr,hm,hg,hle,fun i k e t x h1 h2 h3=>(hr i k e t x h1 h2 h3).mono (fun _ _=>rfl) (fun _ hb=>.inl hb)⟩⟩
   | it s pos=>exact this
   | mp es =>
    obtain ⟨g,n,clock,ms,hm,hg,hle,hr⟩:=this
    exact ⟨g,n,clock,ms,hm,hg,hle,fun i e m h1 h2=>⟨(hr i e m h1 h2).1,(hr i e m h1 h2).2.mono (fun _ _=>rfl) (fun _ hb=>.inl hb)⟩⟩
   | bx cs =>
    obtain ⟨h1,g,arr,ty,hm,hg,hle,hr⟩:=this
    refine ⟨fun k a ha=>?_,g,arr,ty,hm,hg,by simpa using hle,fun k a x ha hx=>?_⟩
    ·simp only [List.getElem?_map,Option.map_eq_some_iff] at ha
     obtain ⟨b,hb,rfl⟩:=ha
     exact qDG (h1 k b hb)
    ·simp only [List.getElem?_map,Option.map_eq_some_iff] at ha
     obtain ⟨b,hb,rfl⟩:=ha
     exact (hr k b x hb hx).frz h hl hc hsh
 ·intro i g n hi hm
  obtain ⟨h1,h2⟩:=h.loc i g n (hback i hi).2 hm
  refine ⟨fun hx=>?_,h2⟩
  rcases hx with hx | ⟨n',hx⟩
  ·exact h1 hx
  ·exact (hback i hi).1 (h.inj i id g n n' (hback i hi).2 hid hm hx)
 ·intro b hb
  rcases hb with hb | ⟨n,hb⟩
  ·exact h.xlt b hb
  ·exact (h.loc id b n hid hb).2.1
end
end Go.Lg
namespace Go.Lg
open Go
inductive Gh where
 | keep (ks rs:List Nat)
 | frz (id:Nat)
 | nl (slot id ty s:Nat)
 | nlb (rid k id ty s:Nat)
 | nlbS (rid slot id ty s:Nat)
 | ren (a b:Nat)
 | renS (a base slot:Nat)
 | keepB (ks rs:List Nat) (base N:Nat)
 | frzs (base n:Nat)
def I9:List Nat→St→St
 | [],st=>st
 | id::ids,st=>I9 ids (st.kill id)
def Hr (a b i:Nat):Option Nat:=if i=a then some b else some i
def Yu (a b:Nat):List (Nat × Bc)→List (Nat × Bc)
 | []=>[]
 | (k,r)::l=>(if k=a then b else k,D3 (Hr a b) r)::Yu a b l
def qDJ (base:Nat):Nat→St→St
 | 0,st=>st
 | n+1,st=>qDJ base n (st.freeze (base+n))
def q0a (a b:Nat) (st:St):St:=if (A4 st.hp b).isNone && (A4 st.hp a).isSome && decide (a<1000000) && decide (b<1000000) then ⟨st.env.map fun p=>(p.1,Be (Hr a b) p.2),Yu a b st.hp⟩ else st
def q81 (ks rs:List Nat) (base N:Nat) (st:St):St :=
 let s1:=I9 ((st.hp.map (·.1)).filter fun id=>!rs.contains id && !(decide (base≤id) && decide (id<base+N))) ⟨Lg.keep ks st.env,st.hp⟩
 ⟨s1.env,Lg.keep rs s1.hp++Lg.keep (List.range' base N) s1.hp⟩
def qEI (rid k id ty s:Nat) (st:St):St:=match A4 st.hp rid with
  | some (.bx cs)=>match cs[k]? with
   | some (.t (.sl [] (some 0) _))=>if (A4 st.hp id).isNone && decide (id<1000000) then ⟨st.env,(id,.sl ty s [])::Gg rid (.bx (cs.set k (.ls id 0 0 none))) st.hp⟩ else st
   | _=>st
  | _=>st
def Gh.run:Gh→St→St
 | .nlbS rid slot id ty s,st=>match A4 st.env slot with
  | some (.t (.v (.int _ n)))=>qEI rid n.toNat id ty s st
  | _=>st
 | .renS a base slot,st=>match A4 st.env slot with
  | some (.t (.v (.int _ n)))=>q0a a (base+n.toNat) st
  | _=>st
 | .keepB ks rs base N,st=>q81 ks rs base N st
 | .ren a b,st=>q0a a b st
 | .frzs base n,st=>qDJ base n st
 | .keep ks rs,st =>
  let s1:=I9 ((st.hp.map (·.1)).filter fun id=>!rs.contains id) ⟨Lg.keep ks st.env,st.hp⟩
  ⟨s1.env,Lg.keep rs s1.hp⟩
 | .frz id,st=>st.freeze id
 | .nl slot id ty s,st=>match A4 st.env slot with
  | some (.t (.sl [] (some 0) _))=>if (A4 st.hp id).isNone && decide (id<1000000) then ⟨(slot,.ls id 0 0 none)::st.env,(id,.sl ty s [])::st.hp⟩ else st
  | _=>st
 | .nlb rid k id ty s,st=>match A4 st.hp rid with
  | some (.bx cs)=>match cs[k]? with
   | some (.t (.sl [] (some 0) _))=>if (A4 st.hp id).isNone && decide (id<1000000) then ⟨st.env,(id,.sl ty s [])::Gg rid (.bx (cs.set k (.ls id 0 0 none))) st.hp⟩ else st
   | _=>st
  | _=>st
inductive IC where
 | skip
 | reg (ros:List RO) (gs:List Gh)
 | seq (a b:IC)
 | cond (c:Operand) (a b:IC)
 | block (id:Nat) (a:IC)
 | loop (a:IC)
 | exit (id:Nat)
 | ret
 | scope (a:IC)
 | gh (a:IC) (gs:List Gh)
 | dead
inductive AX where
 | normal
 | exit (id:Nat)
 | ret
def M8 (P:Program) (N:Nat):IC→Code→Bool
 | .skip,.skip=>true
 | .skip,.label _=>true
 | .reg ros _,.region _ ops dr=>Qr P N ops.toList ros ops.toList && (!dr || qDD ros ops.toList)
 | .seq a b,.seq c d=>M8 P N a c && M8 P N b d
 | .cond x a b,.cond y c d=>C3 x y && Am x && M8 P N a c && M8 P N b d
 | .block i a,.block j c=>i == j && M8 P N a c
 | .loop a,.loop c=>M8 P N a c
 | .exit i,.exit j=>i == j
 | .ret,.ret=>true
 | .scope a,.scope c=>M8 P N a c
 | .gh a _,c=>M8 P N a c
 | .dead,_=>true
 | _,_=>false
def As (n:St→Prop) (Q:AX→St→Prop):AX→St→Prop
 | .normal,s=>n s
 | e,s=>Q e s
def M9 (id:Nat) (Q:AX→St→Prop):AX→St→Prop
 | .exit i,s=>if i=id then Q .normal s else Q (.exit i) s
 | e,s=>Q e s
def qGR (F:(AX→St→Prop)→St→Prop) (Q:AX→St→Prop):Nat→St→Prop
 | 0,_=>False
 | n+1,s=>F (As (qGR F Q n) Q) s
def awp (P:Program) (Γ:Tables):IC→(AX→St→Prop)→St→Prop
 | .skip,Q,s=>Q .normal s
 | .reg ros gs,Q,s=>∃ s1,Px P Γ ros s s1∧Q .normal (gs.foldl (fun s g=>g.run s) s1)
 | .seq a b,Q,s=>awp P Γ a (As (awp P Γ b Q) Q) s
 | .cond c a b,Q,s=>∃ t,ev Γ s.env c=some (.t (.v (.bool t)))∧(t=true→awp P Γ a Q s)∧(t=false→awp P Γ b Q s)
 | .block id a,Q,s=>awp P Γ a (M9 id Q) s
 | .loop a,Q,s=>∃ n,qGR (awp P Γ a) Q n s
 | .exit i,Q,s=>Q (.exit i) s
 | .ret,Q,s=>Q .ret s
 | .scope a,Q,s=>awp P Γ a Q s
 | .gh a gs,Q,s=>awp P Γ a (As (fun s=>Q .normal (gs.foldl (fun s g=>g.run s) s)) Q) s
 | .dead,_,_=>False
def AX.to:AX→Exit
 | .normal=>.normal
 | .exit i=>.exit i
 | .ret=>.ret
section
variable {P:Program} {Γ:Tables} {w0:World} {B:Nat} {κ:Df} {X0 X:Nat→Prop} {st st1:St} {N:Nat} {a:Act} {w:World}
theorem Bn:∀ {c:IC} {Q Q':AX→St→Prop} {s:St},awp P Γ c Q s→(∀ e s,Q e s→Q' e s)→awp P Γ c Q' s
 | .skip,_,_,_,h,hq=>hq _ _ h
 | .reg _ _,_,_,_,⟨s1,h1,h2⟩,hq=>⟨s1,h1,hq _ _ h2⟩
 | .seq a b,Q,Q',s,h,hq=>Bn (c:=a) h fun e s h=>by
  cases e with
  | normal=>exact Bn (c:=b) h hq
  | exit i=>exact hq _ _ h
  | ret=>exact hq _ _ h
 | .cond _ a b,_,_,_,⟨t,h1,h2,h3⟩,hq=>⟨t,h1,fun e=>Bn (c:=a) (h2 e) hq,fun e=>Bn (c:=b) (h3 e) hq⟩
 | .block id a,Q,Q',s,h,hq=>Bn (c:=a) h fun e s h=>by
  cases e with
  | normal=>exact hq _ _ h
  | exit i=>simp only [M9] at h ⊢; split <;> rename_i hi <;> simp only [hi,if_true,if_false] at h <;> exact hq _ _ h
  | ret=>exact hq _ _ h
 | .loop a,Q,Q',s,⟨n,h⟩,hq=>by
  refine ⟨n,?_⟩
  induction n generalizing s with
  | zero=>exact h
  | succ n ih =>
   refine Bn (c:=a) h fun e s h=>?_
   cases e with
   | normal=>exact ih _ h
   | exit i=>exact hq _ _ h
   | ret=>exact hq _ _ h
 | .exit _,_,_,_,h,hq=>hq _ _ h
 | .ret,_,_,_,h,hq=>hq _ _ h
 | .scope a,_,_,_,h,hq=>Bn (c:=a) h hq
 | .gh a gs,_,_,_,h,hq=>Bn (c:=a) h fun e s h=>by
  cases e with
  | normal=>exact hq _ _ h
  | exit i=>exact hq _ _ h
  | ret=>exact hq _ _ h
 | .dead,_,_,_,h,_=>h.elim
theorem Iq:∀ {c:IC} {Q:AX→St→Prop} {s:St},awp P Γ c Q s→∃ e s',Q e s'∧awp P Γ c (fun e2 s2=>e2=e∧s2=s') s
 | .skip,_,_,h=>⟨_,_,h,rfl,rfl⟩
 | .reg _ _,_,_,⟨s1,h1,h2⟩=>⟨_,_,h2,s1,h1,rfl,rfl⟩
 | .seq a b,Q,s,h=>by
  obtain ⟨e,s1,h1,h2⟩:=Iq (c:=a) h
  cases e with
  | normal =>
   obtain ⟨e2,s2,h3,h4⟩:=Iq (c:=b) h1
   exact ⟨e2,s2,h3,Bn (c:=a) h2 fun e s ⟨he,hs⟩=>by subst he; subst hs; exact h4⟩
  | exit i=>exact ⟨_,_,h1,Bn (c:=a) h2 fun e s ⟨he,hs⟩=>by subst he; subst hs; exact ⟨rfl,rfl⟩⟩
  | ret=>exact ⟨_,_,h1,Bn (c:=a) h2 fun e s ⟨he,hs⟩=>by subst he; subst hs; exact ⟨rfl,rfl⟩⟩
 | .cond c a b,Q,s,⟨t,h1,h2,h3⟩=>by
  cases t with
  | true =>
   obtain ⟨e,s1,h4,h5⟩:=Iq (c:=a) (h2 rfl)
   exact ⟨e,s1,h4,true,h1,fun _=>h5,fun h=>by cases h⟩
  | false =>
   obtain ⟨e,s1,h4,h5⟩:=Iq (c:=b) (h3 rfl)
   exact ⟨e,s1,h4,false,h1,(fun h=>by cases h),fun _=>h5⟩
 | .block id a,Q,s,h=>by
  obtain ⟨e,s1,h1,h2⟩:=Iq (c:=a) h
  cases e with
  | normal=>exact ⟨_,_,h1,Bn (c:=a) h2 fun e s ⟨he,hs⟩=>by subst he; subst hs; exact ⟨rfl,rfl⟩⟩
  | ret=>exact ⟨_,_,h1,Bn (c:=a) h2 fun e s ⟨he,hs⟩=>by subst he; subst hs; exact ⟨rfl,rfl⟩⟩
  | exit i =>
   by_cases hi:i=id
   ·simp only [M9,hi,if_true] at h1
    exact ⟨_,_,h1,Bn (c:=a) h2 fun e s ⟨he,hs⟩=>by subst he; subst hs; simp [M9,hi]⟩
   ·simp only [M9,hi,if_false] at h1
    exact ⟨_,_,h1,Bn (c:=a) h2 fun e s ⟨he,hs⟩=>by subst he; subst hs; simp [M9,hi]⟩
 | .loop a,Q,s,⟨n,h⟩=>by
  induction n generalizing s with
  | zero=>exact h.elim
  | succ n ih =>
   obtain ⟨e,s1,h1,h2⟩:=Iq (c:=a) h
   cases e with
   | normal =>
    obtain ⟨e2,s2,h3,m,h4⟩:=ih _ h1
    exact ⟨e2,s2,h3,m+1,Bn (c:=a) h2 fun e s ⟨he,hs⟩=>by subst he; subst hs; exact h4⟩
   | exit i=>exact ⟨_,_,h1,1,Bn (c:=a) h2 fun e s ⟨he,hs⟩=>by subst he; subst hs; exact ⟨rfl,rfl⟩⟩
   | ret=>exact ⟨_,_,h1,1,Bn (c:=a) h2 fun e s ⟨he,hs⟩=>by subst he; subst hs; exact ⟨rfl,rfl⟩⟩
 | .exit _,_,_,h=>⟨_,_,h,rfl,rfl⟩
 | .ret,_,_,h=>⟨_,_,h,rfl,rfl⟩
 | .scope a,Q,s,h=>Iq (c:=a) h
 | .gh a gs,Q,s,h=>by
  obtain ⟨e,s1,h1,h2⟩:=Iq (c:=a) h
  cases e with
  | normal=>exact ⟨_,_,h1,Bn (c:=a) h2 fun e s ⟨he,hs⟩=>by subst he; subst hs; exact ⟨rfl,rfl⟩⟩
  | exit i=>exact ⟨_,_,h1,Bn (c:=a) h2 fun e s ⟨he,hs⟩=>by subst he; subst hs; exact ⟨rfl,rfl⟩⟩
  | ret=>exact ⟨_,_,h1,Bn (c:=a) h2 fun e s ⟨he,hs⟩=>by subst he; subst hs; exact ⟨rfl,rfl⟩⟩
 | .dead,_,_,h=>h.elim
theorem qGS {c:IC} {Q:AX→St→Prop} {s:St} (h:awp P Γ c (As (awp P Γ (.loop c) Q) Q) s):awp P Γ (.loop c) Q s:=by
 obtain ⟨e,s1,h1,h2⟩:=Iq h
 cases e with
 | normal =>
  obtain ⟨n,h1⟩:=h1
  exact ⟨n+1,Bn h2 fun e s ⟨he,hs⟩=>by subst he; subst hs; exact h1⟩
 | exit i=>exact ⟨1,Bn h2 fun e s ⟨he,hs⟩=>by subst he; subst hs; exact h1⟩
 | ret=>exact ⟨1,Bn h2 fun e s ⟨he,hs⟩=>by subst he; subst hs; exact h1⟩
theorem q4h:∀ {ids:List Nat} {st:St} {X:Nat→Prop} {μ:Df} {tm:Array Value},Bv w0 B κ X μ st tm w→Bv w0 B κ X μ (I9 ids st) tm w
 | [],_,_,_,_,h=>h
 | id::ids,_,_,_,_,h=>q4h (ids:=ids) (h.kill id)
theorem q1R:∀ {ids:List Nat} {st:St} {t:Nat},A4 (I9 ids st).hp t ≠ none→t ∉ ids∧A4 st.hp t ≠ none
 | [],_,_,h=>⟨by simp,h⟩
 | id::ids,st,t,h=>by
  obtain ⟨h1,h2⟩:=q1R (ids:=ids) h
  rw [Wx] at h2
  split at h2
  ·exact absurd rfl h2
  ·rename_i hne
   refine ⟨by simp [hne,h1],fun e=>h2 (by rw [e]; rfl)⟩
theorem q8W {α:Type}:∀ {l:List (Nat × α)} {t:Nat},A4 l t ≠ none→t ∈ l.map (·.1)
 | [],_,h=>absurd rfl h
 | (k,v)::l,t,h=>by
  simp only [A4] at h
  split at h
  ·rename_i e; simp [e]
  ·exact List.mem_cons_of_mem _ (q8W h)
theorem q4i {α:Type} {ks:List Nat} {l:List (Nat × α)} {t:Nat} (h:A4 l t ≠ none→t ∈ ks):A4 (Lg.keep ks l) t=A4 l t:=by
 cases hq:A4 (Lg.keep ks l) t with
 | some a=>exact ((q0P ks l t a hq).1).symm
 | none =>
  cases hl:A4 l t with
  | none=>rfl
  | some a =>
   exfalso
   have hm:=h (by rw [hl]; simp)
   clear h
   induction ks with
   | nil=>cases hm
   | cons k ks ih =>
    unfold Lg.keep at hq ih
    rw [List.filterMap_cons] at hq
    cases hk:A4 l k with
    | none =>
     rw [hk] at hq
     rcases List.mem_cons.1 hm with rfl | hm
     ·rw [hl] at hk; cases hk
     ·exact ih hq hm
    | some v =>
     rw [hk] at hq
     simp only [Option.map_some,A4] at hq
     split at hq
     ·cases hq
     ·rename_i hne
      rcases List.mem_cons.1 hm with rfl | hm
      ·exact hne rfl
      ·exact ih hq hm
theorem Bv.hpc {X:Nat→Prop} {μ:Df} {tm:Array Value} {hp:List (Nat × Bc)} (h:Bv w0 B κ X μ st tm w) (hl:∀ t,A4 hp t=A4 st.hp t):Bv w0 B κ X μ ⟨st.env,hp⟩ tm w:=by
 have hs:St.sh ⟨st.env,hp⟩=st.sh:=funext fun t=>by simp only [St.sh,hl]
 refine ⟨fun t a ht=>?_,fun id r hr=>?_,?_,?_,?_,h.kbig,h.xlt,h.os,h.tape,h.output,h.size,h.fr⟩
 ·rw [hs]; exact h.env t a ht
 ·rw [hs]; exact h.reg id r (by rw [← hl]; exact hr)
 ·rw [hs]; exact h.inj
 ·rw [hs]; exact h.loc
 ·rw [hs]; exact h.kap
theorem Bv.slot {X:Nat→Prop} {μ:Df} {tm:Array Value} {t:Nat} {b:AV} (h:Bv w0 B κ X μ st tm w) (hb:AR w X μ st.sh b (tm.getD t undef)):Bv w0 B κ X μ ⟨(t,b)::st.env,st.hp⟩ tm w:=by
 refine ⟨fun u a ha=>?_,h.reg,h.inj,h.loc,h.kap,h.kbig,h.xlt,h.os,h.tape,h.output,h.size,h.fr⟩
 simp only [A4] at ha
 split at ha
 ·rename_i e; subst e; simp only [Option.some.injEq] at ha; subst ha; exact hb
 ·exact h.env u a ha
theorem TR.nil_inv {X:Nat→Prop} {nl:Option Bool} {v:Value} (h:TR w X (.sl [] (some 0) nl) v):∃ a,v=.slice a 0 0:=by
 cases h with
 | nil cap nl a c hc hn hz=>exact ⟨a,by rw [hc 0 rfl]⟩
 | sl es cap nl s b off c f hcell hlen hrel hone hx hle hc hn=>exact ⟨_,by rw [hc 0 rfl]; rfl⟩
theorem Bv.addNil {X:Nat→Prop} {μ:Df} {tm:Array Value} {id:Nat} (h:Bv w0 B κ X μ st tm w) (hi:A4 st.hp id=none) (hlt:id<1000000) (ty s:Nat):Bv w0 B κ X (μ.set id none) ⟨st.env,(id,.sl ty s [])::st.hp⟩ tm w:=by
 refine h.addReg hi hlt (.sl ty s []) none (fun g n e=>by cases e) ⟨fun i e h=>by simp at h,.inl ⟨rfl,by simp [Df.set]⟩⟩
theorem q4j {a b t:Nat}:∀ {hp:List (Nat × Bc)},A4 hp b=none→a ≠ b→A4 (Yu a b hp) t=if t=b then (A4 hp a).map (D3 (Hr a b)) else if t=a then none else (A4 hp t).map (D3 (Hr a b))
 | [],_,_=>by simp [Yu,A4]
 | (k,r)::l,hb,hab=>by
  simp only [A4] at hb
  split at hb
  ·cases hb
  rename_i hkb
  have ih:=q4j (t:=t) hb hab
  simp only [Yu,A4,ih]
  by_cases hka:k=a
  ·subst hka
   by_cases htb:t=b
   ·subst htb; simp
   ·simp [htb,Ne.symm htb]
    by_cases hta:t=k
    ·simp [hta]
    ·simp [hta,Ne.symm hta]
  ·simp only [hka,if_false]
   by_cases htb:t=b
   ·subst htb; simp [hkb]
   ·by_cases hkt:k=t
    ·subst hkt; simp [htb,hka]
    ·simp [hkt,htb]
theorem Bv.rename {X:Nat→Prop} {μ:Df} {tm:Array Value} (h:Bv w0 B κ X μ st tm w) {x y:Nat} (hb:A4 st.hp y=none) (ha:A4 st.hp x ≠ none) (hx:x<1000000) (hy:y<1000000) :
  Bv w0 B κ X (fun i=>if i=y then μ x else μ i) ⟨st.env.map fun p=>(p.1,Be (Hr x y) p.2),Yu x y st.hp⟩ tm w:=by
 have hne:x ≠ y:=fun e=>ha (e ▸ hb)
 have hl:=fun t=>q4j (t:=t) hb hne
 have hsh:∀ t,St.sh ⟨st.env.map fun p=>(p.1,Be (Hr x y) p.2),Yu x y st.hp⟩ t=if t=y then st.sh x else if t=x then none else st.sh t:=by
  intro t
  simp only [St.sh,hl]
  split
  ·cases A4 st.hp x <;> simp [Ou]
  ·split
   ·rfl
   ·cases A4 st.hp t <;> simp [Ou]
 have hyn:st.sh y=none:=St.sh_none.2 hb
 have hφ:∀ i j q,Hr x y i=some j→st.sh i=some q→St.sh ⟨st.env.map fun p=>(p.1,Be (Hr x y) p.2),Yu x y st.hp⟩ j=some q∧(if j=y then μ x else μ j)=μ i:=by
  intro i j q hj hq
  rw [hsh]
  simp only [Hr] at hj
  split at hj <;> simp only [Option.some.injEq] at hj <;> subst hj
  ·rename_i e; subst e; simp [hq]
  ·rename_i e
   have:i ≠ y:=fun e=>by rw [e,hyn] at hq; cases hq
   simp [this,e,hq]
 -- the elder name
 have hback:∀ t,St.sh ⟨st.env.map fun p=>(p.1,Be (Hr x y) p.2),Yu x y st.hp⟩ t ≠ none→∃ u,st.sh u ≠ none∧(if t=y then μ x else μ t)=μ u∧(t=y∧u=x∨t ≠ y∧t ≠ x∧u=t):=by
  intro t ht
  rw [hsh] at ht
  by_cases e:t=y
  ·exact ⟨x,by simpa [e] using ht,by simp [e],.inl ⟨e,rfl⟩⟩
  ·by_cases f:t=x
   ·rw [if_neg e,if_pos f] at ht
    exact absurd rfl ht
   ·exact ⟨t,by simpa [e,f] using ht,by simp [e],.inr ⟨e,f,rfl⟩⟩
 refine ⟨?_,?_,?_,?_,?_,h.kbig,h.xlt,h.os,h.tape,h.output,h.size,h.fr⟩
 ·intro t a ht
  have h1:A4 (st.env.map fun p=>(p.1,Be (Hr x y) p.2)) t=(A4 st.env t).map (Be (Hr x y)):=F6 _ _ _
  have ht':A4 (st.env.map fun p=>(p.1,Be (Hr x y) p.2)) t=some a:=ht
  rw [h1,Option.map_eq_some_iff] at ht'
  obtain ⟨b,hb,rfl⟩:=ht'
  exact (h.env t b hb).ren hφ
 ·intro t r hr
  have hr':A4 (Yu x y st.hp) t=some r:=hr
  rw [hl] at hr'
  split at hr'
  ·rename_i e; subst e
   rw [Option.map_eq_some_iff] at hr'
   obtain ⟨q,hq,rfl⟩:=hr'
   exact (h.reg x q hq).ren hφ (by simp)
  ·rename_i e
   split at hr'
   ·cases hr'
   ·rw [Option.map_eq_some_iff] at hr'
    obtain ⟨q,hq,rfl⟩:=hr'
    exact (h.reg t q hq).ren hφ (by simp [e])
 ·intro a b g n n' ha' hb' hma hmb
  obtain ⟨u,h1,h2,h3⟩:=hback a ha'
  obtain ⟨v,h4,h5,h6⟩:=hback b hb'
  have:=h.inj u v g n n' h1 h4 (h2 ▸ hma) (h5 ▸ hmb)
  subst this
  rcases h3 with ⟨h3,h3'⟩ | ⟨h3,h3',h3''⟩ <;> rcases h6 with ⟨h6,h6'⟩ | ⟨h6,h6',h6''⟩
  ·rw [h3,h6]
  ·exact absurd (h6''.symm.trans h3') h6'
  ·exact absurd (h3''.symm.trans h6') h3'
  ·rw [← h3'',← h6'']
 ·intro t g n ht hm
  obtain ⟨u,h1,h2,_⟩:=hback t ht
  exact h.loc u g n h1 (h2 ▸ hm)
 ·intro t hbig ht
  obtain ⟨u,h1,h2,h3⟩:=hback t ht
  rcases h3 with ⟨h3,_⟩ | ⟨_,_,h3⟩
  ·omega
  ·subst h3
   exact h2.trans (h.kap u hbig h1)
theorem Wy.freeze (hI:Wy Γ w0 B κ X0 N st a w) (id:Nat):Wy Γ w0 B κ X0 N (st.freeze id) a w:=by
 obtain ⟨X,μ,hsim,hg,h0,hbd,hsz,hds⟩:=hI
 simp only [St.freeze]
 split
 ·rename_i r hl
  split
  ·rename_i hc
   refine ⟨_,μ,hsim.freeze hl hc,hg.mono (fun _ _=>rfl) (fun _ hb=>.inl hb),fun b hb=>.inl (h0 b hb),fun b hb=>?_,hsz,hds⟩
   rcases hb with hb | ⟨n,hb⟩
   ·exact hbd b hb
   ·rcases Nat.lt_or_ge b B with hlt | hge
    ·obtain ⟨id',n',hk⟩:=(hsim.loc id b n (by simp [Ff hl]) hb).2.2 hlt
     exact .inr (.inr ⟨id',n',hk⟩)
    ·exact .inr (.inl hge)
  ·exact ⟨X,μ,hsim,hg,h0,hbd,hsz,hds⟩
 ·exact ⟨X,μ,hsim,hg,h0,hbd,hsz,hds⟩
theorem qEJ {base:Nat}:∀ {n:Nat} {st:St},Wy Γ w0 B κ X0 N st a w→Wy Γ w0 B κ X0 N (qDJ base n st) a w
 | 0,_,h=>h
 | n+1,_,h=>qEJ (n:=n) (h.freeze (base+n))
theorem qBp (x y:Nat) (hI:Wy Γ w0 B κ X0 N st a w):Wy Γ w0 B κ X0 N (q0a x y st) a w:=by
 obtain ⟨X,μ,hsim,hg,h0,hbd,hsz,hds⟩:=hI
 simp only [q0a]
 split
 ·rename_i hc
  simp only [Bool.and_eq_true,Option.isNone_iff_eq_none,decide_eq_true_eq,Option.isSome_iff_ne_none] at hc
  exact ⟨X,_,hsim.rename hc.1.1.1 hc.1.1.2 hc.1.2 hc.2,hg,h0,hbd,hsz,hds⟩
 ·exact ⟨X,μ,hsim,hg,h0,hbd,hsz,hds⟩
theorem qBq (rid k id ty s:Nat) (hI:Wy Γ w0 B κ X0 N st a w):Wy Γ w0 B κ X0 N (qEI rid k id ty s st) a w:=by
 obtain ⟨X,μ,hsim,hg,h0,hbd,hsz,hds⟩:=hI
 unfold qEI
 split
 ·rename_i cs hl
  split
  ·rename_i nl hk
   split
   ·rename_i hc
    simp only [Bool.and_eq_true,Option.isNone_iff_eq_none,decide_eq_true_eq] at hc
    have h1:=hsim.addNil hc.1 hc.2 ty s
    have hne:rid ≠ id:=fun e=>by rw [e,hc.1] at hl; cases hl
    have hlk:∀ t,A4 ((id,Bc.sl ty s [])::Gg rid (.bx (cs.set k (.ls id 0 0 none))) st.hp) t=if t=rid then some (.bx (cs.set k (.ls id 0 0 none))) else A4 ((id,Bc.sl ty s [])::st.hp) t:=by
     intro t
     simp only [A4]
     by_cases e:id=t
     ·subst e; simp [Ne.symm hne]
     ·simp only [e,if_false]
      rw [Es,hl]; rfl
    have hsh:∀ t,St.sh ⟨st.env,(id,Bc.sl ty s [])::Gg rid (.bx (cs.set k (.ls id 0 0 none))) st.hp⟩ t=St.sh ⟨st.env,(id,Bc.sl ty s [])::st.hp⟩ t:=by
     intro t
     simp only [St.sh,hlk]
     split
     ·rename_i e; subst e; simp [A4,Ne.symm hne,hl,Bc.sh]
     ·rfl
    have hsf:St.sh ⟨st.env,(id,Bc.sl ty s [])::Gg rid (.bx (cs.set k (.ls id 0 0 none))) st.hp⟩=St.sh ⟨st.env,(id,Bc.sl ty s [])::st.hp⟩:=funext hsh
    refine ⟨X,μ.set id none,⟨fun t b hb=>?_,fun t r hr=>?_,?_,?_,?_,h1.kbig,h1.xlt,h1.os,h1.tape,h1.output,h1.size,h1.fr⟩,hg,h0,hbd,hsz,hds⟩
    ·rw [hsf]; exact h1.env t b hb
    ·rw [hsf]
     simp only [hlk] at hr
     split at hr
     ·rename_i e; subst e
      simp only [Option.some.injEq] at hr; subst hr
      obtain ⟨h2,g,arr,ty',hm,hg',hle,hrel⟩:=h1.reg t (.bx cs) (by simp [A4,Ne.symm hne,hl])
      obtain ⟨ad,hv⟩:∃ ad,arr[k]? = some (.slice ad 0 0):=by
       have hklt:=(List.getElem?_eq_some_iff.1 hk).1
       have hka:k<arr.size:=by rw [← hle]; exact hklt
       have h3:=hrel k _ arr[k] hk (by simp [hka])
       obtain ⟨ad,e⟩:=h3.t_inv.nil_inv
       exact ⟨ad,by simp [hka,e]⟩
      refine ⟨fun j b hb=>?_,g,arr,ty',hm,hg',by simpa using hle,fun j b x hb hx=>?_⟩
      ·rw [List.getElem?_set] at hb
       split at hb
       ·split at hb
        ·simp only [Option.some.injEq] at hb; subst hb; rfl
        ·cases hb
       ·exact h2 j b hb
      ·rw [List.getElem?_set] at hb
       split at hb
       ·rename_i e; subst e
        split at hb
        ·simp only [Option.some.injEq] at hb; subst hb
         rw [hv] at hx; cases hx
         exact .lsnil id s 0 (by simp [St.sh,A4,Bc.sh]) (by simp [Df.set]) ad none (fun q h=>by cases h)
        ·cases hb
       ·exact hrel j b x hb hx
     ·exact h1.reg t r hr
    ·rw [hsf]; exact h1.inj
    ·rw [hsf]; exact h1.loc
    ·rw [hsf]; exact h1.kap
   ·exact ⟨X,μ,hsim,hg,h0,hbd,hsz,hds⟩
  ·exact ⟨X,μ,hsim,hg,h0,hbd,hsz,hds⟩
 ·exact ⟨X,μ,hsim,hg,h0,hbd,hsz,hds⟩
theorem Gh.run_ok (g:Gh) (hI:Wy Γ w0 B κ X0 N st a w):Wy Γ w0 B κ X0 N (g.run st) a w:=by
 obtain ⟨X,μ,hsim,hg,h0,hbd,hsz,hds⟩:=hI
 cases g with
 | keep ks rs =>
  have h1:Bv w0 B κ X μ ⟨Lg.keep ks st.env,st.hp⟩ a.tmps w:=hsim.sub _ fun t b ht=>(q0P ks _ t b ht).1
  have h2:=q4h (ids:=(st.hp.map (·.1)).filter fun id=>!rs.contains id) h1
  refine ⟨X,μ,h2.hpc fun t=>q4i fun hne=>?_,hg,h0,hbd,hsz,hds⟩
  obtain ⟨h3,h4⟩:=q1R hne
  have h5:=q8W h4
  simp only [List.mem_filter,not_and,Bool.not_eq_true',Bool.not_eq_true] at h3
  have:=h3 h5
  simpa using this
 | frz id=>exact Wy.freeze ⟨X,μ,hsim,hg,h0,hbd,hsz,hds⟩ id
 | frzs base n=>exact qEJ ⟨X,μ,hsim,hg,h0,hbd,hsz,hds⟩
 | ren x y=>exact qBp x y ⟨X,μ,hsim,hg,h0,hbd,hsz,hds⟩
 | renS x base slot =>
  simp only [Gh.run]
  split
  ·exact qBp _ _ ⟨X,μ,hsim,hg,h0,hbd,hsz,hds⟩
  ·exact ⟨X,μ,hsim,hg,h0,hbd,hsz,hds⟩
 | keepB ks rs base n =>
  have h1:Bv w0 B κ X μ ⟨Lg.keep ks st.env,st.hp⟩ a.tmps w:=hsim.sub _ fun t b ht=>(q0P ks _ t b ht).1
  have h2:=q4h (ids:=(st.hp.map (·.1)).filter fun id=>!rs.contains id && !(decide (base≤id) && decide (id<base+n))) h1
  refine ⟨X,μ,h2.hpc fun t=>?_,hg,h0,hbd,hsz,hds⟩
  rw [Du]
  by_cases ht:t ∈ rs
  ·rw [q4i (fun _=>ht)]
   cases hl:A4 (I9 ((st.hp.map (·.1)).filter fun id=>!rs.contains id && !(decide (base≤id) && decide (id<base+n))) ⟨Lg.keep ks st.env,st.hp⟩).hp t with
   | some r=>rfl
   | none =>
    simp only [Option.none_or]
    cases hk:A4 (Lg.keep (List.range' base n) (I9 ((st.hp.map (·.1)).filter fun id=>!rs.contains id && !(decide (base≤id) && decide (id<base+n))) ⟨Lg.keep ks st.env,st.hp⟩).hp) t with
    | none=>rfl
    | some r=>have:=(q0P _ _ t r hk).1; rw [hl] at this; cases this
  ·have e:A4 (Lg.keep rs (I9 ((st.hp.map (·.1)).filter fun id=>!rs.contains id && !(decide (base≤id) && decide (id<base+n))) ⟨Lg.keep ks st.env,st.hp⟩).hp) t=none:=by
    cases hk:A4 (Lg.keep rs (I9 ((st.hp.map (·.1)).filter fun id=>!rs.contains id && !(decide (base≤id) && decide (id<base+n))) ⟨Lg.keep ks st.env,st.hp⟩).hp) t with
    | none=>rfl
    | some r=>exact absurd (q0P _ _ t r hk).2 ht
   rw [e,Option.none_or]
   refine q4i fun hne=>?_
   obtain ⟨h3,h4⟩:=q1R hne
   have h5:=q8W h4
   simp only [List.mem_filter,not_and,Bool.not_eq_true',Bool.not_eq_true] at h3
   have:=h3 h5
   simp [ht] at this
   rw [List.mem_range'_1]; omega
 | nl slot id ty s =>
  simp only [Gh.run]
  split
  ·rename_i nl hl
   split
   ·rename_i hc
    simp only [Bool.and_eq_true,Option.isNone_iff_eq_none,decide_eq_true_eq] at hc
    have h1:=hsim.addNil hc.1 hc.2 ty s
    obtain ⟨ad,hv⟩:=(hsim.env slot _ hl).t_inv.nil_inv
    refine ⟨X,μ.set id none,h1.slot ?_,hg,h0,hbd,hsz,hds⟩
    rw [hv]
    exact .lsnil id s 0 (by simp [St.sh,A4,Bc.sh]) (by simp [Df.set]) ad none (fun q h=>by cases h)
   ·exact ⟨X,μ,hsim,hg,h0,hbd,hsz,hds⟩
  ·exact ⟨X,μ,hsim,hg,h0,hbd,hsz,hds⟩
 | nlb rid k id ty s=>exact qBq rid k id ty s ⟨X,μ,hsim,hg,h0,hbd,hsz,hds⟩
 | nlbS rid slot id ty s =>
  simp only [Gh.run]
  split
  ·exact qBq _ _ _ _ _ ⟨X,μ,hsim,hg,h0,hbd,hsz,hds⟩
  ·exact ⟨X,μ,hsim,hg,h0,hbd,hsz,hds⟩
theorem qDK:∀ {gs:List Gh} {st:St},Wy Γ w0 B κ X0 N st a w→Wy Γ w0 B κ X0 N (gs.foldl (fun s g=>g.run s) st) a w
 | [],_,h=>h
 | g::gs,_,h=>qDK (gs:=gs) (Gh.run_ok g h)
def post (Γ:Tables) (w0:World) (B:Nat) (κ:Df) (X0:Nat→Prop) (N:Nat) (Q:AX→St→Prop):Exit→Act→World→Prop:=fun e a w=>∃ x s,e=x.to∧Wy Γ w0 B κ X0 N s a w∧Q x s
theorem Wy.drawn (h:Wy Γ w0 B κ X0 N st a w) (n:Nat):Wy Γ w0 B κ X0 N st a { w with drawn:=n }:=by
 have hb:RowKit.Below w.heap.size w { w with drawn:=n }:=by constructor <;> simp
 obtain ⟨X,μ,hsim,hg,h0,hbd,hsz,hds⟩:=h
 have hs:Rw X w { w with drawn:=n }:=fun _ _=>rfl
 exact ⟨X,μ,hsim.grow hb (fun _ hb=>hb) (fun _ hb=>.inl hb),hg.mono hs (fun _ hb=>hb),h0,hbd,hsz,hds⟩
theorem E9 (hN:N≤1000000) (hm:P.follows .mixedOrders=true):∀ {c:IC} {d:Code} {Q:AX→St→Prop} {st:St} {a:Act} {w:World},M8 P N c d=true→Wy Γ w0 B κ X0 N st a w→awp P Γ c Q st→d.wp P (post Γ w0 B κ X0 N Q) a w
 | .skip,d,Q,st,a,w,hc,hI,h=>by
  cases d <;> simp [M8] at hc
  ·exact wp_skip ⟨.normal,st,rfl,hI,h⟩
  ·exact wp_label ⟨.normal,st,rfl,hI,h⟩
 | .reg ros gs,d,Q,st,a,w,hc,hI,h=>by
  cases d <;> simp only [M8,Bool.false_eq_true] at hc
  rename_i id ops dr
  simp only [Bool.and_eq_true,Bool.or_eq_true,Bool.not_eq_true'] at hc
  obtain ⟨s1,h1,h2⟩:=h
  have fin:∀ a' w',Wy Γ w0 B κ X0 N s1 a' w'→post Γ w0 B κ X0 N Q .normal a' w':=fun a' w' hI'=>⟨.normal,_,rfl,qDK hI',h2⟩
  cases dr with
  | false =>
   refine wp_region_list ?_
   have:=q7F (Q:=post Γ w0 B κ X0 N Q) (ops:=ops.toList) hN hI hc.1 h1 fin
   rwa [Array.toArray_toList] at this
  | true =>
   have hd:=hc.2.resolve_left (by simp)
   refine wp_region_any hm ?_
   have:=qDF (Q:=post Γ w0 B κ X0 N Q) (ops:=ops.toList) hN (hI.drawn (w.drawn+1)) hc.1 hd h1 fin
   rwa [Array.toArray_toList] at this
 | .seq x y,d,Q,st,a,w,hc,hI,h=>by
  cases d <;> simp only [M8,Bool.false_eq_true] at hc
  simp only [Bool.and_eq_true] at hc
  refine wp_seq (wp_mono (E9 hN hm (c:=x) hc.1 hI h) ?_)
  rintro e a w ⟨x,s,rfl,hI,hq⟩
  cases x with
  | normal=>exact E9 hN hm (c:=y) hc.2 hI hq
  | exit i=>exact ⟨_,s,rfl,hI,hq⟩
  | ret=>exact ⟨_,s,rfl,hI,hq⟩
 | .cond o x y,d,Q,st,a,w,hc,hI,h=>by
  cases d <;> simp only [M8,Bool.false_eq_true] at hc
  simp only [Bool.and_eq_true] at hc
  obtain ⟨⟨⟨h1,h2⟩,h3⟩,h4⟩:=hc
  have:=Ak h1; subst this
  obtain ⟨t,h5,h6,h7⟩:=h
  obtain ⟨X,μ,hsim,hg,h0,hbd,hsz,hds⟩:=id hI
  have hev:=(B9 (ds:=a.defers) hsim hg h5 h2).t_inv.v_inv
  refine wp_cond_split (t:=t) hev (fun e=>E9 hN hm (c:=x) h3 hI (h6 e)) (fun e=>E9 hN hm (c:=y) h4 hI (h7 e))
 | .block i x,d,Q,st,a,w,hc,hI,h=>by
  cases d <;> simp only [M8,Bool.false_eq_true] at hc
  simp only [Bool.and_eq_true,beq_iff_eq] at hc
  obtain ⟨rfl,hc⟩:=hc
  refine wp_block (wp_mono (E9 hN hm (c:=x) hc hI h) ?_)
  rintro e a w ⟨x,s,rfl,hI,hq⟩
  cases x with
  | normal=>exact ⟨.normal,s,rfl,hI,hq⟩
  | ret=>exact ⟨.ret,s,rfl,hI,hq⟩
  | exit j =>
   simp only [M9] at hq
   simp only [AX.to,Exit.inBlock]
   split
   ·rename_i hj; rw [if_pos hj] at hq; exact ⟨.normal,s,rfl,hI,hq⟩
   ·rename_i hj; rw [if_neg hj] at hq; exact ⟨.exit j,s,rfl,hI,hq⟩
 | .loop x,d,Q,st,a,w,hc,hI,h=>by
  cases d <;> simp only [M8,Bool.false_eq_true] at hc
  rename_i y
  have least:∀ p:Nat→Prop,(∃ n,p n)→∃ n,p n∧∀ m,p m→n≤m:=by
   intro p ⟨n,hn⟩
   induction n using Nat.strongRecOn with
   | _ n ih =>
    by_cases hlt:∃ m,m<n∧p m
    ·obtain ⟨m,hm,hp⟩:=hlt; exact ih m hm hp
    ·exact ⟨n,hn,fun m hm=>by rcases Nat.lt_or_ge m n with h | h; exact absurd ⟨m,h,hm⟩ hlt; exact h⟩
  let p:Act→World→Nat→Prop:=fun a w n=>∃ s,Wy Γ w0 B κ X0 N s a w∧qGR (awp P Γ x) Q n s
  classical
  refine wp_loop (fun a w=>∃ n,p a w n) (fun a w=>if hp:∃ n,p a w n then Classical.choose (least _ hp) else 0) ?_ ?_
  ·obtain ⟨n,h⟩:=h; exact ⟨n,st,hI,h⟩
  ·intro a w hp
   have hn:=Classical.choose_spec (least _ hp)
   generalize hnn:Classical.choose (least _ hp)=n at hn
   obtain ⟨⟨s,hI,hl⟩,hmin⟩:=hn
   cases n with
   | zero=>exact hl.elim
   | succ n =>
    refine wp_mono (E9 hN hm (c:=x) hc hI hl) ?_
    rintro e a' w' ⟨x',s',rfl,hI',hq⟩
    cases x' with
    | normal =>
     have hp':∃ n,p a' w' n:=⟨n,s',hI',hq⟩
     refine ⟨hp',?_⟩
     show (if hp:∃ n,p a' w' n then Classical.choose (least _ hp) else 0)<(if hp:∃ n,p a w n then Classical.choose (least _ hp) else 0)
     rw [dif_pos hp',dif_pos hp,hnn]
     have:=(Classical.choose_spec (least _ hp')).2 n ⟨s',hI',hq⟩
     omega
    | exit i=>exact ⟨_,s',rfl,hI',hq⟩
    | ret=>exact ⟨_,s',rfl,hI',hq⟩
 | .exit i,d,Q,st,a,w,hc,hI,h=>by
  cases d <;> simp only [M8,Bool.false_eq_true,beq_iff_eq] at hc
  subst hc
  exact wp_exit ⟨.exit i,st,rfl,hI,h⟩
 | .ret,d,Q,st,a,w,hc,hI,h=>by
  cases d <;> simp [M8] at hc
  exact wp_ret ⟨.ret,st,rfl,hI,h⟩
 | .scope x,d,Q,st,a,w,hc,hI,h=>by
  cases d <;> simp only [M8,Bool.false_eq_true] at hc
  refine wp_scope_straight (wp_mono (E9 hN hm (c:=x) hc hI h) ?_)
  rintro e a w ⟨x,s,rfl,hI,hq⟩
  cases x with
  | normal=>exact ⟨.normal,s,rfl,hI,hq⟩
  | exit i=>exact ⟨.exit i,s,rfl,hI,hq⟩
  | ret=>exact ⟨.ret,s,rfl,hI,hq⟩
 | .gh x gs,d,Q,st,a,w,hc,hI,h=>by
  have hc':M8 P N x d=true:=by cases d <;> simpa only [M8] using hc
  refine wp_mono (E9 hN hm (c:=x) hc' hI h) ?_
  rintro e a w ⟨x,s,rfl,hI,hq⟩
  cases x with
  | normal=>exact ⟨.normal,_,rfl,qDK hI,hq⟩
  | exit i=>exact ⟨.exit i,s,rfl,hI,hq⟩
  | ret=>exact ⟨.ret,s,rfl,hI,hq⟩
 | .dead,d,Q,st,a,w,hc,hI,h=>h.elim
end
end Go.Lg
namespace Go.Lg
open Go
inductive RV where
 | tmp (t:Nat)
 | cell (t n:Nat) (g:Bool)
def qBr (P:Program):RV→ResultVar→Bool
 | .tmp t,.tmp u=>t == u
 | .cell t n g,.cell u ty=>t == u && O6 P ty == some n && q2F P ty == some g && (g || n == 1)
 | _,_=>false
def Ea (P:Program):List RV→List ResultVar→Bool
 | [],[]=>true
 | a::as,b::bs=>qBr P a b && Ea P as bs
 | _,_=>false
def qBs (s:St):RV→Option (Prop × AV)
 | .tmp t=>(A4 s.env t).map fun a=>(True,a)
 | .cell t n g=>match A4 s.env t with
  | some (.lp id _ k)=>match A4 s.hp id with
   | some (.bx cs)=>some (k+n≤cs.length,X5 g ((cs.drop k).take n))
   | _=>none
  | _=>none
def q6d (s:St) (rv:RV):Option (Prop × T):=(qBs s rv).bind fun q=>(Aj s.hp 4 q.2).map fun t=>(q.1,t)
def q0b (s:St):List RV→Option (Prop × T)
 | []=>some (True,.tup [])
 | [a]=>q6d s a
 | [a,b]=>(q6d s a).bind fun p=>(q6d s b).map fun q=>(p.1∧q.1,.tup [p.2,q.2])
 | [a,b,c]=>(q6d s a).bind fun p=>(q6d s b).bind fun q=>(q6d s c).map fun r=>(p.1∧q.1∧r.1,.tup [p.2,q.2,r.2])
 | [a,b,c,d]=>(q6d s a).bind fun p=>(q6d s b).bind fun q=>(q6d s c).bind fun r=>(q6d s d).map fun u=>(p.1∧q.1∧r.1∧u.1,.tup [p.2,q.2,r.2,u.2])
 | _=>none
def Aw (P:Program) (f:FuncId) (ic:IC) (N n:Nat) (rvs:List RV):Bool:=match P.funcs[f]? with
 | some fn=>(match fn.body with | some c=>M8 P N ic c | none=>false) && !(fn.name == "runtime.NumGoroutine") && fn.ntmps == N && decide (N≤1000000) && decide (n≤N) && Ea P rvs fn.results.toList && P.follows .mixedOrders
 | none=>false
def params:Nat→List T→List (Nat × AV)
 | _,[]=>[]
 | k,t::ts=>(k,.t t)::params (k+1) ts
theorem qBt {ts:List T}:∀ {k i:Nat} {a:AV},A4 (params k ts) i=some a→k≤i∧∃ t,ts[i - k]? = some t∧a=.t t:=by
 induction ts with
 | nil=>intro k i a h; simp [params,A4] at h
 | cons t ts ih =>
  intro k i a h
  simp only [params,A4] at h
  split at h
  ·rename_i e; subst e; simp only [Option.some.injEq] at h; subst h; exact ⟨Nat.le_refl _,t,by simp,rfl⟩
  ·obtain ⟨h1,u,h2,h3⟩:=ih h
   refine ⟨by omega,u,?_,h3⟩
   have:i - k=i - (k+1)+1:=by omega
   rw [this]; simpa using h2
def qFE (rvs:List RV) (res:T):AX→St→Prop
 | .exit _,_=>False
 | _,s=>∃ c,q0b s rvs=some (c,res)∧c
section
variable {P:Program} {Γ:Tables} {w0:World} {B:Nat} {κ:Df} {X0 X:Nat→Prop} {μ:Df} {st:St} {N:Nat} {a:Act} {w:World} {tm:Array Value}
def qA2 (tm:Array Value):ResultVar→Go.Sem Value
 | .tmp t=>pure (tm.getD t undef)
 | .cell a t=>do loadVar t (← asAddr (tm.getD a undef))
theorem q82 (h:Bv w0 B κ X μ st tm w) {rv:RV} {r:ResultVar} (hc:qBr P rv r=true) {c:Prop} {x:AV} (hr:qBs st rv=some (c,x)) (hcc:c):∃ v,(qA2 tm r).run P w=.ok v w∧AR w X μ st.sh x v:=by
 cases rv with
 | tmp t =>
  cases r <;> simp [qBr] at hc
  subst hc
  simp only [qBs,Option.map_eq_some_iff,Prod.mk.injEq] at hr
  obtain ⟨b,hb,_,rfl⟩:=hr
  exact ⟨_,rfl,h.env t b hb⟩
 | cell t n g =>
  cases r <;> simp [qBr] at hc
  rename_i u ty
  obtain ⟨⟨⟨rfl,hz⟩,ha⟩,hn⟩:=hc
  have hn:(g || n == 1)=true:=by simpa using hn
  simp only [qBs] at hr
  split at hr
  ·rename_i id i k hl0
   split at hr
   ·rename_i cs hl
    simp only [Option.some.injEq,Prod.mk.injEq] at hr
    obtain ⟨rfl,rfl⟩:=hr
    obtain ⟨gb,m,hm,hp⟩:=(h.env t _ hl0).lp_inv
    rcases hp with ⟨s,q,hs,_⟩ | ⟨hs,rfl,he⟩
    ·rw [Ff hl] at hs; cases hs
    obtain ⟨h1,g',arr,ty',hm',hheap,hsz,hr⟩:=h.reg id _ hl
    rw [hm] at hm'; cases hm'
    have hr:J5 w X μ st.sh cs arr.toList:=⟨by simp [hsz],fun k a x h2 h3=>hr k a x h2 (by simpa using h3)⟩
    have h1:D2 cs=true:=List.all_eq_true.2 fun t ht=>by obtain ⟨j,hj,rfl⟩:=List.getElem_of_mem ht; exact h1 j _ (by simp [hj])
    have hlen:((arr.toList.drop k).take n).length=n:=by simp; omega
    refine ⟨if g then .agg ((arr.toList.drop k).take n).toArray else ((arr.toList.drop k).take n).headD undef,?_,q5S ((hr.drop k).take n) (q3T h1 k n) (by rw [hlen]; exact hn)⟩
    have hrun:=X6 (P:=P) (w:=w) hz ha hn (b:=gb) (off:=k) hlen (fun j x hj=>by
     rw [List.getElem?_take] at hj
     split at hj
     ·rw [List.getElem?_drop] at hj
      rw [cell_of_row w gb _ arr ty' (0,0) hheap]; simpa using hj
     ·cases hj)
    have e:qA2 tm (.cell t ty)=(Instr.loadAt ty (.pointer (some ⟨gb,k,none⟩))):=by
     simp only [qA2,he,asAddr,Instr.loadAt,Instr.sureAddr]
    rw [e]; exact hrun
   ·cases hr
  ·cases hr
theorem Tf (h:Bv w0 B κ X μ st tm w) {rv:RV} {r:ResultVar} (hc:qBr P rv r=true) {c:Prop} {t:T} (hr:q6d st rv=some (c,t)) (hcc:c):∃ v,(qA2 tm r).run P w=.ok v w∧TR w (fun b=>X b∨qAp st μ b) t v:=by
 simp only [q6d,Option.bind_eq_some_iff,Option.map_eq_some_iff,Prod.mk.injEq] at hr
 obtain ⟨⟨c',x⟩,hq,t',ht,rfl,rfl⟩:=hr
 obtain ⟨v,h1,h2⟩:=q82 h hc hq hcc
 exact ⟨v,h1,q8N h 4 h2 ht⟩
theorem q8X (h:Bv w0 B κ X μ st tm w) {fn:Func} {rvs:List RV} (hc:Ea P rvs fn.results.toList=true) {c:Prop} {res:T} (hr:q0b st rvs=some (c,res)) (hcc:c) :
  ∃ v,(results fn tm).run P w=.ok v w∧TR w (fun b=>X b∨qAp st μ b) res v:=by
 have hres:results fn tm=(do let vs ← fn.results.mapM (qA2 tm); pure (if h:vs.size=1 then vs[0] else .tuple vs)):=rfl
 have hfr:fn.results=fn.results.toList.toArray:=by simp
 generalize hl:fn.results.toList=l at hc hfr
 match rvs,l,hc with
 | [],[],_ =>
  simp only [q0b,Option.some.injEq,Prod.mk.injEq] at hr
  obtain ⟨rfl,rfl⟩:=hr
  exact ⟨.tuple #[],by rw [hres,hfr]; simp,TR.mk_tup (F5.nil _ _)⟩
 | [a],[x],hc =>
  simp only [Ea,Bool.and_eq_true] at hc
  obtain ⟨v,h1,h2⟩:=Tf h hc.1 hr hcc
  exact ⟨v,by rw [hres,hfr]; simp [h1],h2⟩
 | [a,b],[x,y],hc =>
  simp only [Ea,Bool.and_eq_true] at hc
  simp only [q0b,Option.bind_eq_some_iff,Option.map_eq_some_iff,Prod.mk.injEq] at hr
  obtain ⟨p,hp,q,hq,rfl,rfl⟩:=hr
  obtain ⟨v,h1,h2⟩:=Tf h hc.1 hp hcc.1
  obtain ⟨u,h3,h4⟩:=Tf h hc.2.1 hq hcc.2
  exact ⟨.tuple #[v,u],by rw [hres,hfr]; simp [h1,h3],TR.mk_tup (F5.cons h2 (F5.cons h4 (F5.nil _ _)))⟩
 | [a,b,d],[x,y,z],hc =>
  simp only [Ea,Bool.and_eq_true] at hc
  simp only [q0b,Option.bind_eq_some_iff,Option.map_eq_some_iff,Prod.mk.injEq] at hr
  obtain ⟨p,hp,q,hq,r,hr,rfl,rfl⟩:=hr
  obtain ⟨v,h1,h2⟩:=Tf h hc.1 hp hcc.1
  obtain ⟨u,h3,h4⟩:=Tf h hc.2.1 hq hcc.2.1
  obtain ⟨z,h5,h6⟩:=Tf h hc.2.2.1 hr hcc.2.2
  exact ⟨.tuple #[v,u,z],by rw [hres,hfr]; simp [h1,h3,h5],TR.mk_tup (F5.cons h2 (F5.cons h4 (F5.cons h6 (F5.nil _ _))))⟩
 | [a,b,d,e],[x,y,z,u],hc =>
  simp only [Ea,Bool.and_eq_true] at hc
  simp only [q0b,Option.bind_eq_some_iff,Option.map_eq_some_iff,Prod.mk.injEq] at hr
  obtain ⟨p,hp,q,hq,r,hr,u,hu,rfl,rfl⟩:=hr
  obtain ⟨v,h1,h2⟩:=Tf h hc.1 hp hcc.1
  obtain ⟨u,h3,h4⟩:=Tf h hc.2.1 hq hcc.2.1
  obtain ⟨z,h5,h6⟩:=Tf h hc.2.2.1 hr hcc.2.2.1
  obtain ⟨y,h7,h8⟩:=Tf h hc.2.2.2.1 hu hcc.2.2.2
  exact ⟨.tuple #[v,u,z,y],by rw [hres,hfr]; simp [h1,h3,h5,h7],TR.mk_tup (F5.cons h2 (F5.cons h4 (F5.cons h6 (F5.cons h8 (F5.nil _ _)))))⟩
 | _::_::_::_::_::_,_,_=>simp [q0b] at hr
 | [_,_,_,_],[_],hc=>simp [Ea] at hc
 | [_,_,_,_],[_,_],hc=>simp [Ea] at hc
 | [_,_,_,_],[_,_,_],hc=>simp [Ea] at hc
 | [_,_,_,_],_::_::_::_::_::_,hc=>simp [Ea] at hc
 | [],_::_,hc=>simp [Ea] at hc
 | _::_,[],hc=>simp [Ea] at hc
 | [_],_::_::_,hc=>simp [Ea] at hc
 | [_,_],[_],hc=>simp [Ea] at hc
 | [_,_],_::_::_::_,hc=>simp [Ea] at hc
 | [_,_,_],[_],hc=>simp [Ea] at hc
 | [_,_,_],[_,_],hc=>simp [Ea] at hc
 | [_,_,_],_::_::_::_::_,hc=>simp [Ea] at hc
theorem q2e {f:FuncId} {ic:IC} {n:Nat} {rvs:List RV} (hc:Aw P f ic N n rvs=true) (vs:Array Value):(callFunc f vs).run P w=.ok (.enter f vs) w:=by
 unfold Aw at hc
 split at hc
 ·rename_i fn hf
  simp only [Bool.and_eq_true,Bool.not_eq_true'] at hc
  obtain ⟨⟨⟨⟨⟨⟨h1,h2⟩,h3⟩,h4⟩,h5⟩,h6⟩,h7⟩:=hc
  cases hb:fn.body with
  | none=>rw [hb] at h1; cases h1
  | some c =>
   have h2':¬ fn.name = "runtime.NumGoroutine" := by simpa using h2
   simp [callFunc,hf,h2',hb]
 ·cases hc
theorem Wy.start {ts:List T} {vs:List Value} (hg:Gl Γ w X) (hx:∀ b,X b→b<w.heap.size) (hts:F5 w X ts vs) (hn:vs.length≤N) :
  Wy Γ w w.heap.size (fun _=>none) X N ⟨params 0 ts,[]⟩ { tmps:=vs.toArray++Array.replicate (N - vs.toArray.size) undef,defers:=[] } w:=by
 refine ⟨X,fun _=>none,⟨?_,fun id r h=>by simp [A4] at h,fun _ _ _ _ _ _ _ h=>(by cases h),fun _ _ _ _ h=>(by cases h),fun _ _ _=>rfl,fun _ _ h=>(by cases h),hx,rfl,rfl,rfl,Nat.le_refl _,fun _ _ _=>rfl⟩,hg,fun _ h=>h,fun _ h=>.inl h,?_,rfl⟩
 ·intro t a ht
  obtain ⟨_,u,hu,rfl⟩:=qBt ht
  obtain ⟨x,h1,h2⟩:=hts.get hu
  simp only [Nat.sub_zero] at h1
  have hlt:t<vs.length:=(List.getElem?_eq_some_iff.1 h1).1
  have:(vs.toArray++Array.replicate (N - vs.toArray.size) undef).getD t undef=x:=by
   rw [Array.getD_eq_getD_getElem?,Array.getElem?_append_left (by simpa using hlt)]
   simp [h1]
  rw [this]; exact .t _ _ h2
 ·simp; omega
theorem qDL {f:FuncId} {ic:IC} {n:Nat} {rvs:List RV} {args:List T} {res:T} (hc:Aw P f ic N n rvs=true) (hn:args.length=n) (h:awp P Γ ic (qFE rvs res) ⟨params 0 args,[]⟩):Ae P Γ f args res:=by
 intro w X vs hg hx hts
 refine .inl ⟨q2e hc _,?_⟩
 unfold Aw at hc
 split at hc
 case h_2=>cases hc
 rename_i fn hf
 simp only [Bool.and_eq_true,Bool.not_eq_true',decide_eq_true_eq,beq_iff_eq] at hc
 obtain ⟨⟨⟨⟨⟨⟨h1,h2⟩,h3⟩,h4⟩,h5⟩,h6⟩,h7⟩:=hc
 cases hb:fn.body with
 | none=>rw [hb] at h1; cases h1
 | some c =>
  rw [hb] at h1
  subst h3
  refine calls_of_wp hf hb ?_
  have hI:=Wy.start (N:=fn.ntmps) hg hx hts (by rw [← hts.1,hn]; exact h5)
  refine wp_mono (E9 h4 h7 h1 hI h) ?_
  rintro e a w' ⟨x,s,rfl,⟨X',μ,hsim,hg',h0,hbd,hsz,hds⟩,hq⟩
  have fin:∀ c,q0b s rvs=some (c,res)→c→a.defers=[]∧∃ v,(results fn a.tmps).run P w'=.ok v w'∧∃ u,Ending.returned v=.returned u∧RowKit.Below w.heap.size w w'∧TR w' (fun b=>X b∨(w.heap.size≤b∧b<w'.heap.size)) res u:=by
   intro c hr hcc
   obtain ⟨v,h8,h9⟩:=q8X hsim h6 hr hcc
   refine ⟨hds,v,h8,v,rfl,⟨hsim.os,hsim.tape,hsim.output,hsim.size,fun k hk=>hsim.fr k hk (fun id n h=>by cases h)⟩,h9.mono (fun _ _=>rfl) fun b hb=>?_⟩
   rcases hb with hb | ⟨id,n,hi,hm⟩
   ·rcases hbd b hb with h | h | ⟨_,_,h⟩
    ·exact .inl h
    ·exact .inr ⟨h,hsim.xlt b hb⟩
    ·cases h
   ·obtain ⟨_,h10,h11⟩:=hsim.loc id b n hi hm
    refine .inr ⟨?_,h10⟩
    rcases Nat.lt_or_ge b w.heap.size with h | h
    ·obtain ⟨_,_,h⟩:=h11 h; cases h
    ·exact h
  cases x with
  | normal=>obtain ⟨c,hr,hcc⟩:=hq; exact fin c hr hcc
  | ret=>obtain ⟨c,hr,hcc⟩:=hq; exact fin c hr hcc
  | exit i=>exact hq.elim
def Fj:AV→Prop
 | .t x=>Av x=true
 | .ag cs=>∀ c ∈ cs,match c with
  | .t x=>Av x=true
  | .fn _ cs=>cs=[]
  | _=>True
 | .fn _ cs=>cs=[]
 | .tu cs=>∀ c ∈ cs,match c with
  | .t x=>Av x=true
  | .fn _ cs=>cs=[]
  | _=>True
 | _=>True
def Ti:Bc→Prop
 | .sl _ _ es=>∀ e ∈ es,∀ t ∈ e,Av t=true
 | .bx cs=>∀ c ∈ cs,Fj c
 | .mp es=>∀ e ∈ es,Av e.2=true
 | .it _ _=>True
def Fo {α:Type} (p:α→Prop):List (Nat × α)→Prop
 | []=>True
 | x::l=>p x.2∧Fo p l
theorem q4k {α:Type} {p:α→Prop}:∀ {l:List (Nat × α)} {t:Nat} {a:α},Fo p l→A4 l t=some a→p a
 | [],_,_,_,h=>by simp [A4] at h
 | (k,v)::l,t,a,h,hl=>by
  simp only [A4] at hl
  split at hl
  ·simp only [Option.some.injEq] at hl; subst hl; exact h.1
  ·exact q4k h.2 hl
def Dm (s:St):Prop:=Fo Fj s.env∧Fo Ti s.hp
theorem qBu {sh:Nat→Option Sh} {a:AV} {x:Value} {Y:Nat→Prop} (h:AR w X μ sh a x) (hf:Fj a):AR w Y μ sh a x:=by
 have key:∀ {c:AV} {y:Value},AR w X μ sh c y→Cj c=true→(match c with | .t x=>Av x=true | .fn _ cs=>cs=[] | _=>True)→AR w Y μ sh c y:=by
  intro c y h hna hf
  cases h with
  | t y v hy=>exact .t _ _ (q8M hy hf)
  | fn f cs xs hlen hrel=>simp only at hf; subst hf; exact .fn f [] xs hlen (fun k a x h=>by simp at h)
  | ag=>simp [Cj] at hna
  | tu=>simp [Cj] at hna
  | lsnil i s n hs hm oa cap hq=>exact .lsnil i s n hs hm oa cap hq
  | ls i off len s n g m c cap hs hm hle hlc hcm hfit hfull hq ad had=>exact .ls i off len s n g m c cap hs hm hle hlc hcm hfit hfull hq ad had
  | lpsl i j k s n g m hs hm=>exact .lpsl i j k s n g m hs hm
  | lpbx i k g m hs hm=>exact .lpbx i k g m hs hm
  | lm i g m hs hm=>exact .lm i g m hs hm
  | lb i g m hs hm hle=>exact .lb i g m hs hm hle
  | li i g m hs hm=>exact .li i g m hs hm
  | dead v h=>exact .dead _ h
  | un=>exact .un
 by_cases hg:Cj a=true
 ·refine key h hg ?_
  cases a <;> first | exact hf | exact True.intro | simp [Cj] at hg
 ·cases a with
  | ag cs =>
   obtain ⟨xs,rfl,h1,hr⟩:=h.ag_inv
   exact AR.mk_ag h1 ⟨hr.1,fun k c y hc hy=>key (hr.2 k c y hc hy) (q3Q (Wv h1 hc)) (hf c (List.mem_of_getElem? hc))⟩
  | tu cs =>
   obtain ⟨xs,rfl,h1,hr⟩:=h.tu_inv
   exact AR.mk_tu h1 ⟨hr.1,fun k c y hc hy=>key (hr.2 k c y hc hy) (h1 k c hc) (hf c (List.mem_of_getElem? hc))⟩
  | _=>exact absurd rfl hg
theorem Bv.flat (h:Bv w0 B κ X μ st tm w) (hf:Dm st):Bv w0 B κ (fun _=>False) μ st tm w:=by
 refine ⟨fun t a ht=>qBu (h.env t a ht) (q4k hf.1 ht),?_,h.inj,fun id g n hi hm=>⟨fun h=>h,(h.loc id g n hi hm).2⟩,h.kap,h.kbig,fun _ h=>h.elim,h.os,h.tape,h.output,h.size,h.fr⟩
 intro id r hr
 have hfr:=q4k hf.2 hr
 have:=h.reg id r hr
 cases r with
 | sl ty s es =>
  refine ⟨this.1,this.2.imp (fun h=>h) fun ⟨g,arr,hm,hg,hle,hr⟩=>⟨g,arr,hm,hg,hle,fun i k e t x h1 h2 h3=>q8M (hr i k e t x h1 h2 h3) (hfr e (List.mem_of_getElem? h1) t (List.mem_of_getElem? h2))⟩⟩
 | it s pos=>exact this
 | mp es =>
  obtain ⟨g,n,clock,ms,hm,hg,hle,hr⟩:=this
  exact ⟨g,n,clock,ms,hm,hg,hle,fun i e m h1 h2=>⟨(hr i e m h1 h2).1,q8M (hr i e m h1 h2).2 (hfr e (List.mem_of_getElem? h1))⟩⟩
 | bx cs =>
  obtain ⟨h1,g,arr,ty,hm,hg,hle,hr⟩:=this
  exact ⟨h1,g,arr,ty,hm,hg,hle,fun k a x ha hx=>qBu (hr k a x ha hx) (hfr a (List.mem_of_getElem? ha))⟩
def qIr (rvs:List RV) (res:T):AX→St→Prop
 | .exit _,_=>False
 | _,s=>∃ c,q0b s rvs=some (c,res)∧c∧Dm s
theorem qBv {f:FuncId} {ic:IC} {n:Nat} {rvs:List RV} {args:List T} {res:T} (hc:Aw P f ic N n rvs=true) (hn:args.length=n) (h:awp P Γ ic (qIr rvs res) ⟨params 0 args,[]⟩):A6 P Γ f args res:=by
 intro w X vs hg hx hts
 refine .inl ⟨q2e hc _,?_⟩
 unfold Aw at hc
 split at hc
 case h_2=>cases hc
 rename_i fn hf
 simp only [Bool.and_eq_true,Bool.not_eq_true',decide_eq_true_eq,beq_iff_eq] at hc
 obtain ⟨⟨⟨⟨⟨⟨h1,h2⟩,h3⟩,h4⟩,h5⟩,h6⟩,h7⟩:=hc
 cases hb:fn.body with
 | none=>rw [hb] at h1; cases h1
 | some c =>
  rw [hb] at h1
  subst h3
  refine calls_of_wp hf hb ?_
  have hI:=Wy.start (N:=fn.ntmps) hg hx hts (by rw [← hts.1,hn]; exact h5)
  refine wp_mono (E9 h4 h7 h1 hI h) ?_
  rintro e a w' ⟨x,s,rfl,⟨X',μ,hsim,hg',h0,hbd,hsz,hds⟩,hq⟩
  have fin:∀ c,q0b s rvs=some (c,res)→c→Dm s→a.defers=[]∧∃ v,(results fn a.tmps).run P w'=.ok v w'∧∃ u,Ending.returned v=.returned u∧RowKit.Below w.heap.size w w'∧TR w' (fun b=>w.heap.size≤b∧b<w'.heap.size) res u:=by
   intro c hr hcc hfl
   obtain ⟨v,h8,h9⟩:=q8X (hsim.flat hfl) h6 hr hcc
   refine ⟨hds,v,h8,v,rfl,⟨hsim.os,hsim.tape,hsim.output,hsim.size,fun k hk=>hsim.fr k hk (fun id n h=>by cases h)⟩,h9.mono (fun _ _=>rfl) fun b hb=>?_⟩
   rcases hb with hb | ⟨id,n,hi,hm⟩
   ·exact hb.elim
   ·obtain ⟨_,h10,h11⟩:=hsim.loc id b n hi hm
    refine ⟨?_,h10⟩
    rcases Nat.lt_or_ge b w.heap.size with h | h
    ·obtain ⟨_,_,h⟩:=h11 h; cases h
    ·exact h
  cases x with
  | normal=>obtain ⟨c,hr,hcc,hfl⟩:=hq; exact fin c hr hcc hfl
  | ret=>obtain ⟨c,hr,hcc,hfl⟩:=hq; exact fin c hr hcc hfl
  | exit i=>exact hq.elim
def qAt:Nat→List AV→List (Nat × AV)
 | _,[]=>[]
 | k,a::as=>(k,a)::qAt (k+1) as
theorem qFF {ts:List AV}:∀ {k i:Nat} {a:AV},A4 (qAt k ts) i=some a→k≤i∧ts[i - k]? = some a:=by
 induction ts with
 | nil=>intro k i a h; simp [qAt,A4] at h
 | cons t ts ih =>
  intro k i a h
  simp only [qAt,A4] at h
  split at h
  ·rename_i e; subst e; simp only [Option.some.injEq] at h; subst h; exact ⟨Nat.le_refl _,by simp⟩
  ·obtain ⟨h1,h2⟩:=ih h
   refine ⟨by omega,?_⟩
   have:i - k=i - (k+1)+1:=by omega
   rw [this]; simpa using h2
def toN (a:AV):AV:=match toT a with
 | some x=>.t x
 | none=>a
theorem qGT {Y:Nat→Prop} {μ:Df} {sh:Nat→Option Sh} {w:World} {p:AV} {v:Value} (hp:AR w Y μ sh p v):AR w Y μ sh (toN p) v:=by
 unfold toN
 split
 ·rename_i x hx; exact .t _ _ (q8K hp hx)
 ·exact hp
def qI8 (p q:AV):Option AV:=match toT p,toT q with
 | some x,some y=>some (.t (.tup [x,y]))
 | _,_=>if Cj (toN p) && Cj (toN q) then some (.tu [toN p,toN q]) else none
theorem qI9 {Y:Nat→Prop} {μ:Df} {sh:Nat→Option Sh} {w:World} {p q r:AV} {v u:Value} (hp:AR w Y μ sh p v) (hq:AR w Y μ sh q u) (hr:qI8 p q=some r):AR w Y μ sh r (.tuple #[v,u]):=by
 unfold qI8 at hr
 split at hr
 ·rename_i x y hx hy
  simp only [Option.some.injEq] at hr; subst hr
  exact .t _ _ (TR.mk_tup (F5.cons (q8K hp hx) (F5.cons (q8K hq hy) (F5.nil _ _))))
 ·split at hr
  ·rename_i h
   simp only [Bool.and_eq_true] at h
   simp only [Option.some.injEq] at hr; subst hr
   refine AR.mk_tu (cs:=[toN p,toN q]) (xs:=[v,u]) (fun k a ha=>?_) ⟨rfl,fun k a x ha hx=>?_⟩
   ·rcases k with _ | _ | k
    ·simp at ha; subst ha; exact h.1
    ·simp at ha; subst ha; exact h.2
    ·simp at ha
   ·rcases k with _ | _ | k
    ·simp at ha hx; subst ha; subst hx; exact qGT hp
    ·simp at ha hx; subst ha; subst hx; exact qGT hq
    ·simp at ha
  ·cases hr
def q9X (s:St):List RV→Option (Prop × AV)
 | []=>some (True,.t (.tup []))
 | [a]=>qBs s a
 | [a,b]=>(qBs s a).bind fun p=>(qBs s b).bind fun q=>(qI8 p.2 q.2).map fun r=>(p.1∧q.1,r)
 | _=>none
def qIs (rvs:List RV) (res:AV) (hp':List (Nat × Bc)):AX→St→Prop
 | .exit _,_=>False
 | _,s=>∃ c,q9X s rvs=some (c,res)∧c∧s.hp=hp'
theorem qIA (h:Bv w0 B κ X μ st tm w) {fn:Func} {rvs:List RV} (hc:Ea P rvs fn.results.toList=true) {c:Prop} {res:AV} (hr:q9X st rvs=some (c,res)) (hcc:c) :
  ∃ v,(results fn tm).run P w=.ok v w∧AR w X μ st.sh res v:=by
 have hres:results fn tm=(do let vs ← fn.results.mapM (qA2 tm); pure (if h:vs.size=1 then vs[0] else .tuple vs)):=rfl
 have hfr:fn.results=fn.results.toList.toArray:=by simp
 generalize hl:fn.results.toList=l at hc hfr
 match rvs,l,hc with
 | [],[],_ =>
  simp only [q9X,Option.some.injEq,Prod.mk.injEq] at hr
  obtain ⟨rfl,rfl⟩:=hr
  exact ⟨.tuple #[],by rw [hres,hfr]; simp,.t _ _ (TR.mk_tup (F5.nil _ _))⟩
 | [a],[x],hc =>
  simp only [Ea,Bool.and_eq_true] at hc
  obtain ⟨v,h1,h2⟩:=q82 h hc.1 hr hcc
  exact ⟨v,by rw [hres,hfr]; simp [h1],h2⟩
 | [a,b],[x,y],hc =>
  simp only [Ea,Bool.and_eq_true] at hc
  simp only [q9X,Option.bind_eq_some_iff,Option.map_eq_some_iff,Prod.mk.injEq] at hr
  obtain ⟨p,hp,q,hq,r',hr',rfl,rfl⟩:=hr
  obtain ⟨v,h1,h2⟩:=q82 h hc.1 hp hcc.1
  obtain ⟨u,h3,h4⟩:=q82 h hc.2.1 hq hcc.2
  exact ⟨.tuple #[v,u],by rw [hres,hfr]; simp [h1,h3],qI9 h2 h4 hr'⟩
 | _::_::_::_,_,_=>simp [q9X] at hr
 | [],_::_,hc=>simp [Ea] at hc
 | _::_,[],hc=>simp [Ea] at hc
 | [_],_::_::_,hc=>simp [Ea] at hc
 | [_,_],[_],hc=>simp [Ea] at hc
 | [_,_],_::_::_::_,hc=>simp [Ea] at hc
theorem qIB {f:FuncId} {ic:IC} {n:Nat} {rvs:List RV} {args:List AV} {hp hp':List (Nat × Bc)} {res:AV} (hc:Aw P f ic N n rvs=true) (hn:args.length=n) (h:awp P Γ ic (qIs rvs res hp') ⟨qAt 0 args,hp⟩):F9 P Γ f hp args res hp':=by
 intro w X κ vs hg hk hs hts
 refine .inl ⟨q2e hc _,?_⟩
 unfold Aw at hc
 split at hc
 case h_2=>cases hc
 rename_i fn hf
 simp only [Bool.and_eq_true,Bool.not_eq_true',decide_eq_true_eq,beq_iff_eq] at hc
 obtain ⟨⟨⟨⟨⟨⟨h1,h2⟩,h3⟩,h4⟩,h5⟩,h6⟩,h7⟩:=hc
 cases hb:fn.body with
 | none=>rw [hb] at h1; cases h1
 | some c =>
  rw [hb] at h1
  subst h3
  refine calls_of_wp hf hb ?_
  have hlen:vs.length≤fn.ntmps:=by rw [← hts.1,hn]; exact h5
  have hI:Wy Γ w w.heap.size κ X fn.ntmps ⟨qAt 0 args,hp⟩ { tmps:=vs.toArray++Array.replicate (fn.ntmps - vs.toArray.size) undef,defers:=[] } w:=by
   refine ⟨X,κ,⟨?_,hs.reg,hs.inj,hs.loc,hs.kap,hs.kbig,hs.xlt,rfl,rfl,rfl,Nat.le_refl _,fun _ _ _=>rfl⟩,hg,fun _ h=>h,fun _ h=>.inl h,?_,rfl⟩
   ·intro t a ht
    obtain ⟨_,hu⟩:=qFF ht
    obtain ⟨x,h1,h2⟩:=hts.get hu
    simp only [Nat.sub_zero] at h1
    have hlt:t<vs.length:=(List.getElem?_eq_some_iff.1 h1).1
    have:(vs.toArray++Array.replicate (fn.ntmps - vs.toArray.size) undef).getD t undef=x:=by
     rw [Array.getD_eq_getD_getElem?,Array.getElem?_append_left (by simpa using hlt)]
     simp [h1]
    rw [this]; exact h2
   ·simp; omega
  refine wp_mono (E9 h4 h7 h1 hI h) ?_
  rintro e a w' ⟨x,s,rfl,⟨X',μ',hsim,hg',h0,hbd,hsz,hds⟩,hq⟩
  have fin:∀ c,q9X s rvs=some (c,res)→c→s.hp=hp'→a.defers=[]∧∃ v,(results fn a.tmps).run P w'=.ok v w'∧∃ u,Ending.returned v=.returned u ∧
    ∃ X' μ',Bv w w.heap.size κ X' μ' ⟨[],hp'⟩ #[] w'∧AR w' X' μ' (St.sh ⟨[],hp'⟩) res u∧(∀ b,X b→X' b)∧(∀ b,X' b→X b∨w.heap.size≤b∨∃ id n,κ id=some (b,n)):=by
   intro c hr hcc hh
   obtain ⟨v,h8,h9⟩:=qIA hsim h6 hr hcc
   subst hh
   exact ⟨hds,v,h8,v,rfl,X',μ',⟨fun t a ht=>by simp [A4] at ht,hsim.reg,hsim.inj,hsim.loc,hsim.kap,hsim.kbig,hsim.xlt,hsim.os,hsim.tape,hsim.output,hsim.size,hsim.fr⟩,h9,h0,hbd⟩
  cases x with
  | normal=>obtain ⟨c,hr,hcc,hh⟩:=hq; exact fin c hr hcc hh
  | ret=>obtain ⟨c,hr,hcc,hh⟩:=hq; exact fin c hr hcc hh
  | exit i=>exact hq.elim
end
end Go.Lg
namespace Go.Lg
open Go
def sV (l:List UInt8):Value:=.string ⟨l.toArray⟩
structure Tag {α:Sort _} (a:α):Type where
def Bh (A:Prop) (_:Tag A):Prop:=A
def Ec (x:Option (Prop × AV × St)) (K:AV→St→Prop) (_:Tag K):Prop:=match x with
 | some (c,r,st1)=>c∧K r st1
 | none=>False
def asK (x:Option (List AV)) (K:List AV→Prop) (_:Tag K):Prop:=match x with
 | some as=>K as
 | none=>False
def fnK (x:Option (FuncId × List AV)) (K:FuncId→List AV→Prop) (_:Tag K):Prop:=match x with
 | some p=>K p.1 p.2
 | none=>False
def q7H (x:Option AV) (A B:Prop) (_:Tag A) (_:Tag B):Prop:=match x with
 | some (.t (.v (.bool t)))=>(t=true→A)∧(t=false→B)
 | _=>False
def q5d (P:Program) (Γ:Tables) (hp:List (Nat × Bc)) (f:FuncId) (as:List AV) (K:T→Prop) (_:Tag K):Prop:=∃ res,q4d P Γ hp f as res∧K res
def qAu (P:Program) (Γ:Tables) (st:St) (f:FuncId) (rs:List Nat) (base:Nat) (hp:List (Nat × Bc)) (as:List AV) (K:AV→St→Prop) (_:Tag K):Prop :=
 ∃ res hp',F9 P Γ f hp as res hp'∧okB rs base st.hp hp'∧K (Be (fun i=>some (bwd rs base i)) res) (K5 rs base hp' st)
def qGU (P:Program) (Γ:Tables) (st:St) (f:FuncId) (base:Nat) (as:List AV) (K:AV→St→Prop) (_:Tag K):Prop :=
 ∃ res hp',F9 P Γ f [] as res hp'∧okB [] base st.hp hp'∧K (Be (fun i=>some (bwd [] base i)) res) ⟨st.env,Lt [] base hp'++st.hp⟩
def qAv (P:Program) (Γ:Tables) (f:FuncId) (as:List AV) (K:T→Prop) (_:Tag K):Prop:=∃ ts res,Ai (as.map toT)=some ts∧(Ae P Γ f ts res∨A6 P Γ f ts res)∧K res
def qGV (P:Program) (Γ:Tables) (st:St) (f:FuncId) (rs:List Nat) (hp:List (Nat × Bc)) (as:List AV) (K:AV→St→Prop) (_:Tag K):Prop :=
 ∃ res,F9 P Γ f hp as res hp∧K (Be (fun i=>some (bwd rs 0 i)) res) st
def Bd (P:Program) (Γ:Tables) (d:Nat) (io:Ce) (st:St) (K:AV→St→Prop):Prop:=match io with
 | .call f args=>asK (evs Γ st.env args) (fun as=>q5d P Γ st.hp f as (fun res=>K (.t res) st) ⟨⟩) ⟨⟩
 | .callv x args=>fnK ((ev Γ st.env x).bind qAq) (fun f cs=>asK (evs Γ st.env args) (fun as=>q5d P Γ st.hp f (as++cs) (fun res=>K (.t res) st) ⟨⟩) ⟨⟩) ⟨⟩
 | .hcall f args rs base=>asK (evs Γ st.env args) (fun as=>rs.Nodup∧qAu P Γ st f rs base (Fg rs st.hp) (as.map (Be (fwd rs))) K ⟨⟩) ⟨⟩
 | .hcallv x args rs base=>fnK ((ev Γ st.env x).bind qAq) (fun f cs=>asK (evs Γ st.env args) (fun as=>rs.Nodup∧qAu P Γ st f rs base (Fg rs st.hp) ((as++cs).map (Be (fwd rs))) K ⟨⟩) ⟨⟩) ⟨⟩
 | .ncall f args base=>asK (evs Γ st.env args) (fun as=>qGU P Γ st f base (as.map (Be (fwd []))) K ⟨⟩) ⟨⟩
 | .callT f args=>asK (evs Γ st.env args) (fun as=>qAv P Γ f as (fun res=>K (.t res) st) ⟨⟩) ⟨⟩
 | .rcall f args rs=>asK (evs Γ st.env args) (fun as=>rs.Nodup∧(∀ i ∈ rs,∃ ty s es,A4 st.hp i=some (.sl ty s es))∧qGV P Γ st f rs (Fg rs st.hp) (as.map (Be (fwd rs))) K ⟨⟩) ⟨⟩
 | io=>Ec (Ap Γ d io st) K ⟨⟩
def q8Y (x:Option Bool) (A B:Prop) (_:Tag A) (_:Tag B):Prop:=match x with
 | some true=>A
 | some false=>B
 | none=>False
def qIt (P:Program) (Γ:Tables) (ro:RO) (st:St) (K:St→Prop):Prop:=q8Y (Gt st.env ro.guard) (Bd P Γ ro.d ro.op st fun r st1=>K (st1.put ro.dst r)) (K (st.put ro.dst .un)) ⟨⟩ ⟨⟩
def Gp (P:Program) (Γ:Tables):(ros:List RO)→(st:St)→(K:St→Prop)→Tag K→Prop
 | [],st,K,_=>K st
 | ro::ros,st,K,t=>qIt P Γ ro st fun st1=>Gp P Γ ros st1 K t
theorem qGW {P:Program} {Γ:Tables} {d:Nat} {io:Ce} {st:St} {K:AV→St→Prop} (h:Bd P Γ d io st K):∃ r st1,Fh P Γ d io st r st1∧K r st1:=by
 have gen:Ec (Ap Γ d io st) K ⟨⟩→∃ r st1,(∃ c,Ap Γ d io st=some (c,r,st1)∧c)∧K r st1:=by
  intro h
  unfold Ec at h
  split at h
  ·rename_i c r st1 hs; exact ⟨r,st1,⟨c,hs,h.1⟩,h.2⟩
  ·exact h.elim
 cases io with
 | call f args =>
  simp only [Bd,asK] at h
  split at h
  ·rename_i as has; obtain ⟨res,h1,h2⟩:=h; exact ⟨_,_,⟨as,res,has,h1,rfl,rfl⟩,h2⟩
  ·exact h.elim
 | callv x args =>
  simp only [Bd,fnK] at h
  split at h
  ·rename_i p hp
   obtain ⟨a,ha,hf⟩:=Option.bind_eq_some_iff.1 hp
   simp only [asK] at h
   split at h
   ·rename_i as has; obtain ⟨res,h1,h2⟩:=h; exact ⟨_,_,⟨a,p.1,p.2,as,res,ha,hf,has,h1,rfl,rfl⟩,h2⟩
   ·exact h.elim
  ·exact h.elim
 | hcall f args rs base =>
  simp only [Bd,asK] at h
  split at h
  ·rename_i as has; obtain ⟨hnd,res,hp',h1,h2,h3⟩:=h; exact ⟨_,_,⟨as,res,hp',has,hnd,h1,h2,rfl,rfl⟩,h3⟩
  ·exact h.elim
 | hcallv x args rs base =>
  simp only [Bd,fnK] at h
  split at h
  ·rename_i p hp
   obtain ⟨a,ha,hf⟩:=Option.bind_eq_some_iff.1 hp
   simp only [asK] at h
   split at h
   ·rename_i as has; obtain ⟨hnd,res,hp',h1,h2,h3⟩:=h; exact ⟨_,_,⟨a,p.1,p.2,as,res,hp',ha,hf,has,hnd,h1,h2,rfl,rfl⟩,h3⟩
   ·exact h.elim
  ·exact h.elim
 | ncall f args base =>
  simp only [Bd,asK] at h
  split at h
  ·rename_i as has; obtain ⟨res,hp',h1,h2,h3⟩:=h; exact ⟨_,_,⟨as,res,hp',has,h1,h2,rfl,rfl⟩,h3⟩
  ·exact h.elim
 | callT f args =>
  simp only [Bd,asK] at h
  split at h
  ·rename_i as has; obtain ⟨ts,res,h1,h2,h3⟩:=h; exact ⟨_,_,⟨as,ts,res,has,h1,h2,rfl,rfl⟩,h3⟩
  ·exact h.elim
 | rcall f args rs =>
  simp only [Bd,asK] at h
  split at h
  ·rename_i as has; obtain ⟨hnd,hsl,res,h1,h2⟩:=h; exact ⟨_,_,⟨as,res,has,hnd,hsl,h1,rfl,rfl⟩,h2⟩
  ·exact h.elim
 | _=>exact gen h
theorem q6e {P:Program} {Γ:Tables}:∀ {ros:List RO} {st:St} {K:St→Prop},Gp P Γ ros st K ⟨⟩→∃ s1,Px P Γ ros st s1∧K s1
 | [],st,K,h=>⟨st,rfl,h⟩
 | ro::ros,st,K,h=>by
  simp only [Gp,qIt,q8Y] at h
  split at h
  ·rename_i hw
   obtain ⟨r,st1,h1,h2⟩:=qGW h
   obtain ⟨s1,h3,h4⟩:=q6e (ros:=ros) h2
   exact ⟨s1,⟨_,.inl ⟨hw,r,st1,h1,rfl⟩,h3⟩,h4⟩
  ·rename_i hw
   obtain ⟨s1,h3,h4⟩:=q6e (ros:=ros) h
   exact ⟨s1,⟨_,.inr ⟨hw,rfl⟩,h3⟩,h4⟩
  ·exact h.elim
def ghs (gs:List Gh) (s:St):St:=gs.foldl (fun s g=>g.run s) s
def run (P:Program) (Γ:Tables):IC→(AX→St→Prop)→St→Prop
 | .skip,Q,s=>Q .normal s
 | .reg ros gs,Q,s=>Gp P Γ ros s (fun s1=>Q .normal (ghs gs s1)) ⟨⟩
 | .seq a b,Q,s=>run P Γ a (As (run P Γ b Q) Q) s
 | .cond c a b,Q,s=>q7H (ev Γ s.env c) (run P Γ a Q s) (run P Γ b Q s) ⟨⟩ ⟨⟩
 | .block id a,Q,s=>run P Γ a (M9 id Q) s
 | .loop a,Q,s=>awp P Γ (.loop a) Q s
 | .exit i,Q,s=>Q (.exit i) s
 | .ret,Q,s=>Q .ret s
 | .scope a,Q,s=>run P Γ a Q s
 | .gh a gs,Q,s=>run P Γ a (As (fun s=>Q .normal (ghs gs s)) Q) s
 | .dead,_,_=>False
theorem J7 {P:Program} {Γ:Tables}:∀ {c:IC} {Q:AX→St→Prop} {s:St},run P Γ c Q s→awp P Γ c Q s
 | .skip,_,_,h=>h
 | .reg ros gs,_,_,h=>q6e h
 | .seq a b,Q,s,h=>Bn (c:=a) (J7 (c:=a) h) fun e s h=>by
  cases e with
  | normal=>exact J7 (c:=b) h
  | exit i=>exact h
  | ret=>exact h
 | .cond c a b,Q,s,h=>by
  simp only [run,q7H] at h
  split at h
  ·rename_i t ht; exact ⟨t,ht,fun e=>J7 (c:=a) (h.1 e),fun e=>J7 (c:=b) (h.2 e)⟩
  ·exact h.elim
 | .block id a,Q,s,h=>J7 (c:=a) h
 | .loop a,Q,s,h=>h
 | .exit _,_,_,h=>h
 | .ret,_,_,h=>h
 | .scope a,Q,s,h=>J7 (c:=a) h
 | .gh a gs,Q,s,h=>Bn (c:=a) (J7 (c:=a) h) fun e s h=>by
  cases e with
  | normal=>exact h
  | exit i=>exact h
  | ret=>exact h
 | .dead,_,_,h=>h.elim
def ret (fl:Bool) (rvs:List RV) (R:T→Prop):AX→St→Prop
 | .exit _,_=>False
 | .normal,s | .ret,s=>(match q0b s rvs with | some (c,r)=>c∧R r | none=>False)∧(fl=true→Dm s)
theorem qGX {rvs:List RV} {R:T→Prop} {e:AX} {s:St} {fl:Bool} (h:ret fl rvs R e s):∃ res,R res∧(if fl then qIr rvs res e s else qFE rvs res e s):=by
 cases e with
 | exit i=>exact h.elim
 | normal =>
  obtain ⟨h,hf⟩:=h
  split at h
  ·rename_i c r hr
   refine ⟨r,h.2,?_⟩
   cases fl
   ·exact ⟨c,hr,h.1⟩
   ·exact ⟨c,hr,h.1,hf rfl⟩
  ·exact h.elim
 | ret =>
  obtain ⟨h,hf⟩:=h
  split at h
  ·rename_i c r hr
   refine ⟨r,h.2,?_⟩
   cases fl
   ·exact ⟨c,hr,h.1⟩
   ·exact ⟨c,hr,h.1,hf rfl⟩
  ·exact h.elim
theorem run_pure {P:Program} {Γ:Tables} {f:FuncId} {ic:IC} {N n:Nat} {rvs:List RV} {args:List T} {R:T→Prop} (hc:Aw P f ic N n rvs=true) (hn:args.length=n) (h:run P Γ ic (ret false rvs R) ⟨params 0 args,[]⟩):∃ res,Ae P Γ f args res∧R res:=by
 obtain ⟨e,s,h1,h2⟩:=Iq (J7 h)
 obtain ⟨res,hR,hq⟩:=qGX h1
 exact ⟨res,qDL hc hn (Bn h2 fun e s ⟨he,hs⟩=>by subst he; subst hs; exact hq),hR⟩
theorem qA3 {P:Program} {Γ:Tables} {f:FuncId} {ic:IC} {N n:Nat} {rvs:List RV} {args:List T} {R:T→Prop} (hc:Aw P f ic N n rvs=true) (hn:args.length=n) (h:run P Γ ic (ret true rvs R) ⟨params 0 args,[]⟩):∃ res,A6 P Γ f args res∧R res:=by
 obtain ⟨e,s,h1,h2⟩:=Iq (J7 h)
 obtain ⟨res,hR,hq⟩:=qGX h1
 exact ⟨res,qBv hc hn (Bn h2 fun e s ⟨he,hs⟩=>by subst he; subst hs; exact hq),hR⟩
def qFG (rvs:List RV) (R:AV→List (Nat × Bc)→Prop):AX→St→Prop
 | .exit _,_=>False
 | .normal,s | .ret,s=>match q9X s rvs with | some (c,r)=>c∧R r s.hp | none=>False
theorem qJp {rvs:List RV} {R:AV→List (Nat × Bc)→Prop} {e:AX} {s:St} (h:qFG rvs R e s):∃ res hp',R res hp'∧qIs rvs res hp' e s:=by
 have key:∀ s:St,(match q9X s rvs with | some (c,r)=>c∧R r s.hp | none=>False)→∃ res hp',R res hp'∧∃ c,q9X s rvs=some (c,res)∧c∧s.hp=hp':=by
  intro s h
  split at h
  ·rename_i c r hr; exact ⟨r,s.hp,h.2,c,hr,h.1,rfl⟩
  ·exact h.elim
 cases e with
 | exit i=>exact h.elim
 | normal=>exact key s h
 | ret=>exact key s h
theorem qGY {P:Program} {Γ:Tables} {f:FuncId} {ic:IC} {N n:Nat} {rvs:List RV} {hp:List (Nat × Bc)} {args:List AV} {R:AV→List (Nat × Bc)→Prop} (hc:Aw P f ic N n rvs=true) (hn:args.length=n) (h:run P Γ ic (qFG rvs R) ⟨qAt 0 args,hp⟩) :
  ∃ res hp',F9 P Γ f hp args res hp'∧R res hp':=by
 obtain ⟨e,s,h1,h2⟩:=Iq (J7 h)
 obtain ⟨res,hp',hR,hq⟩:=qJp h1
 exact ⟨res,hp',qIB hc hn (Bn h2 fun e s ⟨he,hs⟩=>by subst he; subst hs; exact hq),hR⟩
theorem A5 {n:Int} (h1 : -9223372036854775808≤n) (h2:n≤9223372036854775807):IntKind.i64.wrap n=n:=by
 simp [IntKind.wrap,IntKind.signed,IntKind.bits]
 split <;> omega
theorem Bj {n:Int} (h1:0≤n) (h2:n≤255):IntKind.u8.wrap n=n:=by
 simp [IntKind.wrap,IntKind.signed,IntKind.bits]
 omega
section
variable {P:Program} {Γ:Tables} {Q Q':AX→St→Prop} {s s':St} {hp hp':List (Nat × Bc)}
theorem Ah {a:IC} (h:∀ K:St→Prop,K=run P Γ (.loop a) Q→run P Γ a (As K Q) s):run P Γ (.loop a) Q s:=qGS (J7 (h _ rfl))
@[simp ↓] theorem qMT {a b:IC}:run P Γ (.seq a b) Q s=run P Γ a (As (run P Γ b Q) Q) s:=Eq.trans rfl rfl
@[simp ↓] theorem qMU {ros:List RO} {gs:List Gh}:run P Γ (.reg ros gs) Q s=Gp P Γ ros s (fun s1=>Q .normal (ghs gs s1)) ⟨⟩:=Eq.trans rfl rfl
@[simp ↓] theorem qLo {c:Operand} {a b:IC}:run P Γ (.cond c a b) Q s=q7H (ev Γ s.env c) (run P Γ a Q s) (run P Γ b Q s) ⟨⟩ ⟨⟩:=Eq.trans rfl rfl
@[simp ↓] theorem qKr {id:Nat} {a:IC}:run P Γ (.block id a) Q s=run P Γ a (M9 id Q) s:=Eq.trans rfl rfl
@[simp ↓] theorem qKs {a:IC}:run P Γ (.scope a) Q s=run P Γ a Q s:=Eq.trans rfl rfl
@[simp ↓] theorem qN1 {a:IC} {gs:List Gh}:run P Γ (.gh a gs) Q s=run P Γ a (As (fun s=>Q .normal (ghs gs s)) Q) s:=Eq.trans rfl rfl
@[simp ↓] theorem qLp:run P Γ .skip Q s=Q .normal s:=Eq.trans rfl rfl
@[simp ↓] theorem qLq {i:Nat}:run P Γ (.exit i) Q s=Q (.exit i) s:=Eq.trans rfl rfl
@[simp ↓] theorem qMV:run P Γ .ret Q s=Q .ret s:=Eq.trans rfl rfl
@[simp ↓] theorem qLr:run P Γ .dead Q s=False:=Eq.trans rfl rfl
@[simp ↓] theorem qKt {c:Prop} {r:AV} {K:AV→St→Prop}:Ec (some (c,r,s)) K ⟨⟩=(c∧K r s):=Eq.trans rfl rfl
@[simp ↓] theorem qKu {K:AV→St→Prop}:Ec none K ⟨⟩=False:=Eq.trans rfl rfl
@[simp ↓] theorem qLs {as:List AV} {K:List AV→Prop}:asK (some as) K ⟨⟩=K as:=Eq.trans rfl rfl
@[simp ↓] theorem qLt {f:FuncId} {cs:List AV} {K:FuncId→List AV→Prop}:fnK (some (f,cs)) K ⟨⟩=K f cs:=Eq.trans rfl rfl
@[simp ↓,simp] theorem qJq {A B:Prop}:q7H (some (.t (.v (.bool true)))) A B ⟨⟩ ⟨⟩=A:=by simp [q7H]
@[simp ↓,simp] theorem qIu {A B:Prop}:q7H (some (.t (.v (.bool false)))) A B ⟨⟩ ⟨⟩=B:=by simp [q7H]
@[simp low] theorem qJr {t:Bool} {A B:Prop}:q7H (some (.t (.v (.bool t)))) A B ⟨⟩ ⟨⟩=((t=true→Bh A ⟨⟩)∧(t=false→Bh B ⟨⟩)):=Eq.trans rfl rfl
@[simp ↓] theorem qJs {A B:Prop}:q8Y (some true) A B ⟨⟩ ⟨⟩=A:=Eq.trans rfl rfl
@[simp ↓] theorem qIv {A B:Prop}:q8Y (some false) A B ⟨⟩ ⟨⟩=B:=Eq.trans rfl rfl
@[simp ↓,simp] theorem qJt {K:St→Prop}:Gp P Γ [] s K ⟨⟩=K s:=Eq.trans rfl rfl
@[simp ↓,simp] theorem qJu {d:Nat}  {io:Ce} {ros:List RO} {K:St→Prop} :
  Gp P Γ (⟨some d,io,none,none⟩::ros) s K ⟨⟩=Bd P Γ d io s fun q st1=>Gp P Γ ros ⟨(d,q)::st1.env,st1.hp⟩ K ⟨⟩:=Eq.trans rfl rfl
@[simp ↓,simp] theorem qJv {d:Nat}  {r:Nat} {io:Ce} {ros:List RO} {K:St→Prop} :
  Gp P Γ (⟨some d,io,none,some r⟩::ros) s K ⟨⟩=Bd P Γ r io s fun q st1=>Gp P Γ ros ⟨(d,q)::st1.env,st1.hp⟩ K ⟨⟩:=Eq.trans rfl rfl
@[simp ↓,simp] theorem qJw {d:Nat} {g:Nat} {b:Bool} {io:Ce} {ros:List RO} {K:St→Prop} :
  Gp P Γ (⟨some d,io,some (g,b),none⟩::ros) s K ⟨⟩=q8Y (Gt s.env (some (g,b))) (Bd P Γ d io s fun q st1=>Gp P Γ ros ⟨(d,q)::st1.env,st1.hp⟩ K ⟨⟩) (Gp P Γ ros ⟨(d,.un)::s.env,s.hp⟩ K ⟨⟩) ⟨⟩ ⟨⟩:=Eq.trans rfl rfl
@[simp ↓,simp] theorem qJx {d:Nat} {g:Nat} {b:Bool} {r:Nat} {io:Ce} {ros:List RO} {K:St→Prop} :
  Gp P Γ (⟨some d,io,some (g,b),some r⟩::ros) s K ⟨⟩=q8Y (Gt s.env (some (g,b))) (Bd P Γ r io s fun q st1=>Gp P Γ ros ⟨(d,q)::st1.env,st1.hp⟩ K ⟨⟩) (Gp P Γ ros ⟨(d,.un)::s.env,s.hp⟩ K ⟨⟩) ⟨⟩ ⟨⟩:=Eq.trans rfl rfl
@[simp ↓,simp] theorem qJy   {io:Ce} {ros:List RO} {K:St→Prop} :
  Gp P Γ (⟨none,io,none,none⟩::ros) s K ⟨⟩=Bd P Γ 0 io s fun q st1=>Gp P Γ ros st1 K ⟨⟩:=Eq.trans rfl rfl
@[simp ↓,simp] theorem qJz  {g:Nat} {b:Bool} {io:Ce} {ros:List RO} {K:St→Prop} :
  Gp P Γ (⟨none,io,some (g,b),none⟩::ros) s K ⟨⟩=q8Y (Gt s.env (some (g,b))) (Bd P Γ 0 io s fun q st1=>Gp P Γ ros st1 K ⟨⟩) (Gp P Γ ros s K ⟨⟩) ⟨⟩ ⟨⟩:=Eq.trans rfl rfl
@[simp ↓] theorem qIC {n:St→Prop}:As n Q .normal s=n s:=Eq.trans rfl rfl
@[simp ↓] theorem qK0 {n:St→Prop} {i:Nat}:As n Q (.exit i) s=Q (.exit i) s:=Eq.trans rfl rfl
@[simp ↓] theorem qKv {n:St→Prop}:As n Q .ret s=Q .ret s:=Eq.trans rfl rfl
@[simp ↓] theorem qHo {id:Nat}:M9 id Q .normal s=Q .normal s:=Eq.trans rfl rfl
@[simp ↓] theorem qIw {id i:Nat}:M9 id Q (.exit i) s=if i=id then Q .normal s else Q (.exit i) s:=Eq.trans rfl rfl
@[simp ↓] theorem qK1 {id:Nat}:M9 id Q .ret s=Q .ret s:=Eq.trans rfl rfl
@[simp ↓] theorem qMW:ghs [] s=s:=Eq.trans rfl rfl
theorem Fv {g:Gh} {gs:List Gh}:ghs (g::gs) s=ghs gs (g.run s):=rfl
@[simp ↓,simp] theorem qLu {g:Gh} {gs:List Gh} {e:List (Nat × AV)} {h:List (Nat × Bc)}:ghs (g::gs) ⟨e,h⟩=ghs gs (g.run ⟨e,h⟩):=Eq.trans rfl rfl
@[simp] theorem q8Z {α:Type} {l:List (Nat × α)}:Lg.keep [] l=[]:=Eq.trans rfl rfl
@[simp] theorem q6f {α:Type} {k:Nat} {ks:List Nat} {l:List (Nat × α)}:Lg.keep (k::ks) l=match A4 l k with | some v=>(k,v)::Lg.keep ks l | none=>Lg.keep ks l:=by
 unfold Lg.keep
 rw [List.filterMap_cons]
 cases A4 l k <;> rfl
@[simp ↓] theorem qN2 {d:Nat} {st:St} {x:Operand}:Ap Γ d (.mv x) st=(
   (ev Γ st.env x).map fun a=>(True,a,st)):=Eq.trans rfl rfl
@[simp ↓] theorem qLv {d:Nat} {st:St} {K:AV→St→Prop} {x:Operand}:Bd P Γ d (.mv x) st K=Ec (Ap Γ d (.mv x) st) K ⟨⟩:=Eq.trans rfl rfl
@[simp ↓] theorem qLw {d:Nat} {st:St} {c:Operand} {a:Operand} {b:Operand}:Ap Γ d (.pick c a b) st=(
   match ev Γ st.env c,ev Γ st.env a,ev Γ st.env b with
    | some (.t (.v (.bool p))),some a,some b=>some (True,q6N p a b,st)
    | _,_,_=>none):=Eq.trans rfl rfl
@[simp ↓] theorem qK2 {d:Nat} {st:St} {K:AV→St→Prop} {c:Operand} {a:Operand} {b:Operand}:Bd P Γ d (.pick c a b) st K=Ec (Ap Γ d (.pick c a b) st) K ⟨⟩:=Eq.trans rfl rfl
@[simp ↓] theorem qKw {d:Nat} {st:St} {fz:Bool} {zs:List Value}:Ap Γ d (.alloc fz zs) st=(
  if fz then some (True,.t (.ip (zs.map Bo) 0),st)
  else some (A4 st.hp d=none,.lp d 0 0,⟨st.env,(d,.bx (zs.map fun z=>.t (Bo z)))::st.hp⟩)):=Eq.trans rfl rfl
@[simp ↓] theorem qIx {d:Nat} {st:St} {K:AV→St→Prop} {fz:Bool} {zs:List Value}:Bd P Γ d (.alloc fz zs) st K=Ec (Ap Γ d (.alloc fz zs) st) K ⟨⟩:=Eq.trans rfl rfl
@[simp ↓] theorem qMX {d:Nat} {st:St} {fz:Bool} {x:Operand}:Ap Γ d (.box fz x) st=(
   (ev Γ st.env x).bind fun a =>
    if fz then (N8 a.cells).map fun ts=>(Cb ts=true,.t (.ip ts 0),st)
    else some (A4 st.hp d=none∧D2 a.cells=true,.lp d 0 0,⟨st.env,(d,.bx a.cells)::st.hp⟩)):=Eq.trans rfl rfl
@[simp ↓] theorem qKx {d:Nat} {st:St} {K:AV→St→Prop} {fz:Bool} {x:Operand}:Bd P Γ d (.box fz x) st K=Ec (Ap Γ d (.box fz x) st) K ⟨⟩:=Eq.trans rfl rfl
@[simp ↓] theorem qKy {d:Nat} {st:St} {parts:List (Nat × Operand)}:Ap Γ d (.build parts) st=(
   (evs Γ st.env (parts.map (·.2))).map fun as=>(as.map (·.cells.length)=parts.map (·.1)∧D2 (as.flatMap AV.cells)=true,.ag (as.flatMap AV.cells),st)):=Eq.trans rfl rfl
@[simp ↓] theorem qIy {d:Nat} {st:St} {K:AV→St→Prop} {parts:List (Nat × Operand)}:Bd P Γ d (.build parts) st K=Ec (Ap Γ d (.build parts) st) K ⟨⟩:=Eq.trans rfl rfl
@[simp ↓] theorem qMY {d:Nat} {st:St} {fz:Bool} {ty:Nat} {s:Nat} {parts:List Operand}:Ap Γ d (.bsl fz ty s parts) st=(
   (evs Γ st.env parts).bind fun as=>(Ai (as.map fun a=>N8 a.cells)).map fun es =>
    if fz then ((∀ e ∈ es,e.length=s∧Cb e=true),.t (.sl es (some es.length) (some false)),st)
    else (A4 st.hp d=none∧(∀ e ∈ es,e.length=s∧Cb e=true),.ls d 0 es.length none,⟨st.env,(d,.sl ty s es)::st.hp⟩)):=Eq.trans rfl rfl
@[simp ↓] theorem qKz {d:Nat} {st:St} {K:AV→St→Prop} {fz:Bool} {ty:Nat} {s:Nat} {parts:List Operand}:Bd P Γ d (.bsl fz ty s parts) st K=Ec (Ap Γ d (.bsl fz ty s parts) st) K ⟨⟩:=Eq.trans rfl rfl
@[simp ↓] theorem qLx {d:Nat} {st:St} {n:Nat} {g:Bool} {a:Operand}:Ap Γ d (.load n g a) st=(
   match ev Γ st.env a with
    | some (.t (.ip cs k))=>some (k+n≤cs.length,.t (K4 g ((cs.drop k).take n)),st)
    | some (.lp id i k)=>match A4 st.hp id with
      | some (.sl _ s es)=>some (i<es.length∧k+n≤s,.t (K4 g (((es.getD i []).drop k).take n)),st)
      | some (.bx cs)=>some (i=0∧k+n≤cs.length,X5 g ((cs.drop k).take n),st)
      | _=>none
    | _=>none):=Eq.trans rfl rfl
@[simp ↓] theorem qK3 {d:Nat} {st:St} {K:AV→St→Prop} {n:Nat} {g:Bool} {a:Operand}:Bd P Γ d (.load n g a) st K=Ec (Ap Γ d (.load n g a) st) K ⟨⟩:=Eq.trans rfl rfl
@[simp ↓] theorem qL0 {d:Nat} {st:St} {n:Nat} {a:Operand} {x:Operand}:Ap Γ d (.store n a x) st=(
   (ev Γ st.env x).bind fun v=>match ev Γ st.env a with
    | some (.lp id i k)=>match A4 st.hp id with
      | some (.sl ty s es)=>(N8 v.cells).map fun ts =>
        (i<es.length∧k+n≤s∧ts.length=n∧Cb ts=true,.un,
          ⟨st.env,Gg id (.sl ty s (es.set i (if k=0∧n=s then ts else (es.getD i []).take k++ts++(es.getD i []).drop (k+n)))) st.hp⟩)
      | some (.bx cs)=>some (i=0∧k+n≤cs.length∧v.cells.length=n∧D2 v.cells=true,.un,⟨st.env,Gg id (.bx (cs.take k++v.cells++cs.drop (k+n))) st.hp⟩)
      | _=>none
    | _=>none):=Eq.trans rfl rfl
@[simp ↓] theorem qIz {d:Nat} {st:St} {K:AV→St→Prop} {n:Nat} {a:Operand} {x:Operand}:Bd P Γ d (.store n a x) st K=Ec (Ap Γ d (.store n a x) st) K ⟨⟩:=Eq.trans rfl rfl
@[simp ↓] theorem qLy {d:Nat} {st:St} {off:Nat} {a:Operand}:Ap Γ d (.fadr off a) st=(
   match ev Γ st.env a with
    | some (.t (.ip cs k))=>some (True,.t (.ip cs (k+off)),st)
    | some (.lp id i k)=>some (True,.lp id i (k+off),st)
    | _=>none):=Eq.trans rfl rfl
@[simp ↓] theorem qK4 {d:Nat} {st:St} {K:AV→St→Prop} {off:Nat} {a:Operand}:Bd P Γ d (.fadr off a) st K=Ec (Ap Γ d (.fadr off a) st) K ⟨⟩:=Eq.trans rfl rfl
@[simp ↓] theorem qMZ {d:Nat} {st:St} {off:Nat} {n:Nat} {g:Bool} {x:Operand}:Ap Γ d (.fld off n g x) st=(
   (ev Γ st.env x).bind fun a=>match a with
    | .ag cs=>some (off+n≤cs.length,X5 g ((cs.drop off).take n),st)
    | .t (.agg ts)=>some (off+n≤ts.length,.t (K4 g ((ts.drop off).take n)),st)
    | _=>none):=Eq.trans rfl rfl
@[simp ↓] theorem qL1 {d:Nat} {st:St} {K:AV→St→Prop} {off:Nat} {n:Nat} {g:Bool} {x:Operand}:Bd P Γ d (.fld off n g x) st K=Ec (Ap Γ d (.fld off n g x) st) K ⟨⟩:=Eq.trans rfl rfl
@[simp ↓] theorem qLz {d:Nat} {st:St} {s:Nat} {x:Operand} {i:Operand}:Ap Γ d (.iadr s x i) st=(
   match ev Γ st.env x,ev Γ st.env i with
    | some (.t (.sl es _ _)),some (.t (.v (.int _ n)))=>some (0≤n∧n<es.length∧D5 s es,.t (.ip (es.getD n.toNat []) 0),st)
    | some (.ls id off len _),some (.t (.v (.int _ n)))=>match A4 st.hp id with
      | some (.sl _ q _)=>some (q=s∧0≤n∧n<len,.lp id (off+n.toNat) 0,st)
      | _=>none
    | some (.lb id m),some (.t (.v (.int _ n)))=>match A4 st.hp id with
      | some (.bx _)=>some (s=1∧0≤n∧n<m,.lp id 0 n.toNat,st)
      | _=>none
    | _,_=>none):=Eq.trans rfl rfl
@[simp ↓] theorem qK5 {d:Nat} {st:St} {K:AV→St→Prop} {s:Nat} {x:Operand} {i:Operand}:Bd P Γ d (.iadr s x i) st K=Ec (Ap Γ d (.iadr s x i) st) K ⟨⟩:=Eq.trans rfl rfl
@[simp ↓] theorem qM0 {d:Nat} {st:St} {s:Nat} {x:Operand} {i:Operand}:Ap Γ d (.iadT s x i) st=(
   match ev Γ st.env x,ev Γ st.env i with
    | some (.t (.sl es _ _)),some (.t (.v (.int _ n)))=>some (0≤n∧n<es.length∧D5 s es,.t (.ip (es.getD n.toNat []) 0),st)
    | _,_=>none):=Eq.trans rfl rfl
@[simp ↓] theorem qK6 {d:Nat} {st:St} {K:AV→St→Prop} {s:Nat} {x:Operand} {i:Operand}:Bd P Γ d (.iadT s x i) st K=Ec (Ap Γ d (.iadT s x i) st) K ⟨⟩:=Eq.trans rfl rfl
@[simp ↓] theorem qL2 {d:Nat} {st:St} {len:Nat} {s:Nat} {x:Operand} {i:Operand}:Ap Γ d (.iadrA len s x i) st=(
   match ev Γ st.env x,ev Γ st.env i with
    | some (.t (.ip cs k)),some (.t (.v (.int _ n)))=>some (0≤n∧n<len,.t (.ip cs (k+n.toNat*s)),st)
    | some (.lp id j k),some (.t (.v (.int _ n)))=>some (0≤n∧n<len,.lp id j (k+n.toNat*s),st)
    | _,_=>none):=Eq.trans rfl rfl
@[simp ↓] theorem qJ0 {d:Nat} {st:St} {K:AV→St→Prop} {len:Nat} {s:Nat} {x:Operand} {i:Operand}:Bd P Γ d (.iadrA len s x i) st K=Ec (Ap Γ d (.iadrA len s x i) st) K ⟨⟩:=Eq.trans rfl rfl
@[simp ↓] theorem qM1 {d:Nat} {st:St} {x:Operand} {i:Operand}:Ap Γ d (.idxS x i) st=(
   match ev Γ st.env x,ev Γ st.env i with
    | some (.t (.v (.string s))),some (.t (.v (.int _ n)))=>some (0≤n∧n<s.size,.t (.v (.int .u8 (s.data.getD n.toNat 0).toNat)),st)
    | _,_=>none):=Eq.trans rfl rfl
@[simp ↓] theorem qK7 {d:Nat} {st:St} {K:AV→St→Prop} {x:Operand} {i:Operand}:Bd P Γ d (.idxS x i) st K=Ec (Ap Γ d (.idxS x i) st) K ⟨⟩:=Eq.trans rfl rfl
@[simp ↓] theorem qM2 {d:Nat} {st:St} {len:Nat} {s:Nat} {g:Bool} {x:Operand} {i:Operand}:Ap Γ d (.idxA len s g x i) st=(
   match ev Γ st.env x,ev Γ st.env i with
    | some (.t (.agg ts)),some (.t (.v (.int _ n)))=>some (0≤n∧n<len∧n.toNat*s+s≤ts.length,.t (K4 g ((ts.drop (n.toNat*s)).take s)),st)
    | some (.ag cs),some (.t (.v (.int _ n)))=>some (0≤n∧n<len∧n.toNat*s+s≤cs.length,X5 g ((cs.drop (n.toNat*s)).take s),st)
    | _,_=>none):=Eq.trans rfl rfl
@[simp ↓] theorem qK8 {d:Nat} {st:St} {K:AV→St→Prop} {len:Nat} {s:Nat} {g:Bool} {x:Operand} {i:Operand}:Bd P Γ d (.idxA len s g x i) st K=Ec (Ap Γ d (.idxA len s g x i) st) K ⟨⟩:=Eq.trans rfl rfl
@[simp ↓] theorem qMa {d:Nat} {st:St} {op:BinOp} {x:Operand} {y:Operand}:Ap Γ d (.bin op x y) st=(
   match ev Γ st.env x,ev Γ st.env y with
    | some (.t (.v a)),some (.t (.v b))=>(qEu op a b).map fun r=>(r.1,.t (.v r.2),st)
    | _,_=>none):=Eq.trans rfl rfl
@[simp ↓] theorem qL3 {d:Nat} {st:St} {K:AV→St→Prop} {op:BinOp} {x:Operand} {y:Operand}:Bd P Γ d (.bin op x y) st K=Ec (Ap Γ d (.bin op x y) st) K ⟨⟩:=Eq.trans rfl rfl
@[simp ↓] theorem qL4 {d:Nat} {st:St} {pos:Bool} {x:Operand}:Ap Γ d (.isNil pos x) st=(
   match ev Γ st.env x with
    | some (.t (.sl es _ nl))=>match nl with
      | some q=>some (True,.t (.v (.bool (q == pos))),st)
      | none=>some (es ≠ [],.t (.v (.bool (!pos))),st)
    | _=>none):=Eq.trans rfl rfl
@[simp ↓] theorem qJ1 {d:Nat} {st:St} {K:AV→St→Prop} {pos:Bool} {x:Operand}:Bd P Γ d (.isNil pos x) st K=Ec (Ap Γ d (.isNil pos x) st) K ⟨⟩:=Eq.trans rfl rfl
@[simp ↓] theorem qMb {d:Nat} {st:St} {pos:Bool} {x:Operand} {y:Operand}:Ap Γ d (.eqb pos x y) st=(
   match ev Γ st.env x,ev Γ st.env y with
    | some (.t (.v (.bool a))),some (.t (.v (.bool b)))=>some (True,.t (.v (.bool (if pos then a == b else a != b))),st)
    | _,_=>none):=Eq.trans rfl rfl
@[simp ↓] theorem qL5 {d:Nat} {st:St} {K:AV→St→Prop} {pos:Bool} {x:Operand} {y:Operand}:Bd P Γ d (.eqb pos x y) st K=Ec (Ap Γ d (.eqb pos x y) st) K ⟨⟩:=Eq.trans rfl rfl
@[simp ↓] theorem qMc {d:Nat} {st:St} {pos:Bool} {ks:List (Option IntKind)} {x:Operand} {y:Operand}:Ap Γ d (.eqg pos ks x y) st=(
   ((ev Γ st.env x).bind qCm).bind fun as=>((ev Γ st.env y).bind qCm).map fun bs=>(q2S ks as∧q2S ks bs,.t (.v (.bool (if pos then q3g as bs else !q3g as bs))),st)):=Eq.trans rfl rfl
@[simp ↓] theorem qL6 {d:Nat} {st:St} {K:AV→St→Prop} {pos:Bool} {ks:List (Option IntKind)} {x:Operand} {y:Operand}:Bd P Γ d (.eqg pos ks x y) st K=Ec (Ap Γ d (.eqg pos ks x y) st) K ⟨⟩:=Eq.trans rfl rfl
@[simp ↓] theorem qN3 {d:Nat} {st:St} {op:UnOp} {x:Operand}:Ap Γ d (.un op x) st=(
   match ev Γ st.env x with
    | some (.t (.v a))=>(unV op a).map fun r=>(True,.t (.v r),st)
    | _=>none):=Eq.trans rfl rfl
@[simp ↓] theorem qM3 {d:Nat} {st:St} {K:AV→St→Prop} {op:UnOp} {x:Operand}:Bd P Γ d (.un op x) st K=Ec (Ap Γ d (.un op x) st) K ⟨⟩:=Eq.trans rfl rfl
@[simp ↓] theorem qM4 {d:Nat} {st:St} {k:IntKind} {x:Operand}:Ap Γ d (.conv k x) st=(
   match ev Γ st.env x with
    | some (.t (.v (.int _ n)))=>some (True,.t (.v (.int k (k.wrap n))),st)
    | _=>none):=Eq.trans rfl rfl
@[simp ↓] theorem qK9 {d:Nat} {st:St} {K:AV→St→Prop} {k:IntKind} {x:Operand}:Bd P Γ d (.conv k x) st K=Ec (Ap Γ d (.conv k x) st) K ⟨⟩:=Eq.trans rfl rfl
@[simp ↓] theorem qID {d:Nat} {st:St} {x:Operand}:Ap Γ d (.bytesStr x) st=(
   ((ev Γ st.env x).bind (Br st.hp)).bind fun es=>(Nz es).map fun bs=>(True,.t (.v (.string ⟨bs.toArray⟩)),st)):=Eq.trans rfl rfl
@[simp ↓] theorem qGZ {d:Nat} {st:St} {K:AV→St→Prop} {x:Operand}:Bd P Γ d (.bytesStr x) st K=Ec (Ap Γ d (.bytesStr x) st) K ⟨⟩:=Eq.trans rfl rfl
@[simp ↓] theorem qJ2 {d:Nat} {st:St} {x:Operand}:Ap Γ d (.runeStr x) st=(
   match ev Γ st.env x with
    | some (.t (.v (.int _ n)))=>some (True,.t (.v (.string (Utf8.encode n))),st)
    | _=>none):=Eq.trans rfl rfl
@[simp ↓] theorem qHp {d:Nat} {st:St} {K:AV→St→Prop} {x:Operand}:Bd P Γ d (.runeStr x) st K=Ec (Ap Γ d (.runeStr x) st) K ⟨⟩:=Eq.trans rfl rfl
@[simp ↓] theorem qMd {d:Nat} {st:St} {k:Nat} {x:Operand}:Ap Γ d (.len k x) st=(
   (ev Γ st.env x).bind fun a=>if qHr k a then (lenOf st.hp a).map fun (n:Nat)=>(True,.t (.v (.int .i64 (n:Int))),st) else none):=Eq.trans rfl rfl
@[simp ↓] theorem qL7 {d:Nat} {st:St} {K:AV→St→Prop} {k:Nat} {x:Operand}:Bd P Γ d (.len k x) st K=Ec (Ap Γ d (.len k x) st) K ⟨⟩:=Eq.trans rfl rfl
@[simp ↓] theorem qMe {d:Nat} {st:St} {x:Operand}:Ap Γ d (.cap x) st=(
   match ev Γ st.env x with
    | some (.t (.sl _ (some c) _))=>some (True,.t (.v (.int .i64 c)),st)
    | some (.ls _ _ _ (some c))=>some (True,.t (.v (.int .i64 c)),st)
    | _=>none):=Eq.trans rfl rfl
@[simp ↓] theorem qL8 {d:Nat} {st:St} {K:AV→St→Prop} {x:Operand}:Bd P Γ d (.cap x) st K=Ec (Ap Γ d (.cap x) st) K ⟨⟩:=Eq.trans rfl rfl
@[simp ↓] theorem qMf {d:Nat} {st:St} {mx:Bool} {xs:List Operand}:Ap Γ d (.mmx mx xs) st=(
   (evs Γ st.env xs).bind fun as=>(q0R mx as none).map fun r=>(Hn r.1 as=true,.t (.v (.int r.1 r.2)),st)):=Eq.trans rfl rfl
@[simp ↓] theorem qL9 {d:Nat} {st:St} {K:AV→St→Prop} {mx:Bool} {xs:List Operand}:Bd P Γ d (.mmx mx xs) st K=Ec (Ap Γ d (.mmx mx xs) st) K ⟨⟩:=Eq.trans rfl rfl
@[simp ↓] theorem qMg {d:Nat} {st:St} {fz:Bool} {ty:Nat} {s:Nat} {b:Operand} {x:Operand}:Ap Γ d (.app fz ty s b x) st=(
   ((ev Γ st.env x).bind (Br st.hp)).bind fun news=>(ev Γ st.env b).bind fun a =>
    let fin (c0:Prop) (es:List (List T)) (st':St):Option (Prop × AV × St) :=
      let c:Prop:=D5 s news∧c0
      if fz then some (c,.t (.sl es none none),st')
      else some (c∧A4 st'.hp d=none,.ls d 0 es.length none,⟨st'.env,(d,.sl ty s es)::st'.hp⟩)
    match a with
    | .t (.sl es (some c) _)=>fin (D5 s es∧c=es.length∧es.length+news.length≤2147483648∧(fz=true∨news ≠ []∨es=[])) (es++news) st
    | .ls id off len (some c)=>match A4 st.hp id with
      | some (.sl t q es)=>fin (t=ty∧q=s∧c=len∧len+news.length≤2147483648∧(news ≠ []∨len=0)) ((es.drop off).take len++news) st
      | _=>none
    | .ls id 0 len none=>match A4 st.hp id with
      | some (.sl t q es)=>fin (t=ty∧q=s∧len+news.length≤2147483648) (es.take len++news) (st.kill id)
      | _=>none
    | _=>none):=Eq.trans rfl rfl
@[simp ↓] theorem qLA {d:Nat} {st:St} {K:AV→St→Prop} {fz:Bool} {ty:Nat} {s:Nat} {b:Operand} {x:Operand}:Bd P Γ d (.app fz ty s b x) st K=Ec (Ap Γ d (.app fz ty s b x) st) K ⟨⟩:=Eq.trans rfl rfl
@[simp ↓] theorem qM5 {d:Nat} {st:St} {u0:Nat} {s:Nat} {b:Operand} {x:Operand}:Ap Γ d (.appT u0 s b x) st=(
   ((ev Γ st.env x).bind (Br st.hp)).bind fun news=>match ev Γ st.env b with
    | some (.t (.sl es (some c) _))=>some (D5 s news∧D5 s es∧c=es.length∧es.length+news.length≤2147483648,.t (.sl (es++news) none none),st)
    | _=>none):=Eq.trans rfl rfl
@[simp ↓] theorem qKA {d:Nat} {st:St} {K:AV→St→Prop} {u0:Nat} {s:Nat} {b:Operand} {x:Operand}:Bd P Γ d (.appT u0 s b x) st K=Ec (Ap Γ d (.appT u0 s b x) st) K ⟨⟩:=Eq.trans rfl rfl
@[simp ↓] theorem qM6 {d:Nat} {st:St} {b:Operand} {x:Operand}:Ap Γ d (.appB b x) st=(
   ((ev Γ st.env x).bind (Br st.hp)).bind fun news=>match ev Γ st.env b with
    | some (.t (.sl es (some c) _))=>some (D5 1 news∧D5 1 es∧c=es.length∧es.length+news.length≤140737488355328,.t (.sl (es++news) none none),st)
    | _=>none):=Eq.trans rfl rfl
@[simp ↓] theorem qKB {d:Nat} {st:St} {K:AV→St→Prop} {b:Operand} {x:Operand}:Bd P Γ d (.appB b x) st K=Ec (Ap Γ d (.appB b x) st) K ⟨⟩:=Eq.trans rfl rfl
@[simp ↓] theorem qM7 {d:Nat} {st:St} {fz:Bool} {i ty:Nat} {b:Operand} {x:Operand}:Ap Γ d (.appR fz i ty b x) st=(
   match ev Γ st.env x,ev Γ st.env b with
    | some (.t (.sl news _ _)),some (.ls id 0 len none)=>match A4 st.hp i with
      | some (.sl t q es) =>
        if fz then some (id=i∧D5 1 news∧t=ty∧q=1∧len+news.length≤140737488355328,.t (.sl (es.take len++news) none none),st.kill i)
        else some ((id=i∧D5 1 news∧t=ty∧q=1∧len+news.length≤140737488355328)∧A4 (st.kill i).hp d=none,.ls d 0 (es.take len++news).length none,⟨(st.kill i).env,(d,.sl ty 1 (es.take len++news))::(st.kill i).hp⟩)
      | _=>none
    | _,_=>none):=Eq.trans rfl rfl
@[simp ↓] theorem qKC {d:Nat} {st:St} {K:AV→St→Prop} {fz:Bool} {i ty:Nat} {b:Operand} {x:Operand}:Bd P Γ d (.appR fz i ty b x) st K=Ec (Ap Γ d (.appR fz i ty b x) st) K ⟨⟩:=Eq.trans rfl rfl
@[simp ↓] theorem qM8 {d:Nat} {st:St} {ty:Nat} {s:Nat} {zs:List Value} {b:Operand} {n:Operand}:Ap Γ d (.appZ ty s zs b n) st=(
   match ev Γ st.env b,ev Γ st.env n with
    | some (.t (.sl es (some q) _)),some (.t (.v (.int _ m))) =>
      some (A4 st.hp d=none∧0<m∧(D5 s es∧(q:Int)<es.length+m)∧es.length+m≤2147483648,.ls d 0 (es.length+m.toNat) none,⟨st.env,(d,.sl ty s (es++List.replicate m.toNat (zs.map Bo)))::st.hp⟩)
    | _,_=>none):=Eq.trans rfl rfl
@[simp ↓] theorem qKD {d:Nat} {st:St} {K:AV→St→Prop} {ty:Nat} {s:Nat} {zs:List Value} {b:Operand} {n:Operand}:Bd P Γ d (.appZ ty s zs b n) st K=Ec (Ap Γ d (.appZ ty s zs b n) st) K ⟨⟩:=Eq.trans rfl rfl
@[simp ↓] theorem qM9 {d:Nat} {st:St} {ty s:Nat} {x:Operand}:Ap Γ d (.appN ty s x) st=(
   match ev Γ st.env x with
    | some (.t (.sl es _ _))=>some (A4 st.hp d=none∧D5 s es∧es.length≤2147483648,.ls d 0 es.length none,⟨st.env,(d,.sl ty s es)::st.hp⟩)
    | _=>none):=Eq.trans rfl rfl
@[simp ↓] theorem qKE {d:Nat} {st:St} {K:AV→St→Prop} {ty s:Nat} {x:Operand}:Bd P Γ d (.appN ty s x) st K=Ec (Ap Γ d (.appN ty s x) st) K ⟨⟩:=Eq.trans rfl rfl
@[simp ↓] theorem qMh {d:Nat} {st:St} {s:Nat} {x y:Operand}:Ap Γ d (.cpy s x y) st=(
   match ev Γ st.env x with
    | some (.ls id off len _)=>match A4 st.hp id with
      | some (.sl ty q es)=>((ev Γ st.env y).bind (Br st.hp)).map fun news =>
        (q=s∧D5 s news,.t (.v (.int .i64 (min len news.length:Nat))),⟨st.env,Gg id (.sl ty s (es.take off++news.take (min len news.length)++es.drop (off+min len news.length))) st.hp⟩)
      | _=>none
    | _=>none):=Eq.trans rfl rfl
@[simp ↓] theorem qLB {d:Nat} {st:St} {K:AV→St→Prop} {s:Nat} {x y:Operand}:Bd P Γ d (.cpy s x y) st K=Ec (Ap Γ d (.cpy s x y) st) K ⟨⟩:=Eq.trans rfl rfl
@[simp ↓] theorem qLC {d:Nat} {st:St} {s:Nat} {x:Operand} {lo:Option Operand} {hi:Option Operand} {mx:Option Operand}:Ap Γ d (.slice s x lo hi mx) st=(
   (ev Γ st.env x).bind fun a =>
    match a with
    | .t (.v (.string b))=>(Ip Γ st.env lo 0).bind fun l=>(Ip Γ st.env hi b.size).map fun h=>(s=0∧l.1∧h.1∧l.2≤h.2∧h.2≤b.size,.t (.v (.string (b.extract l.2 h.2))),st)
    | .t (.sl es cap nl)=>(Ip Γ st.env lo 0).bind fun l=>(Ip Γ st.env hi es.length).bind fun h=>match mx with
      | none=>some (s ≠ 0∧D5 s es∧l.1∧h.1∧l.2≤h.2∧h.2≤es.length,.t (.sl ((es.drop l.2).take (h.2 - l.2)) (cap.map (· - l.2)) nl),st)
      | some _=>(Ip Γ st.env mx 0).map fun m=>(s ≠ 0∧D5 s es∧l.1∧h.1∧m.1∧l.2≤h.2∧h.2≤m.2∧m.2≤es.length,.t (.sl ((es.drop l.2).take (h.2 - l.2)) (some (m.2 - l.2)) nl),st)
    | .ls id off len cap=>(Ip Γ st.env lo 0).bind fun l=>(Ip Γ st.env hi len).bind fun h=>match A4 st.hp id with
     | some (.sl _ q _)=>match mx with
      | none=>some (s ≠ 0∧q=s∧l.1∧h.1∧l.2≤h.2∧h.2≤len,.ls id (off+l.2) (h.2 - l.2) (cap.map (· - l.2)),st)
      | some _=>(Ip Γ st.env mx 0).map fun m=>(s ≠ 0∧q=s∧l.1∧h.1∧m.1∧l.2≤h.2∧h.2≤m.2∧m.2≤len,.ls id (off+l.2) (h.2 - l.2) (some (m.2 - l.2)),st)
     | _=>none
    | _=>none):=Eq.trans rfl rfl
@[simp ↓] theorem qJ3 {d:Nat} {st:St} {K:AV→St→Prop} {s:Nat} {x:Operand} {lo:Option Operand} {hi:Option Operand} {mx:Option Operand}:Bd P Γ d (.slice s x lo hi mx) st K=Ec (Ap Γ d (.slice s x lo hi mx) st) K ⟨⟩:=Eq.trans rfl rfl
@[simp ↓] theorem qN4 {d:Nat} {st:St} {ty:Nat} {s:Nat} {zs:List Value} {l:Operand} {c:Operand}:Ap Γ d (.mk ty s zs l c) st=(
   match ev Γ st.env l,ev Γ st.env c with
    | some (.t (.v (.int _ n))),some (.t (.v (.int _ m))) =>
      some (A4 st.hp d=none∧0≤n∧n≤m∧m≤2147483648,.ls d 0 n.toNat none,⟨st.env,(d,.sl ty s (List.replicate n.toNat (zs.map Bo)))::st.hp⟩)
    | _,_=>none):=Eq.trans rfl rfl
@[simp ↓] theorem qMA {d:Nat} {st:St} {K:AV→St→Prop} {ty:Nat} {s:Nat} {zs:List Value} {l:Operand} {c:Operand}:Bd P Γ d (.mk ty s zs l c) st K=Ec (Ap Γ d (.mk ty s zs l c) st) K ⟨⟩:=Eq.trans rfl rfl
@[simp ↓] theorem qMi {d:Nat} {st:St} {f:FuncId} {caps:List Operand}:Ap Γ d (.mkf f caps) st=(
   (evs Γ st.env caps).map fun as=>(D2 as=true,(match N8 as with | some ts=>.t (.fn f ts) | none=>.fn f as),st)):=Eq.trans rfl rfl
@[simp ↓] theorem qLD {d:Nat} {st:St} {K:AV→St→Prop} {f:FuncId} {caps:List Operand}:Bd P Γ d (.mkf f caps) st K=Ec (Ap Γ d (.mkf f caps) st) K ⟨⟩:=Eq.trans rfl rfl
@[simp ↓] theorem qMj {d:Nat} {st:St} {x:Operand} {i:Nat}:Ap Γ d (.ext x i) st=(
   match ev Γ st.env x with
    | some (.t (.tup vs))=>(vs[i]?).map fun t=>(True,.t t,st)
    | some (.tu vs)=>(vs[i]?).map fun t=>(True,t,st)
    | _=>none):=Eq.trans rfl rfl
@[simp ↓] theorem qLE {d:Nat} {st:St} {K:AV→St→Prop} {x:Operand} {i:Nat}:Bd P Γ d (.ext x i) st K=Ec (Ap Γ d (.ext x i) st) K ⟨⟩:=Eq.trans rfl rfl
@[simp ↓] theorem qMk {d:Nat} {st:St} {x:Operand}:Ap Γ d (.nck x) st=(
   match ev Γ st.env x with
    | some (.t (.ip cs k))=>some (True,.t (.ip cs k),st)
    | some (.lp id i k)=>some (True,.lp id i k,st)
    | some (.t (.fn f cs))=>some (True,.t (.fn f cs),st)
    | some (.fn f cs)=>some (True,.fn f cs,st)
    | _=>none):=Eq.trans rfl rfl
@[simp ↓] theorem qLF {d:Nat} {st:St} {K:AV→St→Prop} {x:Operand}:Bd P Γ d (.nck x) st K=Ec (Ap Γ d (.nck x) st) K ⟨⟩:=Eq.trans rfl rfl
@[simp ↓] theorem qLG {d:Nat} {st:St}  : Ap Γ d (.mkmap ) st=(
   some (A4 st.hp d=none,.lm d,⟨st.env,(d,.mp [])::st.hp⟩)):=Eq.trans rfl rfl
@[simp ↓] theorem qJ4 {d:Nat} {st:St} {K:AV→St→Prop}  : Bd P Γ d (.mkmap ) st K=Ec (Ap Γ d (.mkmap ) st) K ⟨⟩:=Eq.trans rfl rfl
@[simp ↓] theorem qMl {d:Nat} {st:St} {u0:Nat} {zs:List Value} {l:Operand} {c:Operand}:Ap Γ d (.mkB u0 zs l c) st=(
   match ev Γ st.env l,ev Γ st.env c with
    | some (.t (.v (.int _ n))),some (.t (.v (.int _ m))) =>
      some (A4 st.hp d=none∧0≤n∧n=m∧m≤2147483648,.lb d n.toNat,⟨st.env,(d,.bx (List.replicate n.toNat (.t (Bo (zs.headD undef)))))::st.hp⟩)
    | _,_=>none):=Eq.trans rfl rfl
@[simp ↓] theorem qLH {d:Nat} {st:St} {K:AV→St→Prop} {u0:Nat} {zs:List Value} {l:Operand} {c:Operand}:Bd P Γ d (.mkB u0 zs l c) st K=Ec (Ap Γ d (.mkB u0 zs l c) st) K ⟨⟩:=Eq.trans rfl rfl
@[simp ↓] theorem qMm {d:Nat} {st:St} {ty:Nat} {s:Nat} {zs:List Value} {l:Operand} {c:Operand}:Ap Γ d (.mkE ty s zs l c) st=(
   match ev Γ st.env l,ev Γ st.env c with
    | some (.t (.v (.int _ n))),some (.t (.v (.int _ m))) =>
      some (A4 st.hp d=none∧0≤n∧n≤m∧m≤2147483648,.ls d 0 n.toNat (some m.toNat),⟨st.env,(d,.sl ty s (List.replicate n.toNat (zs.map Bo)))::st.hp⟩)
    | _,_=>none):=Eq.trans rfl rfl
@[simp ↓] theorem qLI {d:Nat} {st:St} {K:AV→St→Prop} {ty:Nat} {s:Nat} {zs:List Value} {l:Operand} {c:Operand}:Bd P Γ d (.mkE ty s zs l c) st K=Ec (Ap Γ d (.mkE ty s zs l c) st) K ⟨⟩:=Eq.trans rfl rfl
@[simp ↓] theorem qMn {d:Nat} {st:St} {x:Operand}:Ap Γ d (.rng x) st=(
   match ev Γ st.env x with
    | some (.t (.v (.string s)))=>some (A4 st.hp d=none,.li d,⟨st.env,(d,.it s 0)::st.hp⟩)
    | _=>none):=Eq.trans rfl rfl
@[simp ↓] theorem qLJ {d:Nat} {st:St} {K:AV→St→Prop} {x:Operand}:Bd P Γ d (.rng x) st K=Ec (Ap Γ d (.rng x) st) K ⟨⟩:=Eq.trans rfl rfl
@[simp ↓] theorem qMo {d:Nat} {st:St} {x:Operand}:Ap Γ d (.nxt x) st=(
   match ev Γ st.env x with
    | some (.li id)=>match A4 st.hp id with
      | some (.it s pos)=>if pos<s.size then some (True,.t (.tup [.v (.bool true),.v (.int .i64 pos),.v (.int .i32 (Utf8.decode s pos).1)]),⟨st.env,Gg id (.it s (pos+(Utf8.decode s pos).2)) st.hp⟩)
        else some (True,.t (.tup [.v (.bool false)]),st)
      | _=>none
    | _=>none):=Eq.trans rfl rfl
@[simp ↓] theorem qLK {d:Nat} {st:St} {K:AV→St→Prop} {x:Operand}:Bd P Γ d (.nxt x) st K=Ec (Ap Γ d (.nxt x) st) K ⟨⟩:=Eq.trans rfl rfl
@[simp ↓] theorem qMB {d:Nat} {st:St} {kt:KT} {zv:Value} {ok:Bool} {m:Operand} {k:Operand}:Ap Γ d (.lkup kt zv ok m k) st=(
   match ev Γ st.env k with
    | some (.t (.v kv)) =>
      let out (es:List (Value × T)):Prop × AV × St :=
        (kt.fits kv=true∧O0 kt es,if ok then .t (.tup [(G1 kv es).getD (I7 zv),.v (.bool (G1 kv es).isSome)]) else .t ((G1 kv es).getD (I7 zv)),st)
      match ev Γ st.env m with
      | some (.t (.mp es))=>some (out es)
      | some (.lm id)=>match A4 st.hp id with
        | some (.mp es)=>some (out es)
        | _=>none
      | _=>none
    | _=>none):=Eq.trans rfl rfl
@[simp ↓] theorem qKF {d:Nat} {st:St} {K:AV→St→Prop} {kt:KT} {zv:Value} {ok:Bool} {m:Operand} {k:Operand}:Bd P Γ d (.lkup kt zv ok m k) st K=Ec (Ap Γ d (.lkup kt zv ok m k) st) K ⟨⟩:=Eq.trans rfl rfl
@[simp ↓] theorem qMp {d:Nat} {st:St} {kt:KT} {m:Operand} {k:Operand} {x:Operand}:Ap Γ d (.mup kt m k x) st=(
   match ev Γ st.env k,ev Γ st.env m with
    | some (.t (.v kv)),some (.lm id)=>match A4 st.hp id with
      | some (.mp es)=>((ev Γ st.env x).bind toT).map fun t=>(kt.fits kv=true∧O0 kt es,.un,⟨st.env,Gg id (.mp (q6O kv t es)) st.hp⟩)
      | _=>none
    | _,_=>none):=Eq.trans rfl rfl
@[simp ↓] theorem qLL {d:Nat} {st:St} {K:AV→St→Prop} {kt:KT} {m:Operand} {k:Operand} {x:Operand}:Bd P Γ d (.mup kt m k x) st K=Ec (Ap Γ d (.mup kt m k x) st) K ⟨⟩:=Eq.trans rfl rfl
@[simp ↓] theorem qMq {d:Nat} {st:St} {id:Nat} {n:Nat} {a:Operand} {x:Operand}:Ap Γ d (.stR id n a x) st=(
   if Ei id (ev Γ st.env a) then ((ev Γ st.env x).bind fun v=>match ev Γ st.env a with
      | some (.lp id i k)=>match A4 st.hp id with
        | some (.sl ty s es)=>(N8 v.cells).map fun ts =>
          (i<es.length∧k+n≤s∧ts.length=n∧Cb ts=true,.un,
            ⟨st.env,Gg id (.sl ty s (es.set i (if k=0∧n=s then ts else (es.getD i []).take k++ts++(es.getD i []).drop (k+n)))) st.hp⟩)
        | some (.bx cs)=>some (i=0∧k+n≤cs.length∧v.cells.length=n∧D2 v.cells=true,.un,⟨st.env,Gg id (.bx (cs.take k++v.cells++cs.drop (k+n))) st.hp⟩)
        | _=>none
      | _=>none) else none):=Eq.trans rfl rfl
@[simp ↓] theorem qLM {d:Nat} {st:St} {K:AV→St→Prop} {id:Nat} {n:Nat} {a:Operand} {x:Operand}:Bd P Γ d (.stR id n a x) st K=Ec (Ap Γ d (.stR id n a x) st) K ⟨⟩:=Eq.trans rfl rfl
@[simp ↓] theorem qMr {d:Nat} {st:St} {id:Nat} {n:Nat} {g:Bool} {a:Operand}:Ap Γ d (.ldR id n g a) st=(
   if Ei id (ev Γ st.env a) then (match ev Γ st.env a with
      | some (.t (.ip cs k))=>some (k+n≤cs.length,.t (K4 g ((cs.drop k).take n)),st)
      | some (.lp id i k)=>match A4 st.hp id with
        | some (.sl _ s es)=>some (i<es.length∧k+n≤s,.t (K4 g (((es.getD i []).drop k).take n)),st)
        | some (.bx cs)=>some (i=0∧k+n≤cs.length,X5 g ((cs.drop k).take n),st)
        | _=>none
      | _=>none) else none):=Eq.trans rfl rfl
@[simp ↓] theorem qLN {d:Nat} {st:St} {K:AV→St→Prop} {id:Nat} {n:Nat} {g:Bool} {a:Operand}:Bd P Γ d (.ldR id n g a) st K=Ec (Ap Γ d (.ldR id n g a) st) K ⟨⟩:=Eq.trans rfl rfl
@[simp ↓] theorem qMs {d:Nat} {st:St} {n:Nat} {g:Bool} {a:Operand}:Ap Γ d (.ldT n g a) st=(
   match ev Γ st.env a with
    | some (.t (.ip cs k))=>some (k+n≤cs.length,.t (K4 g ((cs.drop k).take n)),st)
    | _=>none):=Eq.trans rfl rfl
@[simp ↓] theorem qLO {d:Nat} {st:St} {K:AV→St→Prop} {n:Nat} {g:Bool} {a:Operand}:Bd P Γ d (.ldT n g a) st K=Ec (Ap Γ d (.ldT n g a) st) K ⟨⟩:=Eq.trans rfl rfl
@[simp ↓] theorem qMt {d:Nat} {st:St} {kt:KT} {zv:Value} {ok:Bool} {m:Operand} {k:Operand}:Ap Γ d (.lkT kt zv ok m k) st=(
   match ev Γ st.env k,ev Γ st.env m with
    | some (.t (.v kv)),some (.t (.mp es))=>some (kt.fits kv=true∧O0 kt es,if ok then .t (.tup [(G1 kv es).getD (I7 zv),.v (.bool (G1 kv es).isSome)]) else .t ((G1 kv es).getD (I7 zv)),st)
    | _,_=>none):=Eq.trans rfl rfl
@[simp ↓] theorem qLP {d:Nat} {st:St} {K:AV→St→Prop} {kt:KT} {zv:Value} {ok:Bool} {m:Operand} {k:Operand}:Bd P Γ d (.lkT kt zv ok m k) st K=Ec (Ap Γ d (.lkT kt zv ok m k) st) K ⟨⟩:=Eq.trans rfl rfl
@[simp ↓] theorem qKG {d:Nat} {st:St} {K:AV→St→Prop} {f:FuncId} {args:List Operand}:Bd P Γ d (.call f args) st K=asK (evs Γ st.env args) (fun as=>q5d P Γ st.hp f as (fun res=>K (.t res) st) ⟨⟩) ⟨⟩:=Eq.trans rfl rfl
@[simp ↓] theorem qJ5 {d:Nat} {st:St} {K:AV→St→Prop} {x:Operand} {args:List Operand}:Bd P Γ d (.callv x args) st K=fnK ((ev Γ st.env x).bind qAq) (fun f cs=>asK (evs Γ st.env args) (fun as=>q5d P Γ st.hp f (as++cs) (fun res=>K (.t res) st) ⟨⟩) ⟨⟩) ⟨⟩:=Eq.trans rfl rfl
@[simp ↓] theorem qJ6 {d:Nat} {st:St} {K:AV→St→Prop} {f:FuncId} {args:List Operand} {rs:List Nat} {base:Nat}:Bd P Γ d (.hcall f args rs base) st K=asK (evs Γ st.env args) (fun as=>rs.Nodup∧qAu P Γ st f rs base (Fg rs st.hp) (as.map (Be (fwd rs))) K ⟨⟩) ⟨⟩:=Eq.trans rfl rfl
@[simp ↓] theorem qIE {d:Nat} {st:St} {K:AV→St→Prop} {x:Operand} {args:List Operand} {rs:List Nat} {base:Nat}:Bd P Γ d (.hcallv x args rs base) st K=fnK ((ev Γ st.env x).bind qAq) (fun f cs=>asK (evs Γ st.env args) (fun as=>rs.Nodup∧qAu P Γ st f rs base (Fg rs st.hp) ((as++cs).map (Be (fwd rs))) K ⟨⟩) ⟨⟩) ⟨⟩:=Eq.trans rfl rfl
@[simp ↓] theorem qJ7 {d:Nat} {st:St} {K:AV→St→Prop} {f:FuncId} {args:List Operand} {base:Nat}:Bd P Γ d (.ncall f args base) st K=asK (evs Γ st.env args) (fun as=>qGU P Γ st f base (as.map (Be (fwd []))) K ⟨⟩) ⟨⟩:=Eq.trans rfl rfl
@[simp ↓] theorem qJ8 {d:Nat} {st:St} {K:AV→St→Prop} {f:FuncId} {args:List Operand}:Bd P Γ d (.callT f args) st K=asK (evs Γ st.env args) (fun as=>qAv P Γ f as (fun res=>K (.t res) st) ⟨⟩) ⟨⟩:=Eq.trans rfl rfl
@[simp ↓] theorem qJ9 {d:Nat} {st:St} {K:AV→St→Prop} {f:FuncId} {args:List Operand} {rs:List Nat}:Bd P Γ d (.rcall f args rs) st K=asK (evs Γ st.env args) (fun as=>rs.Nodup∧(∀ i ∈ rs,∃ ty s es,A4 st.hp i=some (.sl ty s es))∧qGV P Γ st f rs (Fg rs st.hp) (as.map (Be (fwd rs))) K ⟨⟩) ⟨⟩:=Eq.trans rfl rfl
@[simp] theorem qN5 {e:List (Nat × AV)} {t:Nat}:ev Γ e (.tmp t)=A4 e t:=Eq.trans rfl rfl
@[simp] theorem qMC {e:List (Nat × AV)} {v:Value}:ev Γ e (.const v)=some (q5P v):=Eq.trans rfl rfl
@[simp] theorem qLQ {e:List (Nat × AV)} {g:Nat}:ev Γ e (.global g)=(Γ g).map fun cs=>.t (.ip cs 0):=Eq.trans rfl rfl
@[simp] theorem qMu {e:List (Nat × AV)} {f:FuncId}:ev Γ e (.func f)=some (.t (.fn f [])):=Eq.trans rfl rfl
@[simp] theorem qN6 {e:List (Nat × AV)} {xs:List Operand}:evs Γ e xs=Ai (xs.map (ev Γ e)):=Eq.trans rfl rfl
@[simp] theorem qKH {e:List (Nat × AV)}:Gt e none=some true:=Eq.trans rfl rfl
@[simp] theorem qKI {e:List (Nat × AV)} {g:Nat} {b:Bool}:Gt e (some (g,b))=match A4 e g with
  | some (.t (.v (.bool p)))=>some (p == b)
  | some .un=>some false
  | _=>none:=Eq.trans rfl rfl
end
attribute [simp] RO.d St.put Ai A4 params Gh.run qEI I9 qBs q6d q0b Aj q5P I7 Bo qEu unV q0R Hn lenOf qHr K4 X5 AV.cells N8 toT q0Q q6N Br Ip Gg qAq St.kill B0 kill1 no0 Hi del Ei qAt q9X Fg fwd bwd Lt q5Y q7E K5 okB Be ren1 ren0 D3 Cj qI8 toN Hr Yu qDJ Bc.sh List.filter_cons
end Go.Lg
namespace Go.Lg
open Go
abbrev tm (n:Nat):Operand:=.tmp n
abbrev ki (n:Int):Operand:=.const (.int .i64 n)
abbrev ku (n:Int):Operand:=.const (.int .u8 n)
abbrev kT:Operand:=.const (.bool true)
abbrev kF:Operand:=.const (.bool false)
abbrev kN:Operand:=.const (.slice none 0 0)
abbrev od (d:Nat) (io:Ce):RO:=⟨some d,io,none,none⟩
abbrev on (io:Ce):RO:=⟨none,io,none,none⟩
abbrev oz (d:Nat) (io:Ce) (r:Nat):RO:=⟨some d,io,none,some r⟩
abbrev oT (d:Nat) (io:Ce) (g:Nat):RO:=⟨some d,io,some (g,true),none⟩
abbrev oF (d:Nat) (io:Ce) (g:Nat):RO:=⟨some d,io,some (g,false),none⟩
abbrev om (d x:Nat):RO:=⟨some d,.mv (.tmp x),none,none⟩
abbrev ld (n x:Nat):Ce:=.load n false (.tmp x)
abbrev lG (n x:Nat):Ce:=.load n true (.tmp x)
abbrev ia (s x i:Nat):Ce:=.iadr s (.tmp x) (.tmp i)
abbrev fa (k x:Nat):Ce:=.fadr k (.tmp x)
abbrev le (k x:Nat):Ce:=.len k (.tmp x)
abbrev ex (x i:Nat):Ce:=.ext (.tmp x) i
abbrev kp (ks rs:List Nat):Gh:=.keep ks rs
end Go.Lg
namespace Go.Lg
open Go Go.RowKit
def Old (w:World) (b:Nat):Prop:=b<w.heap.size
def Rd (P:Program) (t:TypeId) (S:List T→Prop):Prop :=
 ∀ (H:Type) (enc:TypeId × Value→H) (w:World) (held:Bool) (fuel:Nat) (cs:List Value) (x:DataW H × List MemPlace),DataW.trod enc P w 0 (fun _=>true) held fuel t cs=some x→∃ ts,S ts∧F5 w (Old w) ts cs∧∀ u ∈ ts,u.one=true
theorem qEK {w:World} {a:Addr} {v:Value} (h:w.cell? a=some v):a.block<w.heap.size:=by
 unfold World.cell? at h
 split at h
 ·rename_i hb
  have:=Array.getElem?_eq_some_iff.1 hb
  exact this.1
 ·simp at h
variable {P:Program} {t e:TypeId}
theorem F5.one1 {w:World} {X:Nat→Prop} {u:T} {v:Value} (h:TR w X u v):F5 w X [u] [v]:=F5.cons h (F5.nil w X)
theorem Rd.mono {S S':List T→Prop} (h:Rd P t S) (hs:∀ ts,S ts→S' ts):Rd P t S':=fun H enc w held fuel cs x hx=>by
 obtain ⟨ts,h1,h2,h3⟩:=h H enc w held fuel cs x hx
 exact ⟨ts,hs ts h1,h2,h3⟩
theorem qKJ {k:IntKind} (ht:P.underlying t=some (.int k)):Rd P t fun ts=>∃ n,ts=[.v (.int k n)]∧(Lit.int k n).wf=true:=by
 intro H enc w held fuel cs x h
 obtain ⟨n,rfl,_,hw⟩:=DataW.trod_int ht h
 exact ⟨[.v (.int k n)],⟨n,rfl,hw⟩,F5.one1 (.v _),by intro u hu; simp at hu; subst hu; rfl⟩
theorem qEL (ht:P.underlying t=some .bool):Rd P t fun ts=>∃ b,ts=[.v (.bool b)]:=by
 intro H enc w held fuel cs x h
 obtain ⟨b,rfl,_⟩:=DataW.trod_bool ht h
 exact ⟨[.v (.bool b)],⟨b,rfl⟩,F5.one1 (.v _),by intro u hu; simp at hu; subst hu; rfl⟩
theorem qA4 {α:Type} {Q:Nat→α→Prop}:∀ (n:Nat),(∀ i,i<n→∃ a,Q i a)→∃ l:List α,l.length=n∧∀ i a,l[i]? = some a→Q i a
 | 0,_=>⟨[],rfl,fun i a h=>by simp at h⟩
 | n+1,h=>by
  obtain ⟨l,hl,hq⟩:=qA4 n fun i hi=>h i (by omega)
  obtain ⟨a,ha⟩:=h n (by omega)
  refine ⟨l++[a],by simp [hl],fun i b hb=>?_⟩
  by_cases hi:i<n
  ·rw [List.getElem?_append_left (by omega)] at hb; exact hq i b hb
  ·have:i=n:=by
    have:=(List.getElem?_eq_some_iff.1 hb).1
    simp at this; omega
   subst this
   rw [List.getElem?_append_right (by omega),hl] at hb
   simp at hb; subst hb; exact ha
theorem qBw {s:Nat} {S:List T→Prop} (ht:P.underlying t=some (.slice e)) (hc:P.cellsOf e=s) (hs:0<s) (he:Rd P e S) :
  Rd P t fun ts=>∃ es cap nl,ts=[.sl es cap nl]∧es.length≤maxLen∧∀ x ∈ es,S x∧x.length=s:=by
 intro H enc w held fuel cs x h
 rcases DataW.trod_slice ht h with ⟨rfl,_⟩ | ⟨a,len,cap,qMI,rest,n,rfl,rfl,_,_,hlc,hcm,hel,hat,_,_⟩
 ·exact ⟨[.sl [] (some 0) (some true)],⟨[],_,_,rfl,by simp,by simp⟩,F5.one1 (.nil _ _ none 0 (by rintro n ⟨⟩; rfl) (by rintro b ⟨⟩; rfl) (fun _=>rfl)),by intro u hu; simp at hu; subst hu; rfl⟩
 by_cases h0:len=0
 ·subst h0
  exact ⟨[.sl [] none none],⟨[],_,_,rfl,by simp,by simp⟩,F5.one1 (.nil _ _ (some a) cap (fun _ h=>by cases h) (fun _ h=>by cases h) (fun h=>by cases h)),by intro u hu; simp at hu; subst hu; rfl⟩
 obtain ⟨b,off,spot⟩:=a
 obtain ⟨hsp,hb⟩:spot=none∧b<w.heap.size:=by
  have h1:=hat 0 (by omega)
  rw [List.getElem?_eq_getElem (by omega),Option.bind_eq_some_iff] at h1
  obtain ⟨cs',h2,h3⟩:=h1
  unfold World.cells? at h2
  rw [if_pos (Nat.zero_le _)] at h2
  have hl:=mapM_some_length h2
  simp only [List.length_range,hc] at hl
  have h4:=mapM_some_get h2 0 0 (by simp [hc,hs])
  rw [List.getElem?_eq_getElem (by omega)] at h4
  simp [Addr.add] at h4
  exact ⟨World.cell?_spot h4,qEK h4⟩
 subst hsp
 have hadd:∀ k,(Addr.mk b off none).add k=⟨b,off+k,none⟩:=fun k=>by
  unfold Addr.add
  split
  ·rename_i h; subst h; rfl
  ·rfl
 have hadd2:∀ o k,(Addr.mk b o none).add k=⟨b,o+k,none⟩:=fun o k=>by
  unfold Addr.add
  split
  ·rename_i h; subst h; rfl
  ·rfl
 have hone:∀ i,i<len→∃ el:List T,S el∧el.length=s∧(∀ u ∈ el,u.one=true)∧∀ k,k<s→∃ v,w.cell? ⟨b,off+i*s+k,none⟩=some v∧∀ u,el[k]? = some u→TR w (Old w) u v:=fun i hi=>by
  have h1:=hat i hi
  rw [List.getElem?_eq_getElem (by omega),Option.bind_eq_some_iff] at h1
  obtain ⟨cs',h2,h3⟩:=h1
  obtain ⟨el,hS,htr,ho⟩:=he H enc w held n cs' _ h3
  unfold World.cells? at h2
  rw [if_pos (Nat.zero_le _)] at h2
  have hl:=mapM_some_length h2
  simp only [List.length_range,hc] at hl
  refine ⟨el,hS,by rw [htr.1,hl],ho,fun k hk=>?_⟩
  have h4:=mapM_some_get h2 k k (by simp [hc,hk])
  rw [List.getElem?_eq_getElem (by omega),hadd,hadd2,hc] at h4
  exact ⟨cs'[k],h4,fun u hu=>htr.2 k u _ hu (List.getElem?_eq_getElem (by omega))⟩
 obtain ⟨es,hlen,hes⟩:=qA4 len hone
 have hget:∀ i (hi:i<es.length),es[i]? = some es[i]:=fun i hi=>List.getElem?_eq_getElem hi
 refine ⟨[.sl es none none],⟨es,none,none,rfl,by omega,fun x hx=>?_⟩,?_,by intro u hu; simp at hu; subst hu; rfl⟩
 ·obtain ⟨i,hi,rfl⟩:=List.getElem_of_mem hx
  have:=hes i _ (hget i hi)
  exact ⟨this.1,this.2.1⟩
 ·rw [← hlen]
  refine F5.one1 (.sl es none none s b off cap (fun i k=>(w.cell? ⟨b,off+i*s+k,none⟩).getD .nilFunc) ?_ ?_ ?_ ?_ hb (by omega) (fun _ h=>by cases h) (fun _ h=>by cases h))
  ·intro i k hi hk
   obtain ⟨v,hv,_⟩:=(hes i _ (hget i hi)).2.2.2 k hk
   simp [hv]
  ·intro i el hi
   exact (hes i _ hi).2.1
  ·intro i k el u hi hu
   have hq:=hes i _ hi
   have hk:k<s:=by rw [← hq.2.1]; exact (List.getElem?_eq_some_iff.1 hu).1
   obtain ⟨v,hv,hr⟩:=hq.2.2.2 k hk
   simp only [hv,Option.getD_some]
   exact hr u hu
  ·intro i k el u hi hu
   exact (hes i _ hi).2.2.1 u (List.mem_of_getElem? hu)
def q7I:List (Nat × (List T→Prop))→List T→Prop
 | [],ts=>ts=[]
 | (_,S)::l,ts=>∃ a b,ts=a++b∧S a∧q7I l b
inductive qGa (P:Program):Nat→List Field→List (Nat × (List T→Prop))→Prop
 | nil (o:Nat):qGa P o [] []
 | cons {o n:Nat} {f:Field} {S:List T→Prop} {fl:List Field} {l:List (Nat × (List T→Prop))} (h1:f.offset=o) (h2:P.cellsOf f.type=n) (h3:Rd P f.type S) (h:qGa P (o+n) fl l):qGa P o (f::fl) ((n,S)::l)
def qBx:List (Nat × (List T→Prop))→Nat
 | []=>0
 | (n,_)::l=>n+qBx l
theorem qA5 {H:Type} {enc:TypeId × Value→H} {w:World} {held:Bool} {m:Nat} {cs:List Value}:∀ {fl:List Field} {l:List (Nat × (List T→Prop))} {o:Nat},qGa P o fl l→(∀ f ∈ fl,∃ x,DataW.trod enc P w 0 (fun _=>true) held m f.type ((cs.drop f.offset).take (P.cellsOf f.type))=some x)→cs.length=o+qBx l →
  ∃ ts,q7I l ts∧F5 w (Old w) ts (cs.drop o)∧∀ u ∈ ts,u.one=true
 | _,_,o,.nil _,_,hl=>⟨[],rfl,by rw [List.drop_of_length_le (by simp [qBx] at hl; omega)]; exact F5.nil w _,by simp⟩
 | _,_,o,.cons (n:=n) (f:=f) (S:=S) (l:=l) h1 h2 h3 h,hx,hl=>by
  obtain ⟨x,hx0⟩:=hx f List.mem_cons_self
  rw [h1,h2] at hx0
  obtain ⟨a,ha,hta,hoa⟩:=h3 H enc w held m _ _ hx0
  obtain ⟨b,hb,htb,hob⟩:=qA5 h (fun g hg=>hx g (List.mem_cons_of_mem _ hg)) (by simp only [qBx] at hl; omega)
  refine ⟨a++b,⟨a,b,rfl,ha,hb⟩,?_,fun u hu=>?_⟩
  ·have:=hta.append htb
   rwa [← List.drop_drop,List.take_append_drop] at this
  ·rcases List.mem_append.1 hu with hu | hu
   ·exact hoa u hu
   ·exact hob u hu
theorem qA6 {fs:Array Field} {l:List (Nat × (List T→Prop))} (ht:P.underlying t=some (.struct fs)) (hc:P.cellsOf t=qBx l) (hf:qGa P 0 fs.toList l):Rd P t (q7I l):=by
 intro H enc w held fuel cs x h
 obtain ⟨xs,m,rfl,rfl,hcl,hn,hat⟩:=DataW.trod_struct ht h
 have:=qA5 (enc:=enc) (w:=w) (held:=held) (m:=m) (cs:=cs) hf (fun f hf'=>by
  obtain ⟨i,hi,rfl⟩:=List.getElem_of_mem hf'
  have:=hat i fs.toList[i] (by simp at hi; simp [hi])
  rw [List.getElem?_eq_getElem (by simp at hi; omega)] at this
  exact ⟨_,this⟩) (by omega)
 simpa using this
theorem qBy {H:Type} {enc:TypeId × Value→H} {w:World} {held:Bool} {m s:Nat} {S:List T→Prop} (he:Rd P e S) (hs:P.cellsOf e=s):∀ (n:Nat) (cs:List Value),(∀ i,i<n→∃ x,DataW.trod enc P w 0 (fun _=>true) held m e ((cs.drop (i*s)).take s)=some x)→cs.length=n*s →
  ∃ ts,q7I (List.replicate n (s,S)) ts∧F5 w (Old w) ts cs∧∀ u ∈ ts,u.one=true
 | 0,cs,_,hl=>⟨[],rfl,by have h0:cs=[]:=List.eq_nil_of_length_eq_zero (by simpa using hl); rw [h0]; exact F5.nil w _,by simp⟩
 | n+1,cs,hx,hl=>by
  obtain ⟨x,hx0⟩:=hx 0 (by omega)
  simp only [Nat.zero_mul,List.drop_zero] at hx0
  obtain ⟨a,ha,hta,hoa⟩:=he H enc w held m _ _ hx0
  have hl':cs.length=n*s+s:=by rw [hl,Nat.add_mul,Nat.one_mul]
  obtain ⟨b,hb,htb,hob⟩:=qBy he hs n (cs.drop s) (fun i hi=>by
   obtain ⟨x,hx1⟩:=hx (i+1) (by omega)
   rw [Nat.add_mul,Nat.one_mul,Nat.add_comm (i*s)] at hx1
   exact ⟨x,by rw [List.drop_drop]; exact hx1⟩) (by simp; omega)
  refine ⟨a++b,⟨a,b,rfl,ha,hb⟩,?_,fun u hu=>?_⟩
  ·have:=hta.append htb
   rwa [List.take_append_drop] at this
  ·rcases List.mem_append.1 hu with hu | hu
   ·exact hoa u hu
   ·exact hob u hu
theorem q8a {n s:Nat} {S:List T→Prop} (ht:P.underlying t=some (.array n e)) (hs:P.cellsOf e=s) (hc:P.cellsOf t=n*s) (he:Rd P e S):Rd P t (q7I (List.replicate n (s,S))):=by
 intro H enc w held fuel cs x h
 obtain ⟨xs,m,rfl,rfl,hcl,hn,hat⟩:=DataW.trod_array ht h
 refine qBy (enc:=enc) (held:=held) (m:=m) he hs n cs (fun i hi=>?_) (by omega)
 have:=hat i hi
 rw [hs,List.getElem?_eq_getElem (by omega)] at this
 exact ⟨_,this⟩
theorem qKK {w:World} {X:Nat→Prop} {ts:List T} {cs:Array Value} (h:F5 w X ts cs.toList) (ho:∀ u ∈ ts,u.one=true):TR w X (.agg ts) (.agg cs):=by
 have:cs=cs.toList.toArray:=by simp
 rw [this]
 exact .agg ts cs.toList h.1 (fun k u hk=>ho u (List.mem_of_getElem? hk)) h.2
theorem qDM {H:Type} {enc:TypeId × Value→H} {w:World} {base:Nat} {sp:Nat→Bool} {held:Bool} {fuel:Nat} {n:Nat} {q:TypeId} {k:IntKind} {cs:List Value} {l:List (Int × Int)} {p:List MemPlace}
  (ht:P.underlying t=some (.array n e)) (he:P.underlying e=some (.array 2 q)) (hq:P.underlying q=some (.int k)) (hcq:P.cellsOf q=1) (hce:P.cellsOf e=2) (hct:P.cellsOf t=n*2)
  (h:DataW.trod enc P w base sp held fuel t cs=some (.agg (l.map fun x=>.agg [.lit (.int k x.1),.lit (.int k x.2)]),p)):cs=l.flatMap fun x=>[.int k x.1,.int k x.2]:=by
 obtain ⟨xs,m,rfl,hx,hcl,hn,hat⟩:=DataW.trod_array ht h
 simp only [Prod.mk.injEq,DataW.agg.injEq] at hx
 have hxs:=hx.1
 have hl:l.length=n:=by have:=congrArg List.length hxs; simp at this; omega
 have hi:∀ i (h:i<l.length),(cs.drop (i*2)).take 2=[.int k l[i].1,.int k l[i].2]:=fun i hi=>by
  have h1:=hat i (by omega)
  rw [hce,List.getElem?_eq_getElem (by omega)] at h1
  have h2:xs[i].1=.agg [.lit (.int k l[i].1),.lit (.int k l[i].2)]:=by
   have:=congrArg (fun z=>z[i]?) hxs
   simp only [List.getElem?_map,List.getElem?_eq_getElem hi,List.getElem?_eq_getElem (show i<xs.length by omega),Option.map_some,Option.some.injEq] at this
   exact this.symm
  have h3:xs[i]=(.agg [.lit (.int k l[i].1),.lit (.int k l[i].2)],xs[i].2):=by rw [← h2]
  rw [h3] at h1
  exact Lib.cells_of_tab (zs:=[l[i].1,l[i].2]) he hq hcq hce h1
 have hcl':cs.length=l.length*2:=by omega
 clear h hat hx hxs hcl hn hct ht hl
 induction l generalizing cs with
 | nil=>exact List.eq_nil_of_length_eq_zero (by simpa using hcl')
 | cons x l ih =>
  have h0:=hi 0 (by simp)
  simp only [Nat.zero_mul,List.drop_zero,List.getElem_cons_zero] at h0
  have hr:=ih (cs:=cs.drop 2) (fun i h=>by
   have:=hi (i+1) (by simpa using h)
   rw [Nat.add_mul,Nat.one_mul,Nat.add_comm (i*2)] at this
   simpa [List.drop_drop] using this) (by simp at hcl' ⊢; omega)
  rw [List.flatMap_cons,← h0,← hr,List.take_append_drop]
theorem q3z {H:Type} {enc:TypeId × Value→H} {W W':World} (hl:laidOutB P=true) (hb:Below W.heap.size W W'):∀ {ts:List TypeId} {vs:List Value} {ds:List (DataW H)} {p:List MemPlace},(∀ t ∈ ts,P.readableRec t=true∧t<P.types.size)→DataW.TrodAll enc P W 0 (fun _=>true) true ts vs ds p→(∀ x ∈ p,x.block<W.heap.size)→DataW.TrodAll enc P W' 0 (fun b=>decide (b<W.heap.size)) true ts vs ds p
 | [],[],[],_,_,h,_=>h
 | [],[],_::_,_,_,h,_=>h.elim
 | [],_::_,_,_,_,h,_=>by cases h
 | _::_,[],_,_,_,h,_=>by cases h
 | _::_,_::_,[],_,_,h,_=>by cases h
 | t::ts,v::vs,d::ds,_,hr,h,hlt=>by
  obtain ⟨p1,q1,h1,h2,rfl⟩:=h
  have hr0:=hr t List.mem_cons_self
  exact ⟨p1,q1,Below.trod hl hr0.1 hr0.2 h1 hb (fun x hx=>hlt x (List.mem_append_left _ hx)),q3z hl hb (fun t' ht=>hr t' (List.mem_cons_of_mem _ ht)) h2 (fun x hx=>hlt x (List.mem_append_right _ hx)),rfl⟩
theorem qMD {H:Type} {enc:TypeId × Value→H} {f:Func} {s:ChangeSpec} {W W':World} {args:Array Value} {ds gs:List (DataW H)} {before:List MemPlace} {tb:TypeId}
  (hl:laidOutB P=true) (hr:∀ t ∈ f.params.toList,P.readableRec t=true∧t<P.types.size) (hv:s.vars=[]) (hres:f.resultTypes=#[tb]) (htb:P.underlying tb=some .bool)
  (hW:DataW.Whole enc P f.params.toList s.vars false W args.toList ds gs before) (hfn:(s.fn H (ds++gs)).results=[.lit (.bool true)]) (hfa:(s.fn H (ds++gs)).args=ds) (hfv:(s.fn H (ds++gs)).vars=[]) (hb:Below W.heap.size W W') :
  s.post enc P f false true false false W args (.bool true) W':=by
 have hW':=hW
 obtain ⟨p,q,hA,hV,rfl,_,_⟩:=hW
 have hlt:∀ x ∈ p++q,x.block<W.heap.size:=fun x hx=>by simpa using hW'.lt x hx
 have hargs:=q3z hl hb hr hA (fun x hx=>hlt x (List.mem_append_left _ hx))
 rw [hv] at hV
 obtain ⟨rfl,rfl⟩:=ChangeShapes.trodVars_none hV
 refine ⟨ds,[],p++[],[],p,[],hW',?_,?_,?_,hb.frame _,fun h=>by cases h⟩
 ·rw [hfn,hres]
  exact ChangeShapes.trodAll_mk1 (RowKit.shut_bool htb _)
 ·rw [hfa]; exact hargs
 ·rw [hv,hfv]; rfl
theorem qLR {Γ:Tables} {f:FuncId} {N n:Nat} {ic:IC} {rvs:List RV} {args:List T} {W:World} {vs:List Value} (hc:Aw P f ic N n rvs=true) (h:Ae P Γ f args (.v (.bool true))) (hg:Gl Γ W (Old W)) (ha:F5 W (Old W) args vs) :
  Calls P f vs.toArray W fun e W'=>e=.returned (.bool true)∧Below W.heap.size W W':=by
 rcases h W (Old W) vs hg (fun b hb=>hb) ha with ⟨_,h2⟩ | ⟨v,h1,_⟩
 ·refine h2.mono fun e W' ⟨v,he,hb,hr⟩=>?_
  cases hr
  exact ⟨he,hb⟩
 ·rw [q2e hc] at h1
  cases h1
end Go.Lg
