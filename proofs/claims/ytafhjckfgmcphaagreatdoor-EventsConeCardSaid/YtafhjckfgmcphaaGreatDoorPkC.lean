/- THE LOGIC, part 24: regions whose order is drawn. Conditions: none. -/
import Derived.Test.YtafhjckfgmcphaaGreatDoorPkB
import Derived.Orders
import Derived.Scope
import Derived.ChangeArms
import Derived.DataReads
import Derived.OpenShut
import Derived.Carry
import Derived.Handed
import Derived.Lib.LaidTab
set_option linter.unusedSimpArgs false
set_option linter.unusedVariables false
namespace Go.Lg
open Go
def RO.reads (ro:RO):List Nat:=(ro.op.opds.filterMap fun | .tmp t=>some t|_=>none)++(ro.guard.map (·.1)).toList
def qEu (x y:RO):Bool:=match x.op,y.op with
 | .stR i _ _ _,.stR j _ _ _ | .stR i _ _ _,.ldR j _ _ _ | .ldR i _ _ _,.stR j _ _ _=>i != j
 | .stR _ _ _ _,.iadr _ _ _ | .iadr _ _ _,.stR _ _ _ _=>true
 | .stR i _ _ _,io=>io.isNew&&i != y.d
 | io,.stR j _ _ _=>io.isNew&&j != x.d
 | io,.ldR j _ _ _=>io.isNew&&j != x.d
 | io,jo=>io.isNew&&jo.isNew&&x.d != y.d
def Bt.isN:Bt->Bool
 | .ncall _ _ _=>true
 | io=>io.isNew
def qEv (x y:RO):Bool:=match x.op,y.op,x.dst,y.dst with
 | .mv (.tmp a),.app _ _ _ b v,some dx,some dy=>x.guard.isNone&&y.guard.isNone&&(match b with | .tmp t=>t != dx|_=>true)&&(match v with | .tmp t=>t != dx|_=>true)&&dy != a&&dy != dx
 | .app _ _ _ b v,.mv (.tmp a),some dy,some dx=>x.guard.isNone&&y.guard.isNone&&(match b with | .tmp t=>t != dx|_=>true)&&(match v with | .tmp t=>t != dx|_=>true)&&dy != a&&dy != dx
 | _,_,_,_=>false
def nt (o:Operand) (d:Nat):Bool:=match o with | .tmp t=>t != d|_=>true
def qEw (x y:RO):Bool:=match x.op,y.op,x.dst,y.dst with
 | .appR true _ _ b v,.ldT _ _ (.tmp a),some dx,some dy=>x.guard.isNone&&y.guard.isNone&&nt b dy&&nt v dy&&a != dx&&dx != dy
 | .ldT _ _ (.tmp a),.appR true _ _ b v,some dy,some dx=>x.guard.isNone&&y.guard.isNone&&nt b dy&&nt v dy&&a != dx&&dx != dy
 | .appR true i _ b v,.alloc false _,some dx,some dy=>x.guard.isNone&&y.guard.isNone&&nt b dy&&nt v dy&&dx != dy&&y.d != i
 | .alloc false _,.appR true i _ b v,some dy,some dx=>x.guard.isNone&&y.guard.isNone&&nt b dy&&nt v dy&&dx != dy&&x.d != i
 | _,_,_,_=>false
def qEx (x y:RO):Bool:=match x.op,y.op,x.dst,y.dst with
 | .app false _ _ b v,.fadr _ (.tmp a),some dx,some dy=>x.guard.isNone&&y.guard.isNone&&nt b dy&&nt v dy&&a != dx&&dx != dy
 | .app false _ _ b v,.ldR j _ false (.tmp a),some dx,some dy=>x.guard.isNone&&y.guard.isNone&&nt b dy&&nt v dy&&a != dx&&dx != dy&&j != x.d
 | .app false _ _ b v,.bsl true _ _ ps,some dx,some dy=>x.guard.isNone&&y.guard.isNone&&nt b dy&&nt v dy&&ps.all (nt · dx)&&dx != dy
 | _,_,_,_=>false
def qEy (x y:RO):Bool:=match y.op,x.dst,y.dst with
 | .app false _ _ (.tmp b) v,some dx,some dy=>x.guard.isNone&&y.guard.isNone&&b != dx&&nt v dx&&dx != dy&&x.op.opds.all (nt · dy) &&
  (match x.op with | .mvP _ | .nckP _ | .fadP _ _ | .ldP _ _ | .iadT _ _ _ | .ldT _ _ _=>true|_=>false)
 | _,_,_=>false
def qBj (x y:RO):Bool:=qEv x y||qEw x y||qEx x y||qEy x y ||
 (x.op.kd<=2&&y.op.kd<=2&&(x.op.kd==0||y.op.kd==0||(x.op.kd<=1&&y.op.kd<=1)||(x.op.kd<=1&&y.op.isN)||(x.op.isN&&y.op.isN)||qEu x y)) &&
 (match x.dst with|some d=>!y.reads.contains d&&y.dst != some d|none=>true) &&
 (match y.dst with|some d=>!x.reads.contains d|none=>true)
def Ey (a b:St):Prop:=(∀ k,A0 b.env k=A0 a.env k)/\∀ k,A0 b.hp k=A0 a.hp k
theorem Ey.rfl' {a:St}:Ey a a:=⟨fun _=>rfl,fun _=>rfl⟩
theorem Ey.trans {a b c:St} (h:Ey a b) (h':Ey b c):Ey a c:=⟨fun k=>(h'.1 k).trans (h.1 k),fun k=>(h'.2 k).trans (h.2 k)⟩
section
variable {P:Program} {Γ:Tables} {d:Nat} {io:Bt} {e e':List (Nat×AV)} {h h' h1 h2:List (Nat×Aw)} {c:Prop} {r r1 r2:AV} {s st st' st1 st2 s2:St} {ro x y:RO}
theorem Sim.alike {w0:World} {B:Nat} {κ:D7} {X:Nat->Prop} {μ:D7} {tm:Array Value} {w:World} (hs:Sim w0 B κ X μ st tm w) (ha:Ey st st'):Sim w0 B κ X μ st' tm w:=by
 have e:st'.sh=st.sh:=funext fun t=>by simp only[St.sh,ha.2]
 refine⟨fun t a ht=>?_,fun id r hr=>?_,?_,?_,?_,hs.kbig,hs.xlt,hs.os,hs.tape,hs.output,hs.size,hs.fr⟩
 ·rw[e];exact hs.env t a (by rw[<- ha.1 t];exact ht)
 ·rw[e];exact hs.reg id r (by rw[<- ha.2];exact hr)
 ·rw[e];exact hs.inj
 ·rw[e];exact hs.loc
 ·rw[e];exact hs.kap
theorem q55 (hk:io.kd<=2) (hx:∀ o∈io.opds,ev Γ e' o=ev Γ e o) (hs:Fg P Γ d io ⟨e,h⟩ r s):s.env=e/\Fg P Γ d io ⟨e',h⟩ r ⟨e',s.hp⟩:=by
 have gen:(∃ c,Ak Γ d io ⟨e,h⟩=some (c,r,s)/\c)->s.env=e/\∃ c,Ak Γ d io ⟨e',h⟩=some (c,r,⟨e',s.hp⟩)/\c:=by
  rintro⟨c,hs,hc⟩
  refine⟨?_,c,?_,hc⟩
  ·have:=q6U (Γ:=Γ) (d:=d) (e:=e) (e':=e) (h:=h) hk (fun _ _=>rfl)
   rw[hs]at this
   simp only[xql,xqa,xqd]at this
   rw[this.2.2]
  ·rw[q6U hk hx,hs];rfl
 cases io with
 | call f args =>
  obtain⟨as,res,h1,h2,h3,rfl⟩:=hs
  exact⟨rfl,as,res,(Gx hx).trans h1,h2,h3,rfl⟩
 | callv a args =>
  obtain⟨b,f,cs,as,res,h0,h1,h2,h3,h4,rfl⟩:=hs
  simp only[Bt.opds,xqv,forall_eq_or_imp]at hx
  exact⟨rfl,b,f,cs,as,res,hx.1.trans h0,h1,(Gx hx.2).trans h2,h3,h4,rfl⟩
 | hcall f args rs base=>simp[Bt.kd]at hk
 | hcallv x args rs base=>simp[Bt.kd]at hk
 | hcallW f args base=>simp[Bt.kd]at hk
 | hcallvW x args base=>simp[Bt.kd]at hk
 | hcallB x args base=>simp[Bt.kd]at hk
 | ncall f args base =>
  obtain⟨as,res,hp',h1,h2,h3,h4,rfl⟩:=hs
  exact⟨rfl,as,res,hp',(Gx hx).trans h1,h2,h3,h4,rfl⟩
 | callT f args =>
  obtain⟨as,ts,res,h1,h2,h3,h4,rfl⟩:=hs
  exact⟨rfl,as,ts,res,(Gx hx).trans h1,h2,h3,h4,rfl⟩
 | rcall f args rs =>
  obtain⟨as,res,h1,h2,h3,h4,h5,rfl⟩:=hs
  exact⟨rfl,as,res,(Gx hx).trans h1,h2,h3,h4,h5,rfl⟩
 | _=>exact gen hs
theorem q3Q (hk:io.kd<=1) (hs:Fg P Γ d io st r s):s=st:=by
 obtain⟨e,h⟩:=st
 have gen:(∃ c,Ak Γ d io ⟨e,h⟩=some (c,r,s)/\c)->s=⟨e,h⟩:=by
  rintro⟨c,hs,hc⟩
  have:=qEs (Γ:=Γ) (d:=d) (e:=e) (h:=h) hk
  rw[hs]at this
  simp only[xql,xqa,xqd]at this
  exact this.2.2
 cases io with
 | call f args=>obtain⟨as,res,h1,h2,h3,h4⟩:=hs;exact h4
 | callv a args=>obtain⟨b,f,cs,as,res,h0,h1,h2,h3,h4,h5⟩:=hs;exact h5
 | hcall f args rs base=>simp[Bt.kd]at hk
 | hcallv x args rs base=>simp[Bt.kd]at hk
 | hcallW f args base=>simp[Bt.kd]at hk
 | hcallvW x args base=>simp[Bt.kd]at hk
 | hcallB x args base=>simp[Bt.kd]at hk
 | ncall f args base=>simp[Bt.kd]at hk
 | callT f args=>obtain⟨as,ts,res,h1,h2,h3,h4,h5⟩:=hs;exact h5
 | rcall f args rs=>obtain⟨as,res,h1,h2,h3,h4,h5,h6⟩:=hs;exact h6
 | _=>exact gen hs
theorem qEz (hk:io.kd=0) (hs:Fg P Γ d io ⟨e,h⟩ r s):Fg P Γ d io ⟨e,h'⟩ r ⟨e,h'⟩:=by
 have gen:(∃ c,Ak Γ d io ⟨e,h⟩=some (c,r,s)/\c)->∃ c,Ak Γ d io ⟨e,h'⟩=some (c,r,⟨e,h'⟩)/\c:=by
  rintro⟨c,hs,hc⟩
  refine⟨c,?_,hc⟩
  rw[qEt (h:=h) hk,hs];rfl
 cases io with
 | call f args=>simp[Bt.kd]at hk
 | callv a args=>simp[Bt.kd]at hk
 | hcall f args rs base=>simp[Bt.kd]at hk
 | hcallv x args rs base=>simp[Bt.kd]at hk
 | hcallW f args base=>simp[Bt.kd]at hk
 | hcallvW x args base=>simp[Bt.kd]at hk
 | hcallB x args base=>simp[Bt.kd]at hk
 | ncall f args base=>simp[Bt.kd]at hk
 | callT f args=>obtain⟨as,ts,res,h1,h2,h3,h4,h5⟩:=hs;exact⟨as,ts,res,h1,h2,h3,h4,rfl⟩
 | rcall f args rs=>simp[Bt.kd]at hk
 | _=>exact gen hs
def Bi (P:Program) (Γ:Tables) (ro:RO) (st:St) (r:AV) (h1:List (Nat×Aw)):Prop :=
 (G7 st.env ro.guard=some true/\Fg P Γ ro.d ro.op st r ⟨st.env,h1⟩)\/(G7 st.env ro.guard=some false/\r=.un/\h1=st.hp)
theorem qCm (hk:ro.op.kd<=2) (hs:Ei P Γ ro st s):∃ r h1,Bi P Γ ro st r h1/\s=St.put ⟨st.env,h1⟩ ro.dst r:=by
 rcases hs with⟨hw,r,st1,hx,rfl⟩|⟨hw,rfl⟩
 ·have h1:=(q55 (e':=st.env) hk (fun _ _=>rfl) hx).1
  obtain⟨e1,hp1⟩:=st1
  simp only at h1;subst h1
  exact⟨r,hp1,.inl ⟨hw,hx⟩,rfl⟩
 ·exact⟨.un,st.hp,.inr ⟨hw,rfl,rfl⟩,rfl⟩
theorem Bi.step (hs:Bi P Γ ro st r h1):Ei P Γ ro st (St.put ⟨st.env,h1⟩ ro.dst r):=by
 rcases hs with⟨hw,hx⟩|⟨hw,rfl,rfl⟩
 ·exact .inl ⟨hw,r,_,hx,rfl⟩
 ·exact .inr ⟨hw,rfl⟩
theorem qF0 (hx:∀ t∈ro.reads,A0 e' t=A0 e t):∀ o∈ro.op.opds,ev Γ e' o=ev Γ e o:=by
 intro o ho
 cases o with
 | tmp t=>exact hx t (List.mem_append_left _ (List.mem_filterMap.2 ⟨_,ho,rfl⟩))
 | _=>rfl
theorem qBk (hx:∀ t∈ro.reads,A0 e' t=A0 e t):G7 e' ro.guard=G7 e ro.guard:=by
 cases hg:ro.guard with
 | none=>rfl
 | some gb=>simp only[G7,hx gb.1 (List.mem_append_right _ (by simp[hg]))]
theorem Bi.env (hk:ro.op.kd<=2) (hx:∀ t∈ro.reads,A0 e' t=A0 e t) (hs:Bi P Γ ro ⟨e,h⟩ r h1):Bi P Γ ro ⟨e',h⟩ r h1:=by
 have hw:G7 e' ro.guard=G7 e ro.guard:=qBk hx
 rcases hs with⟨hw',ha⟩|⟨hw',rfl,rfl⟩
 ·exact .inl ⟨hw.trans hw',(q55 hk (qF0 hx) ha).2⟩
 ·exact .inr ⟨hw.trans hw',rfl,rfl⟩
theorem Bi.same (hk:ro.op.kd<=1) (hs:Bi P Γ ro ⟨e,h⟩ r h1):h1=h:=by
 rcases hs with⟨hw',ha⟩|⟨hw',rfl,rfl⟩
 ·have:=q3Q hk ha
  simpa using this
 ·rfl
theorem Bi.hp (hk:ro.op.kd=0) (hs:Bi P Γ ro ⟨e,h⟩ r h1):Bi P Γ ro ⟨e,h'⟩ r h':=by
 rcases hs with⟨hw',ha⟩|⟨hw',rfl,rfl⟩
 ·exact .inl ⟨hw',qEz hk ha⟩
 ·exact .inr ⟨hw',rfl,rfl⟩
theorem It {α β:Type} {f g:α->Option β}:∀ {cs:List α} {ts:List β},(∀ c∈cs,∀ t,f c=some t->g c=some t)->Ag (cs.map f)=some ts->Ag (cs.map g)=some ts
 | [],ts,_,ho=>ho
 | c::cs,ts,hf,ho=>by
  simp only[xqm]at ho ⊢
  cases hc:f c with
  | none=>rw[hc]at ho;simp[Ag]at ho
  | some t =>
   rw[hc]at ho;rw[hf c xqh t hc]
   simp only[Ag,xqb]at ho ⊢
   obtain⟨ts',ho',rfl⟩:=ho
   exact⟨ts',It (fun c hm=>hf c (xqf _ hm)) ho',rfl⟩
theorem qDy (hl:∀ id x,A0 h id=some x->A0 h' id=some x):∀ {n:Nat} {a:AV} {t:T},Aj h n a=some t->Aj h' n a=some t:=by
 intro n
 induction n with
 | zero=>intro a t hs;cases a<;>simp only[Aj]at hs ⊢<;>exact hs
 | succ n ih =>
  intro a t hs
  cases a with
  | t x=>simp only[Aj]at hs ⊢;exact hs
  | ag cs =>
   simp only[Aj,xqb]at hs ⊢
   obtain⟨ts,h1,h2⟩:=hs
   exact⟨ts,It (fun c _ t hc=>ih hc) h1,h2⟩
  | fn f cs =>
   simp only[Aj]at hs ⊢
   split at hs
   case isFalse=>cases hs
   rename_i hlt
   rw[if_pos hlt]
   simp only[xqb]at hs ⊢
   obtain⟨ts,h1,h2⟩:=hs
   exact⟨ts,It (fun c _ t hc=>ih hc) h1,h2⟩
  | ls id off len cap =>
   simp only[Aj]at hs ⊢
   split at hs
   ·rename_i hq;rw[hl _ _ hq];exact hs
   ·rename_i hq;rw[hl _ _ hq]
    simp only[xqb]at hs ⊢
    obtain⟨ts,h1,h2⟩:=hs
    exact⟨ts,It (fun c _ t hc=>It (fun c _ t hc=>ih hc) hc) h1,h2⟩
   ·cases hs
  | lp id i k =>
   simp only[Aj]at hs ⊢
   split at hs
   ·rename_i hq;rw[hl _ _ hq];exact hs
   ·rename_i hq;rw[hl _ _ hq]
    simp only[xqb]at hs ⊢
    obtain⟨ts,h1,h2⟩:=hs
    exact⟨ts,It (fun c _ t hc=>ih hc) h1,h2⟩
   ·rename_i hq;rw[hl _ _ hq]
    simp only[xqb]at hs ⊢
    obtain⟨ts,h1,h2⟩:=hs
    exact⟨ts,It (fun c _ t hc=>ih hc) h1,h2⟩
   ·cases hs
  | li id=>simp[Aj]at hs
  | lb id m =>
   simp only[Aj]at hs ⊢
   split at hs
   ·rename_i hq;rw[hl _ _ hq]
    simp only[xqb]at hs ⊢
    obtain⟨ts,h1,h2⟩:=hs
    exact⟨ts,It (fun c _ t hc=>ih hc) h1,h2⟩
   ·cases hs
  | lm id =>
   simp only[Aj]at hs ⊢
   split at hs
   ·rename_i hq;rw[hl _ _ hq];exact hs
   ·cases hs
  | dead=>simp[Aj]at hs
  | un=>simp[Aj]at hs
  | tu=>simp[Aj]at hs
theorem q3N.add {f:FuncId} {as:List AV} {res:T} (hl:∀ id x,A0 h id=some x->A0 h' id=some x) (hc:q3N P Γ h f as res):q3N P Γ h' f as res:=by
 rcases hc with hc|⟨ts,h1,h2⟩
 ·exact .inl hc
 ·exact .inr ⟨ts,It (fun c _ t hc=>qDy hl hc) h1,h2⟩
theorem q8m (hl:∀ id x,A0 h id=some x->A0 h' id=some x) (hk:io.kd<=1) (hs:Fg P Γ d io ⟨e,h⟩ r s):Fg P Γ d io ⟨e,h'⟩ r ⟨e,h'⟩:=by
 have gen:(∃ c,Ak Γ d io ⟨e,h⟩=some (c,r,s)/\c)->∃ c,Ak Γ d io ⟨e,h'⟩=some (c,r,⟨e,h'⟩)/\c:=by
  rintro⟨c,hs,hc⟩
  exact⟨c,qGr hk hl hs,hc⟩
 cases io with
 | call f args=>obtain⟨as,res,h1,h2,h3,h4⟩:=hs;exact⟨as,res,h1,h2.add hl,h3,rfl⟩
 | callv a args=>obtain⟨b,f,cs,as,res,h0,h1,h2,h3,h4,h5⟩:=hs;exact⟨b,f,cs,as,res,h0,h1,h2,h3.add hl,h4,rfl⟩
 | hcall f args rs base=>simp[Bt.kd]at hk
 | hcallv x args rs base=>simp[Bt.kd]at hk
 | hcallW f args base=>simp[Bt.kd]at hk
 | hcallvW x args base=>simp[Bt.kd]at hk
 | hcallB x args base=>simp[Bt.kd]at hk
 | ncall f args base=>simp[Bt.kd]at hk
 | callT f args=>obtain⟨as,ts,res,h1,h2,h3,h4,h5⟩:=hs;exact⟨as,ts,res,h1,h2,h3,h4,rfl⟩
 | rcall f args rs =>
  obtain⟨as,res,h1,h2,h3,h4,h5,h6⟩:=hs
  have he:Bv rs h'=Bv rs h:=by
   unfold Bv
   have:∀ l:List Nat,(∀ i∈l,i∈rs)->l.filterMap (fun i=>(A0 h' i).map fun r=>(1000000+rs.idxOf i,Au (Qh rs) r))=l.filterMap (fun i=>(A0 h i).map fun r=>(1000000+rs.idxOf i,Au (Qh rs) r)):=by
    intro l
    induction l with
    | nil=>intro _;rfl
    | cons i l ih =>
     intro hm
     obtain⟨ty,s,es,hl'⟩:=h3 i (hm i xqh)
     simp only at hl'
     simp only[List.filterMap_cons,hl',hl _ _ hl',ih fun j hj=>hm j (xqf _ hj)]
   exact this rs fun i hi=>hi
  refine⟨as,res,h1,h2,fun i hi=>?_,by rw[he];exact h4,h5,rfl⟩
  obtain⟨ty,s,es,hl'⟩:=h3 i hi
  exact⟨ty,s,es,hl _ _ hl'⟩
 | _=>exact gen hs
theorem Bi.add (hl:∀ id x,A0 h id=some x->A0 h' id=some x) (hk:ro.op.kd<=1) (hs:Bi P Γ ro ⟨e,h⟩ r h1):Bi P Γ ro ⟨e,h'⟩ r h':=by
 rcases hs with⟨hw',ha⟩|⟨hw',rfl,rfl⟩
 ·exact .inl ⟨hw',q8m hl hk ha⟩
 ·exact .inr ⟨hw',rfl,rfl⟩
theorem Bi.new (hn:ro.op.isNew=true) (hs:Bi P Γ ro ⟨e,h⟩ r h1):∀ id x,A0 h id=some x->A0 h1 id=some x:=by
 rcases hs with⟨hw',ha⟩|⟨hw',rfl,rfl⟩
 ·have gen:(∃ c,Ak Γ ro.d ro.op ⟨e,h⟩=some (c,r,⟨e,h1⟩)/\c)->∀ id x,A0 h id=some x->A0 h1 id=some x:=by
   rintro⟨c,hs,hc⟩ id x hx
   rcases qGq hn hs hc with h2|⟨q,h2,h3⟩
   ·simp only at h2;rw[h2];exact hx
   ·simp only at h2;rw[h2]
    have:ro.d≠id:=fun e=>by rw[e,hx]at h3;cases h3
    simp[A0,this,hx]
  cases hop:ro.op with
  | call f args=>rw[hop]at hn;simp[Bt.isNew]at hn
  | callv f args=>rw[hop]at hn;simp[Bt.isNew]at hn
  | hcall=>rw[hop]at hn;simp[Bt.isNew]at hn
  | hcallv=>rw[hop]at hn;simp[Bt.isNew]at hn
  | hcallW=>rw[hop]at hn;simp[Bt.isNew]at hn
  | hcallvW=>rw[hop]at hn;simp[Bt.isNew]at hn
  | hcallB=>rw[hop]at hn;simp[Bt.isNew]at hn
  | ncall=>rw[hop]at hn;simp[Bt.isNew]at hn
  | callT=>rw[hop]at hn;simp[Bt.isNew]at hn
  | rcall=>rw[hop]at hn;simp[Bt.isNew]at hn
  | _=>exact gen (by simpa only[Fg,hop]using ha)
 ·exact fun id x h=>h
theorem qAN {dst:Option Nat} {k:Nat} (hd:dst≠some k):A0 (St.put ⟨e,h⟩ dst r).env k=A0 e k:=by
 cases dst with
 | none=>rfl
 | some t =>
  have:t≠k:=fun e=>hd (e ▸ rfl)
  simp[St.put,A0,this]
theorem qIe {dst:Option Nat}:(St.put ⟨e,h⟩ dst r).hp=h:=by cases dst<;>rfl
theorem qCn {dst:Option Nat}:St.put ⟨e,h⟩ dst r=⟨(St.put ⟨e,h⟩ dst r).env,h⟩:=by cases dst<;>rfl
theorem Bi.newF (hn:ro.op.isNew=true) (hs:Bi P Γ ro ⟨e,h⟩ r h1):(h1=h/\∀ h',Bi P Γ ro ⟨e,h'⟩ r h')\/∃ q,A0 h ro.d=none/\h1=(ro.d,q)::h/\∀ h',A0 h' ro.d=none->Bi P Γ ro ⟨e,h'⟩ r ((ro.d,q)::h'):=by
 rcases hs with⟨hw,ha⟩|⟨hw,rfl,rfl⟩
 ·have gen:(∃ c,Ak Γ ro.d ro.op ⟨e,h⟩=some (c,r,⟨e,h1⟩)/\c)->(∀ h' h2,(∃ c,Ak Γ ro.d ro.op ⟨e,h'⟩=some (c,r,⟨e,h2⟩)/\c)->Fg P Γ ro.d ro.op ⟨e,h'⟩ r ⟨e,h2⟩) ->
    (h1=h/\∀ h',Bi P Γ ro ⟨e,h'⟩ r h')\/∃ q,A0 h ro.d=none/\h1=(ro.d,q)::h/\∀ h',A0 h' ro.d=none->Bi P Γ ro ⟨e,h'⟩ r ((ro.d,q)::h'):=by
   rintro⟨c,hs,hc⟩ back
   rcases qAM hn hs hc with⟨h2,h3⟩|⟨q,h2,h3,h4⟩
   ·exact .inl ⟨h2,fun h'=>.inl ⟨hw,back _ _ (h3 h')⟩⟩
   ·exact .inr ⟨q,h2,h3,fun h' hh=>.inl ⟨hw,back _ _ (h4 h' hh)⟩⟩
  cases hop:ro.op with
  | call f args=>rw[hop]at hn;simp[Bt.isNew]at hn
  | callv f args=>rw[hop]at hn;simp[Bt.isNew]at hn
  | hcall=>rw[hop]at hn;simp[Bt.isNew]at hn
  | hcallv=>rw[hop]at hn;simp[Bt.isNew]at hn
  | hcallW=>rw[hop]at hn;simp[Bt.isNew]at hn
  | hcallvW=>rw[hop]at hn;simp[Bt.isNew]at hn
  | hcallB=>rw[hop]at hn;simp[Bt.isNew]at hn
  | ncall=>rw[hop]at hn;simp[Bt.isNew]at hn
  | callT=>rw[hop]at hn;simp[Bt.isNew]at hn
  | rcall=>rw[hop]at hn;simp[Bt.isNew]at hn
  | _=>exact gen (by simpa only[Fg,hop]using ha) (fun h' h2 hq=>by simpa only[Fg,hop]using hq)
 ·exact .inl ⟨rfl,fun h'=>.inr ⟨hw,rfl,rfl⟩⟩
theorem q56 {base:Nat} {hp:List (Nat×Aw)}:∀ {hp':List (Nat×Aw)},Uk [] base hp hp'->∀ p∈Jp [] base hp',A0 hp p.1=none
 | [],_,p,hp'=>by cases hp'
 | (j,r)::l,ho,p,hm=>by
  simp only[Jp]at hm
  have h0:=ho.1
  split at hm
  ·rename_i hj
   rw[if_pos hj]at h0
   rcases xqv.1 hm with rfl|hm
   ·exact h0.1
   ·exact q56 ho.2 p hm
  ·exact q56 ho.2 p hm
theorem q43 {base:Nat} {hp hq:List (Nat×Aw)}:∀ {hp':List (Nat×Aw)},Uk [] base hp hp'->(∀ p∈Jp [] base hp',A0 hq p.1=none)->Uk [] base hq hp'
 | [],_,_=>trivial
 | (j,r)::l,ho,hf=>by
  have h0:=ho.1
  by_cases hj:j<1000000
  ·rw[if_pos hj]at h0
   refine⟨by rw[if_pos hj];exact⟨hf (base+j,Au (fun i=>some (Us [] base i)) r) (by simp only[Jp,hj,if_true];exact xqh),h0.2⟩,q43 ho.2 fun p hp=>hf p (by simp only[Jp,hj,if_true];exact xqf _ hp)⟩
  ·rw[if_neg hj]at h0
   simp at h0
theorem Bi.newG (hn:ro.op.isN=true) (hs:Bi P Γ ro ⟨e,h⟩ r h1):∃ L,h1=L++h/\(∀ p∈L,A0 h p.1=none)/\∀ h',(∀ p∈L,A0 h' p.1=none)->Bi P Γ ro ⟨e,h'⟩ r (L++h'):=by
 by_cases ho:∃ f args base,ro.op=.ncall f args base
 ·obtain⟨f,args,base,ho⟩:=ho
  rcases hs with⟨hw,ha⟩|⟨hw,rfl,rfl⟩
  ·simp only[Fg,ho]at ha
   obtain⟨as,res,hp',h2,h3,h4,h5,h6⟩:=ha
   simp only[St.mk.injEq,true_and]at h6
   refine⟨Jp [] base hp',h6,q56 h4,fun h' hf=>.inl ⟨hw,?_⟩⟩
   simp only[Fg,ho]
   exact⟨as,res,hp',h2,h3,q43 h4 hf,h5,rfl⟩
  ·exact⟨[],rfl,by simp,fun h' _=>.inr ⟨hw,rfl,rfl⟩⟩
 ·have hn':ro.op.isNew=true:=by
   cases hop:ro.op with
   | ncall f args base=>exact absurd ⟨_,_,_,hop⟩ ho
   | _=>rw[hop]at hn;exact hn
  rcases hs.newF hn' with⟨h2,h3⟩|⟨q,h2,h3,h4⟩
  ·exact⟨[],h2,by simp,fun h' _=>h3 h'⟩
  ·exact⟨[(ro.d,q)],h3,by simpa using h2,fun h' hf=>h4 h' (hf (ro.d,q) xqh)⟩
theorem q0C {L:List (Nat×Aw)} {t:Nat} (hl:∀ p∈L,p.1≠t):A0 L t=none:=by
 induction L with
 | nil=>rfl
 | cons p L ih =>
  obtain⟨k,q⟩:=p
  simp only[A0]
  rw[if_neg (hl (k,q) xqh)]
  exact ih fun p hp=>hl p (xqf _ hp)
theorem q8F {L:List (Nat×Aw)} {p:Nat×Aw} (hp:p∈L):A0 L p.1≠none:=by
 induction L with
 | nil=>cases hp
 | cons q L ih =>
  obtain⟨k,r⟩:=q
  simp only[A0]
  split
  ·simp
  ·rename_i hk
   rcases xqv.1 hp with rfl|hp
   ·exact absurd rfl hk
   ·exact ih hp
theorem Bi.newN (hn:ro.op.isN=true) (hs:Bi P Γ ro ⟨e,h⟩ r h1):∀ id x,A0 h id=some x->A0 h1 id=some x:=by
 obtain⟨L,rfl,hf,_⟩:=hs.newG hn
 intro id x hx
 have:A0 L id=none:=q0C fun p hp e=>by
  have:=hf p hp
  rw[e,hx]at this;cases this
 rw[Cb,this,Option.none_or];exact hx
theorem qGu (hn:x.op.isN=true) (hn':y.op.isN=true) (hx:Bi P Γ x ⟨e,h⟩ r1 h1) (hy:Bi P Γ y ⟨e,h1⟩ r2 h2):∃ h3 h4,Bi P Γ y ⟨e,h⟩ r2 h3/\Bi P Γ x ⟨e,h3⟩ r1 h4/\∀ k,A0 h4 k=A0 h2 k:=by
 obtain⟨L,rfl,hf,fx⟩:=hx.newG hn
 obtain⟨M,rfl,hg,fy⟩:=hy.newG hn'
 have hLM:∀ p∈M,A0 L p.1=none/\A0 h p.1=none:=fun p hp=>by
  have:=hg p hp
  rw[Cb]at this
  cases hl:A0 L p.1 with
  | some q=>rw[hl]at this;cases this
  | none=>rw[hl,Option.none_or]at this;exact⟨rfl,this⟩
 have hML:∀ p∈L,A0 M p.1=none:=fun p hp=>q0C fun q hq e=>by
  have:=(hLM q hq).1
  rw[e]at this
  exact q8F hp this
 refine⟨M++h,L++(M++h),fy h fun p hp=>(hLM p hp).2,fx _ fun p hp=>by rw[Cb,hML p hp,Option.none_or];exact hf p hp,fun k=>?_⟩
 simp only[Cb]
 cases hl:A0 L k with
 | none=>simp
 | some q =>
  cases hm:A0 M k with
  | none=>simp
  | some p =>
   exfalso
   have:∃ p∈M,p.1=k:=by
    by_cases he:∃ p∈M,p.1=k
    ·exact he
    ·rw[q0C fun p hp e=>he ⟨p,hp,e⟩]at hm;cases hm
   obtain⟨p,hp,rfl⟩:=this
   have:=(hLM p hp).1
   rw[hl]at this;cases this
theorem Bi.stF {i n:Nat} {a x:Operand} (ho:ro.op=.stR i n a x) (hs:Bi P Γ ro ⟨e,h⟩ r h1):(h1=h/\∀ h',Bi P Γ ro ⟨e,h'⟩ r h') \/
  ∃ q q',A0 h i=some q/\q'.sh=q.sh/\h1=Dn i q' h/\∀ h',A0 h' i=some q->Bi P Γ ro ⟨e,h'⟩ r (Dn i q' h'):=by
 rcases hs with⟨hw,ha⟩|⟨hw,rfl,rfl⟩
 ·simp only[Fg,ho]at ha
  obtain⟨c,hs,hc⟩:=ha
  obtain⟨q,q',h2,h3,h4,h5⟩:=qCl hs hc
  exact .inr ⟨q,q',h2,h3,h4,fun h' hh=>.inl ⟨hw,by simp only[Fg,ho];exact h5 h' hh⟩⟩
 ·exact .inl ⟨rfl,fun h'=>.inr ⟨hw,rfl,rfl⟩⟩
theorem Bi.ldF {i n:Nat} {g:Bool} {a:Operand} (ho:ro.op=.ldR i n g a) (hs:Bi P Γ ro ⟨e,h⟩ r h1):h1=h/\∀ h',A0 h' i=A0 h i->Bi P Γ ro ⟨e,h'⟩ r h':=by
 refine⟨hs.same (by rw[ho];exact xzo _),fun h' hh=>?_⟩
 rcases hs with⟨hw,ha⟩|⟨hw,rfl,rfl⟩
 ·simp only[Fg,ho]at ha
  obtain⟨c,hs,hc⟩:=ha
  exact .inl ⟨hw,by simp only[Fg,ho];exact⟨c,qGs hs hh,hc⟩⟩
 ·exact .inr ⟨hw,rfl,rfl⟩
theorem Bi.iaF {s0:Nat} {x i:Operand} (ho:ro.op=.iadr s0 x i) (hs:Bi P Γ ro ⟨e,h⟩ r h1):h1=h/\∀ h',(∀ k,(A0 h' k).map Aw.sh=(A0 h k).map Aw.sh)->Bi P Γ ro ⟨e,h'⟩ r h':=by
 refine⟨hs.same (by rw[ho];exact xzo _),fun h' hh=>?_⟩
 rcases hs with⟨hw,ha⟩|⟨hw,rfl,rfl⟩
 ·simp only[Fg,ho]at ha
  obtain⟨c,hs,hc⟩:=ha
  exact .inl ⟨hw,by simp only[Fg,ho];exact⟨c,qGt hs hh,hc⟩⟩
 ·exact .inr ⟨hw,rfl,rfl⟩
theorem qCo {i:Nat} {q q':Aw} (hq:A0 h i=some q) (he:q'.sh=q.sh) (k:Nat):(A0 (Dn i q' h) k).map Aw.sh=(A0 h k).map Aw.sh:=by
 rw[Em]
 split
 ·rename_i e;subst e;simp[hq,he]
 ·rfl
theorem qF1 (hc:qEu x y=true) (hx:Bi P Γ x ⟨e,h⟩ r1 h1) (hy:Bi P Γ y ⟨e,h1⟩ r2 h2):∃ h3 h4,Bi P Γ y ⟨e,h⟩ r2 h3/\Bi P Γ x ⟨e,h3⟩ r1 h4/\∀ k,A0 h4 k=A0 h2 k:=by
 have newst:∀ {j n:Nat} {a v:Operand},x.op.isNew=true->y.op=.stR j n a v->j≠x.d->∃ h3 h4,Bi P Γ y ⟨e,h⟩ r2 h3/\Bi P Γ x ⟨e,h3⟩ r1 h4/\∀ k,A0 h4 k=A0 h2 k:=by
  intro j n a v hn ho hne
  rcases hx.newF hn with⟨rfl,fx⟩|⟨q,hq,rfl,fx⟩
  ·exact⟨h2,h2,hy,fx h2,fun k=>rfl⟩
  ·rcases hy.stF ho with⟨rfl,fy⟩|⟨p,p',hp,hs,rfl,fy⟩
   ·exact⟨h,_,fy h,fx h hq,fun k=>rfl⟩
   ·have hp':A0 h j=some p:=by simpa[A0,Ne.symm hne]using hp
    refine⟨_,_,fy h hp',fx _ (by rw[Em,if_neg (Ne.symm hne)];exact hq),fun k=>?_⟩
    simp only[A0,Em]
    by_cases h1:x.d=k
    ·have:¬ k=j:=fun e=>hne (e.symm.trans h1.symm)
     simp[h1,this]
    ·by_cases h2:k=j
     ·subst h2;simp[h1]
     ·simp[h1,h2]
 have stnew:∀ {j n:Nat} {a v:Operand},y.op.isNew=true->x.op=.stR j n a v->j≠y.d->∃ h3 h4,Bi P Γ y ⟨e,h⟩ r2 h3/\Bi P Γ x ⟨e,h3⟩ r1 h4/\∀ k,A0 h4 k=A0 h2 k:=by
  intro j n a v hn ho hne
  rcases hx.stF ho with⟨rfl,fx⟩|⟨p,p',hp,hs,rfl,fx⟩
  ·exact⟨h2,h2,hy,fx h2,fun k=>rfl⟩
  ·rcases hy.newF hn with⟨rfl,fy⟩|⟨q,hq,rfl,fy⟩
   ·exact⟨h,_,fy h,fx h hp,fun k=>rfl⟩
   ·have hq':A0 h y.d=none:=by rw[Em,if_neg (Ne.symm hne)]at hq;exact hq
    refine⟨_,_,fy h hq',fx _ (by simp[A0,Ne.symm hne,hp]),fun k=>?_⟩
    simp only[A0,Em]
    by_cases h1:y.d=k
    ·have:¬ k=j:=fun e=>hne (e.symm.trans h1.symm)
     simp[h1,this]
    ·by_cases h2:k=j
     ·subst h2;simp[h1]
     ·simp[h1,h2]
 have newnew:x.op.isNew=true->y.op.isNew=true->x.d≠y.d->∃ h3 h4,Bi P Γ y ⟨e,h⟩ r2 h3/\Bi P Γ x ⟨e,h3⟩ r1 h4/\∀ k,A0 h4 k=A0 h2 k:=by
  intro hn hn' hne
  rcases hx.newF hn with⟨rfl,fx⟩|⟨q,hq,rfl,fx⟩
  ·exact⟨h2,h2,hy,fx h2,fun k=>rfl⟩
  ·rcases hy.newF hn' with⟨rfl,fy⟩|⟨p,hp,rfl,fy⟩
   ·exact⟨h,_,fy h,fx h hq,fun k=>rfl⟩
   ·have hp':A0 h y.d=none:=by simpa[A0,hne]using hp
    refine⟨_,_,fy h hp',fx _ (by simp[A0,Ne.symm hne,hq]),fun k=>?_⟩
    simp only[A0]
    by_cases h1:x.d=k
    ·have:¬ y.d=k:=fun e=>hne (h1.trans e.symm)
     simp[h1,this]
    ·simp[h1]
 unfold qEu at hc
 split at hc
 ·rename_i i n a v j n' a' v' ox oy
  have hne:i≠j:=by simpa using hc
  rcases hx.stF ox with⟨rfl,fx⟩|⟨q,q',hq,hs,rfl,fx⟩
  ·exact⟨h2,h2,hy,fx h2,fun k=>rfl⟩
  ·rcases hy.stF oy with⟨rfl,fy⟩|⟨p,p',hp,hs',rfl,fy⟩
   ·exact⟨h,_,fy h,fx h hq,fun k=>rfl⟩
   ·have hp':A0 h j=some p:=by rw[Em,if_neg (Ne.symm hne)]at hp;exact hp
    refine⟨_,_,fy h hp',fx _ (by rw[Em,if_neg hne];exact hq),fun k=>?_⟩
    simp only[Em]
    by_cases h1:k=i
    ·subst h1;simp[hne]
    ·by_cases h2:k=j
     ·subst h2;simp[h1]
     ·simp[h1,h2]
 ·rename_i i n a v j n' g' a' ox oy
  have hne:i≠j:=by simpa using hc
  obtain⟨rfl,fy⟩:=hy.ldF oy
  rcases hx.stF ox with⟨rfl,fx⟩|⟨q,q',hq,hs,rfl,fx⟩
  ·exact⟨_,_,hy,hx,fun k=>rfl⟩
  ·exact⟨h,_,fy h (by rw[Em,if_neg (Ne.symm hne)]),hx,fun k=>rfl⟩
 ·rename_i i n g a j n' a' v' ox oy
  have hne:i≠j:=by simpa using hc
  obtain⟨rfl,fx⟩:=hx.ldF ox
  rcases hy.stF oy with⟨rfl,fy⟩|⟨p,p',hp,hs',rfl,fy⟩
  ·exact⟨_,_,hy,hx,fun k=>rfl⟩
  ·exact⟨_,_,hy,fx _ (by rw[Em,if_neg hne]),fun k=>rfl⟩
 ·rename_i i n a v s0 x' i' ox oy
  obtain⟨rfl,fy⟩:=hy.iaF oy
  rcases hx.stF ox with⟨rfl,fx⟩|⟨q,q',hq,hs,rfl,fx⟩
  ·exact⟨_,_,hy,hx,fun k=>rfl⟩
  ·exact⟨h,_,fy h (fun k=>(qCo hq hs k).symm),hx,fun k=>rfl⟩
 ·rename_i s0 x' i' i n a v ox oy
  obtain⟨rfl,fx⟩:=hx.iaF ox
  rcases hy.stF oy with⟨rfl,fy⟩|⟨p,p',hp,hs',rfl,fy⟩
  ·exact⟨_,_,hy,hx,fun k=>rfl⟩
  ·exact⟨_,_,hy,fx _ (qCo hp hs'),fun k=>rfl⟩
 ·simp only[xqc]at hc
  exact stnew hc.1 (by assumption) (by simpa using hc.2)
 ·simp only[xqc]at hc
  exact newst hc.1 (by assumption) (by simpa using hc.2)
 ·rename_i _ _ j n' g' a' oy _
  simp only[xqc]at hc
  obtain⟨rfl,fy⟩:=hy.ldF oy
  have hne:j≠x.d:=by simpa using hc.2
  rcases hx.newF hc.1 with⟨rfl,fx⟩|⟨q,hq,rfl,fx⟩
  ·exact⟨_,_,hy,hx,fun k=>rfl⟩
  ·exact⟨h,_,fy h (by simp[A0,Ne.symm hne]),hx,fun k=>rfl⟩
 ·simp only[xqc]at hc
  exact newnew hc.1.1 hc.1.2 (by simpa using hc.2)
theorem qGv {fz:Bool} {ty s0 d dx:Nat} {b v:Operand} {av:AV} (hs:Ak Γ d (.app fz ty s0 b v) ⟨(dx,av)::e,h⟩=some (c,r,st1)) (hb:ev Γ ((dx,av)::e) b=ev Γ e b) (hv:ev Γ ((dx,av)::e) v=ev Γ e v) :
  ∃ F:AV->AV,st1.env=((dx,av)::e).map (fun p=>(p.1,F p.2))/\Ak Γ d (.app fz ty s0 b v) ⟨e,h⟩=some (c,r,⟨e.map fun p=>(p.1,F p.2),st1.hp⟩):=by
 have idm:∀ l:List (Nat×AV),l.map (fun p=>(p.1,id p.2))=l:=fun l=>by simp
 simp only[Ak,hb,hv]at hs ⊢
 revert hs
 cases ev Γ e v with
 | none=>simp
 | some ax =>
  simp only[xqs]
  cases C3 h ax with
  | none=>simp
  | some news =>
   simp only[xqs]
   cases ev Γ e b with
   | none=>simp
   | some a =>
    simp only[xqs]
    intro hs
    split at hs
    ·split at hs<;>simp only[xqa,xqd]at hs<;>obtain⟨rfl,rfl,rfl⟩:=hs
     ·exact⟨id,(idm _).symm,by rw[idm,if_pos (by assumption)]⟩
     ·exact⟨id,(idm _).symm,by rw[idm,if_neg (by assumption)]⟩
    ·split at hs
     case h_2=>cases hs
     split at hs<;>simp only[xqa,xqd]at hs<;>obtain⟨rfl,rfl,rfl⟩:=hs
     ·exact⟨id,(idm _).symm,by rw[idm,if_pos (by assumption)]⟩
     ·exact⟨id,(idm _).symm,by rw[idm,if_neg (by assumption)]⟩
    ·split at hs
     case h_2=>cases hs
     rename_i id0 len _ _ _ _ _
     split at hs<;>simp only[xqa,xqd]at hs<;>obtain⟨rfl,rfl,rfl⟩:=hs
     ·exact⟨Ae _,rfl,by rw[if_pos (by assumption)];rfl⟩
     ·exact⟨Ae _,rfl,by rw[if_neg (by assumption)];rfl⟩
    ·cases hs
theorem qF2 {fz:Bool} {ty s0 d dx:Nat} {b v:Operand} (hs:Ak Γ d (.app fz ty s0 b v) ⟨e,h⟩=some (c,r,st1)) (hb:∀ av:AV,ev Γ ((dx,av)::e) b=ev Γ e b) (hv:∀ av:AV,ev Γ ((dx,av)::e) v=ev Γ e v) :
  ∃ F:AV->AV,st1.env=e.map (fun p=>(p.1,F p.2))/\∀ av:AV,Ak Γ d (.app fz ty s0 b v) ⟨(dx,av)::e,h⟩=some (c,r,⟨((dx,av)::e).map fun p=>(p.1,F p.2),st1.hp⟩):=by
 have idm:∀ l:List (Nat×AV),l.map (fun p=>(p.1,id p.2))=l:=fun l=>by simp
 simp only[Ak,hb,hv]at hs ⊢
 revert hs
 cases ev Γ e v with
 | none=>simp
 | some ax =>
  simp only[xqs]
  cases C3 h ax with
  | none=>simp
  | some news =>
   simp only[xqs]
   cases ev Γ e b with
   | none=>simp
   | some a =>
    simp only[xqs]
    intro hs
    split at hs
    ·split at hs<;>simp only[xqa,xqd]at hs<;>obtain⟨rfl,rfl,rfl⟩:=hs
     ·exact⟨id,(idm _).symm,fun av=>by rw[idm,if_pos (by assumption)]⟩
     ·exact⟨id,(idm _).symm,fun av=>by rw[idm,if_neg (by assumption)]⟩
    ·split at hs
     case h_2=>cases hs
     split at hs<;>simp only[xqa,xqd]at hs<;>obtain⟨rfl,rfl,rfl⟩:=hs
     ·exact⟨id,(idm _).symm,fun av=>by rw[idm,if_pos (by assumption)]⟩
     ·exact⟨id,(idm _).symm,fun av=>by rw[idm,if_neg (by assumption)]⟩
    ·split at hs
     case h_2=>cases hs
     rename_i id0 len _ _ _ _ _
     split at hs<;>simp only[xqa,xqd]at hs<;>obtain⟨rfl,rfl,rfl⟩:=hs
     ·exact⟨Ae _,rfl,fun av=>by rw[if_pos (by assumption)];rfl⟩
     ·exact⟨Ae _,rfl,fun av=>by rw[if_neg (by assumption)];rfl⟩
    ·cases hs
theorem qAO (hc:qEv x y=true) (hx:Ei P Γ x st s) (hy:Ei P Γ y s s2):∃ t t2,Ei P Γ y st t/\Ei P Γ x t t2/\Ey s2 t2:=by
 obtain⟨dst1,op1,g1,id1⟩:=x
 obtain⟨dst2,op2,g2,id2⟩:=y
 unfold qEv at hc
 split at hc
 case h_3=>cases hc
 case h_2 =>
  rename_i fz ty s0 b v a dy dx ox oy e1 e2
  simp only at ox oy e1 e2
  subst ox;subst oy;subst e1;subst e2
  simp only[xqc,Option.isNone_iff_eq_none,bne_iff_ne,ne_eq]at hc
  obtain⟨⟨⟨⟨⟨rfl,rfl⟩,hb⟩,hv⟩,hda⟩,hdd⟩:=hc
  obtain⟨e,h⟩:=st
  simp only[Ei,G7,reduceCtorEq,xqa,Bool.true_eq_false,false_and,or_false,true_and]at hx hy
  obtain⟨r1,st1,⟨c1,hs1,hc1⟩,rfl⟩:=hx
  obtain⟨r2,st2,⟨c2,hs2,hc2⟩,rfl⟩:=hy
  simp only[Ak,ev,xqb,xqd]at hs2
  obtain⟨av',hav',rfl,rfl,rfl⟩:=hs2
  have evne:∀ {o:Operand},(match o with | .tmp t=>t != dx|_=>true)=true->∀ av:AV,ev Γ ((dx,av)::e) o=ev Γ e o:=fun{o} ho av=>by
   cases o with
   | tmp t =>
    simp only[bne_iff_ne,ne_eq]at ho
    simp only[ev,A0]
    rw[if_neg (fun h=>ho h.symm)]
   | _=>rfl
  obtain⟨F,h1,h2⟩:=qF2 (d:=RO.d ⟨some dy,.app fz ty s0 b v,none,id1⟩) hs1 (evne hb) (evne hv)
  have hav2:A0 ((dy,r1)::st1.env) a=some av':=hav'
  simp only[A0]at hav2
  rw[if_neg hda,h1,Dz F]at hav2
  obtain⟨av,hav,rfl⟩:=xqb.1 hav2
  refine⟨⟨(dx,av)::e,h⟩,⟨(dy,r1)::((dx,av)::e).map fun p=>(p.1,F p.2),st1.hp⟩,.inl ⟨rfl,av,⟨e,h⟩,⟨True,?_,trivial⟩,rfl⟩,.inl ⟨rfl,r1,⟨((dx,av)::e).map fun p=>(p.1,F p.2),st1.hp⟩,⟨c1,h2 av,hc1⟩,rfl⟩,fun k=>?_,fun k=>rfl⟩
  ·simp only[Ak,ev,hav]
   rfl
  ·show A0 ((dy,r1)::(dx,F av)::e.map fun p=>(p.1,F p.2)) k=A0 ((dx,F av)::(dy,r1)::st1.env) k
   rw[h1]
   simp only[A0]
   by_cases h3:dx=k
   ·subst h3
    rw[if_pos rfl,if_neg hdd,if_pos rfl]
   ·rw[if_neg h3]
    simp only[if_neg h3]
 rename_i a fz ty s0 b v dx dy ox oy e1 e2
 simp only at ox oy e1 e2
 subst ox;subst oy;subst e1;subst e2
 simp only[xqc,Option.isNone_iff_eq_none,bne_iff_ne,ne_eq]at hc
 obtain⟨⟨⟨⟨⟨rfl,rfl⟩,hb⟩,hv⟩,hda⟩,hdd⟩:=hc
 obtain⟨e,h⟩:=st
 simp only[Ei,G7,reduceCtorEq,xqa,Bool.true_eq_false,false_and,or_false,true_and]at hx hy
 obtain⟨r1,st1,⟨c1,hs1,hc1⟩,rfl⟩:=hx
 obtain⟨r2,st2,⟨c2,hs2,hc2⟩,rfl⟩:=hy
 simp only[Ak,ev,xqb,xqd]at hs1
 obtain⟨av,hav,rfl,rfl,rfl⟩:=hs1
 have evne:∀ {o:Operand},(match o with | .tmp t=>t != dx|_=>true)=true->ev Γ ((dx,av)::e) o=ev Γ e o:=fun{o} ho=>by
  cases o with
  | tmp t =>
   simp only[bne_iff_ne,ne_eq]at ho
   simp only[ev,A0]
   rw[if_neg (fun h=>ho h.symm)]
  | _=>rfl
 obtain⟨F,h1,h2⟩:=qGv (d:=RO.d ⟨some dy,.app fz ty s0 b v,none,id2⟩) hs2 (evne hb) (evne hv)
 refine⟨⟨(dy,r2)::e.map fun p=>(p.1,F p.2),st2.hp⟩,⟨(dx,F av)::(dy,r2)::e.map fun p=>(p.1,F p.2),st2.hp⟩,.inl ⟨rfl,r2,_,⟨c2,h2,hc2⟩,rfl⟩,.inl ⟨rfl,F av,⟨(dy,r2)::e.map fun p=>(p.1,F p.2),st2.hp⟩,⟨True,?_,trivial⟩,rfl⟩,fun k=>?_,fun k=>rfl⟩
 ·simp only[Ak,ev,A0]
  rw[if_neg hda,Dz F,hav]
  rfl
 ·show A0 ((dx,F av)::(dy,r2)::_) k=A0 ((dy,r2)::st2.env) k
  rw[h1]
  simp only[A0,xqm]
  by_cases h3:dx=k
  ·subst h3
   rw[if_pos rfl,if_neg hdd,if_pos rfl]
  ·rw[if_neg h3]
   simp only[if_neg h3]
theorem q0e {o:Operand} {t:Nat} (h:nt o t=true) (av:AV):ev Γ ((t,av)::e) o=ev Γ e o:=by
 cases o with
 | tmp k =>
  simp only[nt,bne_iff_ne,ne_eq]at h
  simp only[ev,A0]
  rw[if_neg (fun e=>h e.symm)]
 | _=>rfl
theorem q8n {i:Nat} {a:AV} {x:T} (h:Ae i a=.t x):a=.t x:=by
 cases a with
 | t y=>exact h
 | fn f cs=>cases cs<;>simp only[Ae,kill1]at h<;>(try split at h)<;>cases h
 | ag cs=>simp[Ae]at h
 | tu cs=>simp[Ae]at h
 | dead=>simp[Ae,kill1]at h
 | un=>simp[Ae,kill1]at h
 | _=>simp only[Ae,kill1]at h;split at h<;>cases h
theorem q2L {i ty d:Nat} {b v:Operand} (hs:Ak Γ d (.appR true i ty b v) ⟨e,h⟩=some (c,r,st1)):st1=St.kill i ⟨e,h⟩ /\
  ∀ e' h',ev Γ e' b=ev Γ e b->ev Γ e' v=ev Γ e v->A0 h' i=A0 h i->Ak Γ d (.appR true i ty b v) ⟨e',h'⟩=some (c,r,St.kill i ⟨e',h'⟩):=by
 simp only[Ak]at hs
 split at hs
 case h_2=>cases hs
 rename_i news _ _ id len hx hbb
 split at hs
 case h_2=>cases hs
 rename_i t q es hlk
 simp only[if_true,xqa,xqd]at hs
 obtain⟨rfl,rfl,rfl⟩:=hs
 exact⟨rfl,fun e' h' hb hv hl=>by simp only[Ak,hb,hv,hx,hbb,hl,hlk,if_true]⟩
theorem q0D {i k:Nat}:A0 (St.kill i ⟨e,h⟩).hp k=if k=i then none else(A0 h k).map (Bd i):=Lp (st:=⟨e,h⟩) i k
theorem q8G {i:Nat} {zs:List Value}:Bd i (.bx (zs.map fun z=>AV.t (C4 z)))=.bx (zs.map fun z=>AV.t (C4 z)):=by
 simp only[Bd,xq5];rfl
theorem W5 {dx dy k:Nat} {l:List (Nat×AV)} {p q:AV} (h:dx≠dy):A0 ((dx,p)::(dy,q)::l) k=A0 ((dy,q)::(dx,p)::l) k:=by
 simp only[A0]
 by_cases h1:dx=k
 ·subst h1;rw[if_pos rfl,if_neg (fun e=>h e.symm)];simp
 ·rw[if_neg h1,if_neg h1]
theorem qCp {i d2 k:Nat} {zs:List Value} (h1:d2≠i):A0 ((d2,Aw.bx (zs.map fun z=>AV.t (C4 z)))::(St.kill i ⟨e,h⟩).hp) k=A0 (St.kill i ⟨e',(d2,Aw.bx (zs.map fun z=>AV.t (C4 z)))::h⟩).hp k:=by
 simp only[A0,q0D]
 by_cases h3:d2=k
 ·subst h3
  rw[if_pos rfl,if_neg h1,if_pos rfl,xql,q8G]
 ·rw[if_neg h3,if_neg h3]
def W6:Option Nat->AV->AV
 | none,a=>a
 | some i,a=>Ae i a
def klR:Option Nat->Aw->Aw
 | none,r=>r
 | some i,r=>Bd i r
def klH:Option Nat->List (Nat×Aw)->List (Nat×Aw)
 | none,h=>h
 | some i,h=>(del i h).map fun p=>(p.1,Bd i p.2)
theorem qDz {ty s0 d dy:Nat} {b v:Operand} (hs:Ak Γ d (.app false ty s0 b v) ⟨e,h⟩=some (c,r,st1)) (hb:∀ av:AV,ev Γ ((dy,av)::e) b=ev Γ e b) (hv:∀ av:AV,ev Γ ((dy,av)::e) v=ev Γ e v) :
  ∃ K q,st1=⟨e.map fun p=>(p.1,W6 K p.2),(d,q)::klH K h⟩/\∀ av:AV,Ak Γ d (.app false ty s0 b v) ⟨(dy,av)::e,h⟩=some (c,r,⟨((dy,av)::e).map fun p=>(p.1,W6 K p.2),(d,q)::klH K h⟩):=by
 have idm:∀ l:List (Nat×AV),l.map (fun p=>(p.1,W6 none p.2))=l:=fun l=>by simp[W6]
 simp only[Ak,hb,hv]at hs ⊢
 revert hs
 cases ev Γ e v with
 | none=>simp
 | some ax =>
  simp only[xqs]
  cases C3 h ax with
  | none=>simp
  | some news =>
   simp only[xqs]
   cases ev Γ e b with
   | none=>simp
   | some a =>
    simp only[xqs,xqn,if_false]
    intro hs
    split at hs
    ·simp only[xqa,xqd]at hs
     obtain⟨rfl,rfl,rfl⟩:=hs
     exact⟨none,_,by rw[idm];rfl,fun av=>by rw[idm];rfl⟩
    ·split at hs
     case h_2=>cases hs
     simp only[xqa,xqd]at hs
     obtain⟨rfl,rfl,rfl⟩:=hs
     exact⟨none,_,by rw[idm];rfl,fun av=>by rw[idm];rfl⟩
    ·split at hs
     case h_2=>cases hs
     rename_i id0 len _ _ _ _ _
     simp only[xqa,xqd]at hs
     obtain⟨rfl,rfl,rfl⟩:=hs
     exact⟨some _,_,rfl,fun av=>rfl⟩
    ·cases hs
theorem qKr {K:Option Nat} {a:AV} {x:T} (h:W6 K a=.t x):a=.t x:=by
 cases K with
 | none=>exact h
 | some i=>exact q8n h
theorem q57 {K:Option Nat} {x:T}:W6 K (.t x)=.t x:=by cases K<;>rfl
theorem qF3 {K:Option Nat} {a:AV} {j i k:Nat} (h:W6 K a=.lp j i k):a=.lp j i k/\∀ q,K=some q->j≠q:=by
 cases K with
 | none=>exact⟨h,fun q e=>by cases e⟩
 | some q =>
  simp only[W6]at h
  cases a with
  | lp j' i' k' =>
   simp only[Ae,kill1]at h
   split at h
   ·cases h
   ·rename_i hne
    cases h
    exact⟨rfl,fun q' e=>by cases e;exact hne⟩
  | fn f cs=>cases cs<;>simp only[Ae,kill1]at h<;>(try split at h)<;>cases h
  | ag cs=>simp[Ae]at h
  | tu cs=>simp[Ae]at h
  | t x=>simp[Ae,kill1]at h
  | dead=>simp[Ae,kill1]at h
  | un=>simp[Ae,kill1]at h
  | _=>simp only[Ae,kill1]at h;split at h<;>cases h
theorem qAP {K:Option Nat} {j i k:Nat} (h:∀ q,K=some q->j≠q):W6 K (.lp j i k)=.lp j i k:=by
 cases K with
 | none=>rfl
 | some q=>simp only[W6,Ae,kill1];rw[if_neg (h q rfl)]
theorem q70 {K:Option Nat}:W6 K .dead=.dead:=by cases K<;>rfl
theorem q71 {K:Option Nat} {j:Nat} (hj:∀ q,K=some q->j≠q):A0 (klH K h) j=(A0 h j).map (klR K):=by
 cases K with
 | none=>simp only[klH];cases A0 h j<;>rfl
 | some i =>
  simp only[klH]
  rw[Dz,q17,if_neg (hj i rfl)]
  rfl
theorem q58 {f:AV->AV} {l:List AV} {d:AV}:(l.map f).headD (f d)=f (l.headD d):=by cases l<;>rfl
theorem qE0 {i:Nat} {a:AV} {x:T} (h:q01 (kill1 i a)=some x):q01 a=some x:=by
 cases a with
 | t y=>exact h
 | fn f cs=>cases cs<;>simp only[kill1]at h<;>(try split at h)<;>simp[q01]at h
 | ag cs=>simp[kill1,q01]at h
 | tu cs=>simp[kill1,q01]at h
 | dead=>simp[kill1,q01]at h
 | un=>simp[kill1,q01]at h
 | _=>simp only[kill1]at h;split at h<;>simp[q01]at h
theorem q3R {α β:Type} {f g:α->Option β}:∀ {l:List α} {m:List β},(∀ a b,f a=some b->g a=some b)->Ag (l.map f)=some m->Ag (l.map g)=some m
 | [],m,_,h=>h
 | a::l,m,hi,h=>by
  simp only[xqm]at h ⊢
  cases hf:f a with
  | none=>rw[hf]at h;simp[Ag]at h
  | some b =>
   rw[hf]at h
   simp only[Ag,xqb]at h
   obtain⟨m',hm',rfl⟩:=h
   rw[hi a b hf]
   simp only[Ag,xqb]
   exact⟨m',q3R hi hm',rfl⟩
theorem qF4 {K:Option Nat} {a:AV} {ts:List T} (h:O2 (W6 K a).cells=some ts):O2 a.cells=some ts:=by
 cases K with
 | none=>exact h
 | some i =>
  simp only[W6]at h
  cases a with
  | t x=>exact h
  | ag cs =>
   simp only[Ae,AV.cells,O2,xq5]at h ⊢
   exact q3R (f:=q01 ∘ kill1 i) (fun a b hab=>qE0 hab) h
  | tu cs=>simp[Ae,AV.cells,O2,q01,Ag]at h
  | fn f cs=>cases cs<;>simp only[Ae,kill1]at h<;>(try split at h)<;>simp[AV.cells,O2,q01,Ag]at h
  | dead=>simp[Ae,kill1,AV.cells,O2,q01,Ag]at h
  | un=>simp[Ae,kill1,AV.cells,O2,q01,Ag]at h
  | _=>simp only[Ae,kill1]at h;split at h<;>simp[AV.cells,O2,q01,Ag]at h
theorem qBl {K:Option Nat} {dx:Nat} {r0:AV} {o:Operand} (h:nt o dx=true):ev Γ ((dx,r0)::e.map fun p=>(p.1,W6 K p.2)) o=(ev Γ e o).map (W6 K):=by
 rw[q0e h]
 cases o with
 | tmp t=>simp only[ev];rw[Dz]
 | const v=>simp[ev,Vj,q57]
 | global g=>simp only[ev,Option.map_map];cases Γ g<;>simp[q57]
 | func f=>simp[ev,q57]
theorem q5k {α β γ:Type} {f:α->Option β} {g:β->γ}:∀ {l:List α},Ag (l.map fun a=>(f a).map g)=(Ag (l.map f)).map (List.map g)
 | []=>rfl
 | a::l=>by
  simp only[xqm]
  have ih:=q5k (f:=f) (g:=g) (l:=l)
  cases f a with
  | none=>rfl
  | some b =>
   simp only[xql,Ag,ih,Option.map_map]
   cases Ag (l.map f)<;>rfl
theorem qKs {K:Option Nat} {dx d2:Nat} {r0:AV} {d:Nat} {q:Aw} (hk:(∃ off a,io=.fadr off (.tmp a)/\a≠dx)\/(∃ j n a,io=.ldR j n false (.tmp a)/\a≠dx/\j≠d)\/∃ ty s ps,io=.bsl true ty s ps/\ps.all (nt · dx)=true)
  (hs:Ak Γ d2 io ⟨(dx,r0)::e.map fun p=>(p.1,W6 K p.2),(d,q)::klH K h⟩=some (c,r,st2)) (hc:c) :
  st2=⟨(dx,r0)::e.map fun p=>(p.1,W6 K p.2),(d,q)::klH K h⟩/\∃ c' r',Ak Γ d2 io ⟨e,h⟩=some (c',r',⟨e,h⟩)/\c'/\W6 K r'=r:=by
 have ea:∀ {a:Nat},a≠dx->ev Γ ((dx,r0)::e.map fun p=>(p.1,W6 K p.2)) (.tmp a)=(A0 e a).map (W6 K):=fun{a} ha=>by
  have:nt (.tmp a) dx=true:=by simp[nt,ha]
  rw[qBl this];rfl
 rcases hk with⟨off,a,rfl,ha⟩|⟨j,n,a,rfl,ha,hj⟩|⟨ty,s,ps,rfl,hps⟩
 ·simp only[Ak,ea ha]at hs ⊢
  have ee:ev Γ e (.tmp a)=A0 e a:=rfl
  rw[ee]
  cases hl:A0 e a with
  | none=>rw[hl]at hs;simp at hs
  | some a0 =>
   rw[hl]at hs
   simp only[xql]at hs
   split at hs
   ·rename_i cs k hk
    simp only[xqa]at hk
    have:=qKr hk
    subst this
    simp only[xqa,xqd]at hs
    obtain⟨rfl,rfl,rfl⟩:=hs
    exact⟨rfl,True,_,rfl,trivial,q57⟩
   ·rename_i id i k hk
    simp only[xqa]at hk
    obtain⟨rfl,hne⟩:=qF3 hk
    simp only[xqa,xqd]at hs
    obtain⟨rfl,rfl,rfl⟩:=hs
    exact⟨rfl,True,_,rfl,trivial,qAP hne⟩
   ·cases hs
 ·simp only[Ak,ea ha]at hs ⊢
  have ee:ev Γ e (.tmp a)=A0 e a:=rfl
  rw[ee]
  cases hl:A0 e a with
  | none=>rw[hl]at hs;simp[E8]at hs
  | some a0 =>
   rw[hl]at hs
   simp only[xql]at hs
   split at hs
   case isFalse=>cases hs
   rename_i hp
   obtain⟨i,k,hk⟩:∃ i k,W6 K a0=.lp j i k:=by
    cases h0:W6 K a0 with
    | lp j' i k=>rw[h0]at hp;simp only[E8,xz0]at hp;subst hp;exact⟨i,k,rfl⟩
    | _=>rw[h0]at hp;simp[E8]at hp
   obtain⟨rfl,hne⟩:=qF3 hk
   rw[hk]at hs
   simp only[A0,if_neg (fun e=>hj e.symm:¬ d=j)]at hs
   rw[q71 hne]at hs
   have hp2:E8 j (some (.lp j i k))=true:=by simp[E8]
   rw[if_pos hp2]
   simp only
   cases hr:A0 h j with
   | none=>rw[hr]at hs;simp at hs
   | some rg =>
    rw[hr]at hs
    simp only[xql]at hs
    cases rg with
    | sl t s es =>
     have e1:klR K (.sl t s es)=.sl t s es:=by cases K<;>rfl
     rw[e1]at hs
     simp only[xqa,xqd]at hs
     obtain⟨rfl,rfl,rfl⟩:=hs
     exact⟨rfl,_,_,rfl,hc,q57⟩
    | rs t s es =>
     have e1:klR K (.rs t s es)=.rs t s (es.map fun e=>e.map (W6 K)):=by
      cases K with
      | none =>
       have:W6 none=id:=funext fun a=>rfl
       simp only[klR,this,List.map_id_fun,id]
       congr 1
       exact(List.map_id es).symm
      | some i=>rfl
     rw[e1]at hs
     simp only[xqa,xqd,xq4]at hs
     obtain⟨rfl,rfl,rfl⟩:=hs
     refine⟨rfl,_,_,rfl,hc,?_⟩
     have e2:(es.map fun e=>e.map (W6 K)).getD i []=(es.getD i []).map (W6 K):=by
      simp only[xqe,xqr]
      cases es[i]?<;>rfl
     rw[e2]
     simp only[M3,xqn,if_false]
     rw[<- List.map_drop,<- List.map_take]
     conv=>rhs;rw[<- q70 (K:=K)]
     exact q58.symm
    | bx cs =>
     have e1:klR K (.bx cs)=.bx (cs.map (W6 K)):=by
      cases K with
      | none=>simp only[klR];congr 1;exact(List.map_id cs).symm
      | some i=>rfl
     rw[e1]at hs
     simp only[xqa,xqd,xq4]at hs
     obtain⟨rfl,rfl,rfl⟩:=hs
     refine⟨rfl,_,_,rfl,hc,?_⟩
     simp only[M3,xqn,if_false]
     rw[<- List.map_drop,<- List.map_take]
     conv=>rhs;rw[<- q70 (K:=K)]
     exact q58.symm
    | mp es =>
     have e1:klR K (.mp es)=.mp es:=by cases K<;>rfl
     rw[e1]at hs;cases hs
    | mr es =>
     exfalso
     cases K with
     | none=>cases hs
     | some i=>cases hs
    | it s p =>
     have e1:klR K (.it s p)=.it s p:=by cases K<;>rfl
     rw[e1]at hs;cases hs
 ·have ev1:Qi Γ ((dx,r0)::e.map fun p=>(p.1,W6 K p.2)) ps=(Qi Γ e ps).map (List.map (W6 K)):=by
   unfold Qi
   rw[<- q5k]
   congr 1
   exact xq1 fun o ho=>qBl (xqz.1 hps o ho)
  simp only[Ak,ev1]at hs ⊢
  cases hev:Qi Γ e ps with
  | none=>rw[hev]at hs;simp at hs
  | some as =>
   rw[hev]at hs
   simp only[xql,xqs,xq5,if_true]at hs ⊢
   cases ho:Ag (as.map ((fun a=>O2 a.cells) ∘ W6 K)) with
   | none=>rw[ho]at hs;simp at hs
   | some es =>
    rw[ho]at hs
    have h2:Ag (as.map fun a=>O2 a.cells)=some es:=q3R (fun a b hab=>qF4 hab) ho
    rw[h2]
    simp only[xql,xqa,xqd]at hs ⊢
    obtain⟨rfl,rfl,rfl⟩:=hs
    exact⟨rfl,_,_,⟨rfl,rfl,trivial⟩,hc,q57⟩
theorem qAQ (hc:qEx x y=true) (hx:Ei P Γ x st s) (hy:Ei P Γ y s s2):∃ t t2,Ei P Γ y st t/\Ei P Γ x t t2/\Ey s2 t2:=by
 obtain⟨dst1,op1,g1,id1⟩:=x
 obtain⟨dst2,op2,g2,id2⟩:=y
 obtain⟨ty,s0,b,v,dx,dy,rfl,rfl,rfl,rfl,rfl,hb,hv,hdd,hk⟩:∃ ty s0 b v dx dy,op1=.app false ty s0 b v/\dst1=some dx/\dst2=some dy/\g1=none/\g2=none/\nt b dy=true/\nt v dy=true/\dx≠dy /\
   ((∃ off a,op2=.fadr off (.tmp a)/\a≠dx)\/(∃ j n a,op2=.ldR j n false (.tmp a)/\a≠dx/\j≠RO.d ⟨dst1,op1,g1,id1⟩)\/∃ ty s ps,op2=.bsl true ty s ps/\ps.all (nt · dx)=true):=by
  unfold qEx at hc
  split at hc
  ·rename_i _ _ b v off a dx dy ox oy e1 e2
   simp only at ox oy e1 e2
   subst ox;subst oy;subst e1;subst e2
   simp only[xqc,Option.isNone_iff_eq_none,bne_iff_ne,ne_eq]at hc
   obtain⟨⟨⟨⟨⟨h1,h2⟩,hb⟩,hv⟩,ha⟩,hd⟩:=hc
   exact⟨_,_,_,_,_,_,rfl,rfl,rfl,h1,h2,hb,hv,hd,.inl ⟨_,_,rfl,ha⟩⟩
  ·rename_i _ _ b v j n a dx dy ox oy e1 e2
   simp only at ox oy e1 e2
   subst ox;subst oy;subst e1;subst e2
   simp only[xqc,Option.isNone_iff_eq_none,bne_iff_ne,ne_eq]at hc
   obtain⟨⟨⟨⟨⟨⟨h1,h2⟩,hb⟩,hv⟩,ha⟩,hd⟩,hj⟩:=hc
   exact⟨_,_,_,_,_,_,rfl,rfl,rfl,h1,h2,hb,hv,hd,.inr (.inl ⟨_,_,_,rfl,ha,hj⟩)⟩
  ·rename_i _ _ b v _ _ ps dx dy ox oy e1 e2
   simp only at ox oy e1 e2
   subst ox;subst oy;subst e1;subst e2
   simp only[xqc,Option.isNone_iff_eq_none,bne_iff_ne,ne_eq]at hc
   obtain⟨⟨⟨⟨⟨h1,h2⟩,hb⟩,hv⟩,ha⟩,hd⟩:=hc
   exact⟨_,_,_,_,_,_,rfl,rfl,rfl,h1,h2,hb,hv,hd,.inr (.inr ⟨_,_,_,rfl,ha⟩)⟩
  ·cases hc
 obtain⟨e,h⟩:=st
 simp only[Ei,G7,reduceCtorEq,xqa,Bool.true_eq_false,false_and,or_false,true_and]at hx
 obtain⟨r1,st1,⟨c1,hs1,hc1⟩,rfl⟩:=hx
 obtain⟨K,q,rfl,h2⟩:=qDz (d:=RO.d ⟨some dx,.app false ty s0 b v,none,id1⟩) hs1 (fun av=>q0e hb av) (fun av=>q0e hv av)
 have hy':∃ r2 st2,(∃ c2,Ak Γ (RO.d ⟨some dy,op2,none,id2⟩) op2 ⟨(dx,r1)::e.map fun p=>(p.1,W6 K p.2),(RO.d ⟨some dx,.app false ty s0 b v,none,id1⟩,q)::klH K h⟩=some (c2,r2,st2)/\c2)/\s2=⟨(dy,r2)::st2.env,st2.hp⟩:=by
  rcases hk with⟨off,a,rfl,ha⟩|⟨j,n,a,rfl,ha,hj⟩|⟨ty,s,ps,rfl,hps⟩ <;>
  ·simp only[Ei,G7,reduceCtorEq,xqa,Bool.true_eq_false,false_and,or_false,true_and]at hy
   exact hy
 obtain⟨r2,st2,⟨c2,hs2,hc2⟩,rfl⟩:=hy'
 obtain⟨rfl,c',r',hs',hcc,rfl⟩:=qKs hk hs2 hc2
 refine⟨⟨(dy,r')::e,h⟩,⟨(dx,r1)::((dy,r')::e).map fun p=>(p.1,W6 K p.2),(RO.d ⟨some dx,.app false ty s0 b v,none,id1⟩,q)::klH K h⟩,.inl ⟨rfl,r',⟨e,h⟩,?_,rfl⟩,.inl ⟨rfl,r1,_,⟨c1,h2 r',hc1⟩,rfl⟩,fun k=>?_,fun k=>rfl⟩
 ·rcases hk with⟨off,a,rfl,ha⟩|⟨j,n,a,rfl,ha,hj⟩|⟨ty,s,ps,rfl,hps⟩<;>exact⟨c',hs',hcc⟩
 ·exact W5 hdd
theorem qAR (hc:qEw x y=true) (hx:Ei P Γ x st s) (hy:Ei P Γ y s s2):∃ t t2,Ei P Γ y st t/\Ei P Γ x t t2/\Ey s2 t2:=by
 obtain⟨dst1,op1,g1,id1⟩:=x
 obtain⟨dst2,op2,g2,id2⟩:=y
 unfold qEw at hc
 split at hc
 case h_5=>cases hc
 ·rename_i i ty b v n g a dx dy ox oy e1 e2
  simp only at ox oy e1 e2
  subst ox;subst oy;subst e1;subst e2
  simp only[xqc,Option.isNone_iff_eq_none,bne_iff_ne,ne_eq]at hc
  obtain⟨⟨⟨⟨⟨rfl,rfl⟩,hb⟩,hv⟩,hax⟩,hxy⟩:=hc
  obtain⟨e,h⟩:=st
  simp only[Ei,G7,reduceCtorEq,xqa,Bool.true_eq_false,false_and,or_false,true_and]at hx hy
  obtain⟨r1,st1,⟨c1,hs1,hc1⟩,rfl⟩:=hx
  obtain⟨r2,st2,⟨c2,hs2,hc2⟩,rfl⟩:=hy
  obtain⟨rfl,mv⟩:=q2L hs1
  simp only[Ak,ev,St.put,A0,if_neg (fun q:dx=a=>hax q.symm),St.kill,Dz (Ae i)]at hs2
  split at hs2
  case h_2=>cases hs2
  rename_i cs k hla
  obtain⟨av,hav,hk⟩:=xqb.1 hla
  have:=q8n hk;subst this
  simp only[xqa,xqd]at hs2
  obtain⟨rfl,rfl,rfl⟩:=hs2
  refine⟨⟨(dy,.t (Jo g ((cs.drop k).take n)))::e,h⟩,_,.inl ⟨rfl,_,⟨e,h⟩,⟨_,by simp only[Ak,ev,hav],hc2⟩,rfl⟩,.inl ⟨rfl,r1,_,⟨c1,mv _ _ (q0e hb _) (q0e hv _) rfl,hc1⟩,rfl⟩,fun k=>?_,fun k=>rfl⟩
  exact(W5 hxy)
 ·rename_i n g a i ty b v dy dx ox oy e1 e2
  simp only at ox oy e1 e2
  subst ox;subst oy;subst e1;subst e2
  simp only[xqc,Option.isNone_iff_eq_none,bne_iff_ne,ne_eq]at hc
  obtain⟨⟨⟨⟨⟨rfl,rfl⟩,hb⟩,hv⟩,hax⟩,hxy⟩:=hc
  obtain⟨e,h⟩:=st
  simp only[Ei,G7,reduceCtorEq,xqa,Bool.true_eq_false,false_and,or_false,true_and]at hx hy
  obtain⟨r1,st1,⟨c1,hs1,hc1⟩,rfl⟩:=hx
  obtain⟨r2,st2,⟨c2,hs2,hc2⟩,rfl⟩:=hy
  simp only[Ak,ev]at hs1
  split at hs1
  case h_2=>cases hs1
  rename_i cs k hla
  simp only[xqa,xqd]at hs1
  obtain⟨rfl,rfl,rfl⟩:=hs1
  obtain⟨rfl,mv⟩:=q2L hs2
  refine⟨_,⟨(dy,.t (Jo g ((cs.drop k).take n)))::(dx,r2)::(St.kill i ⟨e,h⟩).env,(St.kill i ⟨e,h⟩).hp⟩,.inl ⟨rfl,r2,_,⟨c2,mv _ _ (q0e hb _).symm (q0e hv _).symm rfl,hc2⟩,rfl⟩,.inl ⟨rfl,.t (Jo g ((cs.drop k).take n)),⟨(dx,r2)::(St.kill i ⟨e,h⟩).env,(St.kill i ⟨e,h⟩).hp⟩,⟨_,?_,hc1⟩,rfl⟩,fun k=>?_,fun k=>rfl⟩
  ·simp only[Ak,ev,St.put,A0,if_neg (fun q:dx=a=>hax q.symm),St.kill,Dz (Ae i),hla,xql]
   rfl
  ·exact W5 (fun q=>hxy q.symm)
 ·rename_i i ty b v zs dx dy ox oy e1 e2
  simp only at ox oy e1 e2
  subst ox;subst oy;subst e1;subst e2
  simp only[xqc,Option.isNone_iff_eq_none,bne_iff_ne,ne_eq]at hc
  obtain⟨⟨⟨⟨⟨rfl,rfl⟩,hb⟩,hv⟩,hxy⟩,hdi⟩:=hc
  obtain⟨e,h⟩:=st
  simp only[Ei,G7,reduceCtorEq,xqa,Bool.true_eq_false,false_and,or_false,true_and]at hx hy
  obtain⟨r1,st1,⟨c1,hs1,hc1⟩,rfl⟩:=hx
  obtain⟨r2,st2,⟨c2,hs2,hc2⟩,rfl⟩:=hy
  obtain⟨rfl,mv⟩:=q2L hs1
  simp only[Ak,St.put,xqn,if_false,xqa,xqd]at hs2
  obtain⟨rfl,rfl,rfl⟩:=hs2
  rw[q0D,if_neg hdi]at hc2
  have hn2:A0 h (RO.d ⟨some dy,.alloc false zs,none,id2⟩)=none:=by simpa using hc2
  have hk:Ae i (.lp (RO.d ⟨some dy,.alloc false zs,none,id2⟩) 0 0)=.lp (RO.d ⟨some dy,.alloc false zs,none,id2⟩) 0 0:=by simp only[Ae,kill1];rw[if_neg hdi]
  refine⟨⟨(dy,.lp (RO.d ⟨some dy,.alloc false zs,none,id2⟩) 0 0)::e,((RO.d ⟨some dy,.alloc false zs,none,id2⟩),.bx (zs.map fun z=>.t (C4 z)))::h⟩,⟨(dx,r1)::(dy,.lp (RO.d ⟨some dy,.alloc false zs,none,id2⟩) 0 0)::(St.kill i ⟨e,h⟩).env,(St.kill i ⟨(dy,.lp (RO.d ⟨some dy,.alloc false zs,none,id2⟩) 0 0)::e,((RO.d ⟨some dy,.alloc false zs,none,id2⟩),.bx (zs.map fun z=>.t (C4 z)))::h⟩).hp⟩,.inl ⟨rfl,.lp (RO.d ⟨some dy,.alloc false zs,none,id2⟩) 0 0,⟨e,((RO.d ⟨some dy,.alloc false zs,none,id2⟩),.bx (zs.map fun z=>.t (C4 z)))::h⟩,⟨_,by simp only[Ak,xqn,if_false],hn2⟩,rfl⟩,.inl ⟨rfl,r1,_,⟨c1,mv _ _ (q0e hb _) (q0e hv _) (by simp only[A0];rw[if_neg hdi]),hc1⟩,?_⟩,fun k=>?_,fun k=>?_⟩
  ·simp only[St.put,St.kill,xqm,hk]
  ·exact W5 hxy
  ·exact(qCp hdi).symm
 ·rename_i zs i ty b v dy dx ox oy e1 e2
  simp only at ox oy e1 e2
  subst ox;subst oy;subst e1;subst e2
  simp only[xqc,Option.isNone_iff_eq_none,bne_iff_ne,ne_eq]at hc
  obtain⟨⟨⟨⟨⟨rfl,rfl⟩,hb⟩,hv⟩,hxy⟩,hdi⟩:=hc
  obtain⟨e,h⟩:=st
  simp only[Ei,G7,reduceCtorEq,xqa,Bool.true_eq_false,false_and,or_false,true_and]at hx hy
  obtain⟨r1,st1,⟨c1,hs1,hc1⟩,rfl⟩:=hx
  obtain⟨r2,st2,⟨c2,hs2,hc2⟩,rfl⟩:=hy
  simp only[Ak,xqn,if_false,xqa,xqd]at hs1
  obtain⟨rfl,rfl,rfl⟩:=hs1
  have hk:Ae i (.lp (RO.d ⟨some dy,.alloc false zs,none,id1⟩) 0 0)=.lp (RO.d ⟨some dy,.alloc false zs,none,id1⟩) 0 0:=by simp only[Ae,kill1];rw[if_neg hdi]
  obtain⟨rfl,mv⟩:=q2L hs2
  refine⟨_,⟨(dy,.lp (RO.d ⟨some dy,.alloc false zs,none,id1⟩) 0 0)::(dx,r2)::(St.kill i ⟨e,h⟩).env,((RO.d ⟨some dy,.alloc false zs,none,id1⟩),.bx (zs.map fun z=>.t (C4 z)))::(St.kill i ⟨e,h⟩).hp⟩,.inl ⟨rfl,r2,_,⟨c2,mv _ _ (q0e hb _).symm (q0e hv _).symm (by show A0 h i=A0 (_::h) i;simp only[A0];rw[if_neg hdi]),hc2⟩,rfl⟩,.inl ⟨rfl,.lp (RO.d ⟨some dy,.alloc false zs,none,id1⟩) 0 0,⟨(dx,r2)::(St.kill i ⟨e,h⟩).env,((RO.d ⟨some dy,.alloc false zs,none,id1⟩),.bx (zs.map fun z=>.t (C4 z)))::(St.kill i ⟨e,h⟩).hp⟩,⟨_,by simp only[Ak,St.put,xqn,if_false];rfl,?_⟩,rfl⟩,fun k=>?_,fun k=>?_⟩
  ·rw[q0D,if_neg hdi,hc1];rfl
  ·simp only[St.put,St.kill,xqm,hk]
   exact W5 (fun q=>hxy q.symm)
  ·exact qCp hdi
theorem qE1 {K:Nat} {a:AV} (hK:∃ ty s es,A0 h K=some (.sl ty s es)) (hs:Kv h a=true):Ae K a=a:=by
 obtain⟨ty,s,es,hK⟩:=hK
 unfold Kv at hs
 split at hs
 ·rfl
 ·rename_i id i k
  have:id≠K:=fun e=>by rw[e,hK]at hs;cases hs
  simp only[Ae,kill1,if_neg this]
 ·rename_i id
  have:id≠K:=fun e=>by rw[e,hK]at hs;cases hs
  simp only[Ae,kill1,if_neg this]
 ·rename_i id _ _ _
  have:id≠K:=fun e=>by rw[e,hK]at hs;cases hs
  simp only[Ae,kill1,if_neg this]
 ·cases hs
theorem qBm {ty s0 d dx:Nat} {tb:Nat} {v:Operand} {rx:AV} (hs:Ak Γ d (.app false ty s0 (.tmp tb) v) ⟨(dx,rx)::e,h⟩=some (c,r,st1)) (hb:tb≠dx) (hv:nt v dx=true) (hc:c) :
  ∃ (K:Option Nat) (q:Aw),(∀ id,K=some id->∃ ty s es,A0 h id=some (.sl ty s es))/\A0 (klH K h) d=none/\st1=⟨(dx,W6 K rx)::e.map fun p=>(p.1,W6 K p.2),(d,q)::klH K h⟩/\Ak Γ d (.app false ty s0 (.tmp tb) v) ⟨e,h⟩=some (c,r,⟨e.map fun p=>(p.1,W6 K p.2),(d,q)::klH K h⟩):=by
 have idm:∀ l:List (Nat×AV),l.map (fun p=>(p.1,W6 none p.2))=l:=fun l=>by simp[W6]
 have e1:ev Γ ((dx,rx)::e) (.tmp tb)=A0 e tb:=by simp only[ev,A0];rw[if_neg (fun q=>hb q.symm)]
 have e2:ev Γ ((dx,rx)::e) v=ev Γ e v:=q0e hv rx
 have e3:ev Γ e (.tmp tb)=A0 e tb:=rfl
 simp only[Ak,e1,e2,e3]at hs ⊢
 revert hs
 cases ev Γ e v with
 | none=>simp
 | some ax =>
  simp only[xqs]
  cases C3 h ax with
  | none=>simp
  | some news =>
   simp only[xqs]
   cases hla:A0 e tb with
   | none=>simp
   | some a =>
    simp only[xqs,xqn,if_false]
    intro hs
    split at hs
    ·simp only[xqa,xqd]at hs
     obtain⟨rfl,rfl,rfl⟩:=hs
     exact⟨none,_,(fun id h=>by cases h),hc.2,by simp only[idm];rfl,by rw[idm];rfl⟩
    ·split at hs
     case h_2=>cases hs
     simp only[xqa,xqd]at hs
     obtain⟨rfl,rfl,rfl⟩:=hs
     exact⟨none,_,(fun id h=>by cases h),hc.2,by simp only[idm];rfl,by rw[idm];rfl⟩
    ·split at hs
     case h_2=>cases hs
     rename_i hlk
     simp only[xqa,xqd]at hs
     obtain⟨rfl,rfl,rfl⟩:=hs
     exact⟨some _,_,(fun id h=>by cases h;exact⟨_,_,_,hlk⟩),hc.2,rfl,rfl⟩
    ·cases hs
theorem qAS (hc:qEy x y=true) (hx:Ei P Γ x st s) (hy:Ei P Γ y s s2):∃ t t2,Ei P Γ y st t/\Ei P Γ x t t2/\Ey s2 t2:=by
 obtain⟨dst1,op1,g1,id1⟩:=x
 obtain⟨dst2,op2,g2,id2⟩:=y
 unfold qEy at hc
 split at hc
 case h_2=>cases hc
 rename_i ty s0 b v dx dy ox e1 e2
 simp only at ox e1 e2
 subst ox;subst e1;subst e2
 simp only[xqc,Option.isNone_iff_eq_none,bne_iff_ne,ne_eq]at hc
 obtain⟨⟨⟨⟨⟨⟨rfl,rfl⟩,hb⟩,hv⟩,hdd⟩,hops⟩,hkind⟩:=hc
 obtain⟨e,h⟩:=st
 have hkd:op1.kd<=1:=by
  revert hkind
  cases op1<;>simp[Bt.kd]
 have hxx:∃ r1 c1,Ak Γ (RO.d ⟨some dx,op1,none,id1⟩) op1 ⟨e,h⟩=some (c1,r1,⟨e,h⟩)/\c1/\s=⟨(dx,r1)::e,h⟩:=by
  simp only[Ei,G7,reduceCtorEq,xqa,Bool.true_eq_false,false_and,or_false,true_and]at hx
  obtain⟨r1,st1,hae,rfl⟩:=hx
  have:st1=⟨e,h⟩:=q3Q hkd hae
  subst this
  have:∃ c,Ak Γ (RO.d ⟨some dx,op1,none,id1⟩) op1 ⟨e,h⟩=some (c,r1,⟨e,h⟩)/\c:=by
   revert hkind
   cases op1<;>intro hk<;>first|exact hae|(exfalso;revert hk;simp;done)
  obtain⟨c,h1,h2⟩:=this
  exact⟨r1,c,h1,h2,rfl⟩
 obtain⟨r1,c1,hs1,hc1,rfl⟩:=hxx
 simp only[Ei,G7,reduceCtorEq,xqa,Bool.true_eq_false,false_and,or_false,true_and,Fg]at hy
 obtain⟨r2,st2,⟨c2,hs2,hc2⟩,rfl⟩:=hy
 obtain⟨K,q,hK,hdn,rfl,hs2'⟩:=qBm hs2 hb hv hc2
 have hsafe:∀ a,Kv h a=true->W6 K a=a:=fun a ha=>by
  cases K with
  | none=>rfl
  | some id=>exact qE1 (hK id rfl) ha
 have hev:∀ o a,nt o dy=true->ev Γ e o=some a->Kv h a=true->ev Γ ((dy,r2)::e.map fun p=>(p.1,W6 K p.2)) o=some a:=fun o a h4 ho hs=>by
  rw[qBl h4,ho];simp only[xql,hsafe a hs]
 have hbx:∀ id cs,A0 h id=some (.bx cs)->A0 ((RO.d ⟨some dy,.app false ty s0 (.tmp b) v,none,id2⟩,q)::klH K h) id=some (klR K (.bx cs)):=fun id cs hl=>by
  have h1:∀ q,K=some q->id≠q:=fun q hq e=>by
   obtain⟨ty,s,es,h2⟩:=hK q hq
   rw[e,h2]at hl;cases hl
  have h2:A0 (klH K h) id=some (klR K (.bx cs)):=by rw[q71 h1,hl];rfl
  simp only[A0]
  rw[if_neg (fun e=>by rw[e]at hdn;rw[h2]at hdn;cases hdn)]
  exact h2
 have hsafe2:∀ a,Kv h a=true->Kv ((RO.d ⟨some dy,.app false ty s0 (.tmp b) v,none,id2⟩,q)::klH K h) a=true:=fun a ha=>by
  have key:∀ id r,A0 h id=some r->(∀ ty s es,r ≠ .sl ty s es)->A0 ((RO.d ⟨some dy,.app false ty s0 (.tmp b) v,none,id2⟩,q)::klH K h) id=some (klR K r):=fun id r hl hn=>by
   have h1:∀ q,K=some q->id≠q:=fun q hq e=>by
    obtain⟨ty,s,es,h2⟩:=hK q hq
    rw[e,h2]at hl;exact hn _ _ _ (Option.some.inj hl).symm
   have h2:A0 (klH K h) id=some (klR K r):=by rw[q71 h1,hl];rfl
   simp only[A0]
   rw[if_neg (fun e=>by rw[e]at hdn;rw[h2]at hdn;cases hdn)]
   exact h2
  unfold Kv at ha ⊢
  split at ha
  ·rfl
  ·split at ha
   ·rename_i hl
    simp only[key _ _ hl (fun _ _ _ h=>by cases h)]
    cases K<;>rfl
   ·cases ha
  ·split at ha
   ·rename_i hl
    simp only[key _ _ hl (fun _ _ _ h=>by cases h)]
    cases K<;>rfl
   ·rename_i hl
    simp only[key _ _ hl (fun _ _ _ h=>by cases h)]
    cases K<;>rfl
   ·cases ha
  ·split at ha
   ·rename_i hl
    simp only[key _ _ hl (fun _ _ _ h=>by cases h)]
    cases K<;>rfl
   ·cases ha
  ·cases ha
 have hfin:Kv h r1=true->(∃ c,Ak Γ (RO.d ⟨some dx,op1,none,id1⟩) op1 ⟨(dy,r2)::e.map fun p=>(p.1,W6 K p.2),(RO.d ⟨some dy,.app false ty s0 (.tmp b) v,none,id2⟩,q)::klH K h⟩=some (c,r1,⟨(dy,r2)::e.map fun p=>(p.1,W6 K p.2),(RO.d ⟨some dy,.app false ty s0 (.tmp b) v,none,id2⟩,q)::klH K h⟩)/\c) ->
   ∃ t t2,Ei P Γ ⟨some dy,.app false ty s0 (.tmp b) v,none,id2⟩ ⟨e,h⟩ t/\Ei P Γ ⟨some dx,op1,none,id1⟩ t t2/\Ey (St.put ⟨(dx,W6 K r1)::e.map fun p=>(p.1,W6 K p.2),(RO.d ⟨some dy,.app false ty s0 (.tmp b) v,none,id2⟩,q)::klH K h⟩ (some dy) r2) t2:=by
  intro hr hqq
  refine⟨⟨(dy,r2)::e.map fun p=>(p.1,W6 K p.2),(RO.d ⟨some dy,.app false ty s0 (.tmp b) v,none,id2⟩,q)::klH K h⟩,_,.inl ⟨rfl,r2,_,⟨c2,hs2',hc2⟩,rfl⟩,.inl ⟨rfl,r1,⟨(dy,r2)::e.map fun p=>(p.1,W6 K p.2),(RO.d ⟨some dy,.app false ty s0 (.tmp b) v,none,id2⟩,q)::klH K h⟩,?_,rfl⟩,?_,fun k=>rfl⟩
  ·revert hkind
   cases op1<;>intro hk<;>first|exact hqq|(exfalso;revert hk;simp;done)
  ·rw[hsafe r1 hr]
   exact fun k=>W5 hdd
 cases op1 with
 | mvP o =>
  have h4:=xqz.1 hops o (by simp[Bt.opds])
  simp only[Ak,xqk]at hs1
  obtain⟨a,ha,hs1⟩:=hs1
  split at hs1
  ·rename_i hsf
   simp only[xqa,xqd]at hs1
   obtain⟨rfl,rfl,_⟩:=hs1
   exact hfin hsf ⟨True,by simp only[Ak,hev o _ h4 ha hsf,xqs,hsafe2 _ hsf,if_true],trivial⟩
  ·cases hs1
 | nckP o =>
  have h4:=xqz.1 hops o (by simp[Bt.opds])
  simp only[Ak]at hs1
  split at hs1
  case h_2=>cases hs1
  rename_i ha
  split at hs1
  ·rename_i hsf
   simp only[xqa,xqd]at hs1
   obtain⟨rfl,rfl,_⟩:=hs1
   exact hfin hsf ⟨True,by simp only[Ak,hev o _ h4 ha hsf,hsafe2 _ hsf,if_true],trivial⟩
  ·cases hs1
 | fadP off o =>
  have h4:=xqz.1 hops o (by simp[Bt.opds])
  simp only[Ak]at hs1
  split at hs1
  case h_2=>cases hs1
  rename_i ha
  split at hs1
  ·rename_i hsf
   simp only[xqa,xqd]at hs1
   obtain⟨rfl,rfl,_⟩:=hs1
   exact hfin (by simpa[Kv]using hsf) ⟨True,by simp only[Ak,hev o _ h4 ha hsf,hsafe2 _ hsf,if_true],trivial⟩
  ·cases hs1
 | ldP n o =>
  have h4:=xqz.1 hops o (by simp[Bt.opds])
  simp only[Ak]at hs1
  split at hs1
  case h_2=>cases hs1
  rename_i id i k ha
  split at hs1
  case h_2=>cases hs1
  rename_i cs hl
  split at hs1
  ·rename_i hsf
   simp only[xqa,xqd]at hs1
   obtain⟨rfl,rfl,_⟩:=hs1
   have hsp:Kv h (.lp id i k)=true:=by simp only[Kv,hl]
   have hcell:(((cs.map (W6 K)).drop k).take n).headD .dead=((cs.drop k).take n).headD .dead:=by
    rw[<- List.map_drop,<- List.map_take]
    have e0:AV.dead=W6 K .dead:=q70.symm
    conv=>lhs;rw[e0]
    rw[q58]
    exact hsafe _ hsf
   have hlk:A0 ((RO.d ⟨some dy,.app false ty s0 (.tmp b) v,none,id2⟩,q)::klH K h) id=some (.bx (cs.map (W6 K))):=by
    rw[hbx id cs hl]
    cases K with
    | none =>
     simp only[klR]
     congr 2
     exact(List.map_id cs).symm
    | some i=>rfl
   exact hfin hsf ⟨i=0/\k+n<=cs.length,by simp only[Ak,hev o _ h4 ha hsp,hlk,hcell,hsafe2 _ hsf,if_true,xq4],hc1⟩
  ·cases hs1
 | iadT s1 o i =>
  have h4:=xqz.1 hops o (by simp[Bt.opds])
  have h5:=xqz.1 hops i (by simp[Bt.opds])
  simp only[Ak]at hs1
  split at hs1
  ·rename_i ha hi
   simp only[xqa,xqd]at hs1
   obtain⟨rfl,rfl,_⟩:=hs1
   exact hfin rfl ⟨_,by simp only[Ak,hev o _ h4 ha rfl,hev i _ h5 hi rfl],hc1⟩
  ·cases hs1
 | ldT n g o =>
  have h4:=xqz.1 hops o (by simp[Bt.opds])
  simp only[Ak]at hs1
  split at hs1
  ·rename_i ha
   simp only[xqa,xqd]at hs1
   obtain⟨rfl,rfl,_⟩:=hs1
   exact hfin rfl ⟨_,by simp only[Ak,hev o _ h4 ha rfl],hc1⟩
  ·cases hs1
 | _=>cases hkind
theorem qBn (hc:qBj x y=true) (hx:Ei P Γ x st s) (hy:Ei P Γ y s s2):∃ t t2,Ei P Γ y st t/\Ei P Γ x t t2/\Ey s2 t2:=by
  rw[qBj,xzz,xzz,xzz,xzz]at hc
  rcases hc with(((hc|hc)|hc)|hc)|hc
  · exact qAO hc hx hy
  · exact qAR hc hx hy
  · exact qAQ hc hx hy
  · exact qAS hc hx hy
  simp only[xqc,xzz,xqu,xz0]at hc
  obtain⟨⟨⟨⟨kx,ky⟩,kk⟩,c1⟩,c2⟩:=hc
  obtain⟨e,h⟩:=st
  obtain⟨r,h1,h2,rfl⟩:=qCm kx hx
  obtain⟨r',h3,h4,rfl⟩:=qCm ky hy
  have ry:∀ t∈y.reads,x.dst≠some t:=by
    intro t ht he
    rw[he]at c1
    simp only[xqc,Bool.not_eq_true',List.contains_eq_mem,decide_eq_false_iff_not]at c1
    exact c1.1 ht
  have rx:∀ t∈x.reads,y.dst≠some t:=by
    intro t ht he
    rw[he]at c2
    simp only[Bool.not_eq_true',List.contains_eq_mem,decide_eq_false_iff_not]at c2
    exact c2 ht
  have xy:∀ t,x.dst=some t->y.dst≠some t:=by
    intro t he hy'
    rw[he,hy']at c1
    simp at c1
  rw[qCn]at h4
  have h5:Bi P Γ y ⟨e,h1⟩ r' h3:=h4.env ky fun t ht=>(qAN (ry t ht)).symm
  have key:∃ hm he,Bi P Γ y ⟨e,h⟩ r' hm/\Bi P Γ x ⟨e,hm⟩ r he/\∀ k,A0 he k=A0 h3 k:=by
    rcases kk with(kk|kk)|kk
    · refine⟨if x.op.kd<=1 then h3 else h,h3,?_,?_,fun k=>rfl⟩
      all_goals
        by_cases k1:x.op.kd<=1
        · rw[if_pos k1]
          have:=h2.same k1;subst this
          first
          | exact h5
          | (rcases kk with((k0|k0)|k0)|k0
             · exact h2.hp k0
             · have:=h5.same (by omega);subst this;exact h2
             · have:=h5.same k0.2;subst this;exact h2
             · exact h2.add (h5.newN k0.2) k1)
        · rw[if_neg k1]
          have k0:y.op.kd=0:=by
            rcases kk with((k0|k0)|k0)|k0
            · omega
            · exact k0
            · omega
            · omega
          have:=h5.same (by omega);subst this
          first
          | exact h2
          | exact h5.hp k0
    · exact qGu kk.1 kk.2 h2 h5
    · exact qF1 kk h2 h5
  obtain⟨hm,he,key1,key2,key3⟩:=key
  have h6:Bi P Γ x ⟨(St.put ⟨e,hm⟩ y.dst r').env,hm⟩ r he:=key2.env kx fun t ht=>qAN (rx t ht)
  have h7:=h6.step
  rw[<- qCn]at h7
  refine⟨_,_,key1.step,h7,fun k=>?_,fun k=>by simp only[qIe];exact key3 k⟩
  cases hxd:x.dst<;>cases hyd:y.dst<;>simp only[St.put]
  rename_i a b
  have hne:b≠a:=fun e=>xy a hxd (e ▸ hyd)
  simp only[A0]
  by_cases h1:a=k
  · have:b≠k:=fun e=>hne (e.trans h1.symm)
    simp[h1,this]
  · simp[h1]
def q1I (a b:St):Prop:=(∀ k,A0 b.env k=A0 a.env k)/\b.hp=a.hp
theorem q1J {a b:St} {dst:Option Nat} (h:Ey a b):Ey (a.put dst r) (b.put dst r):=by
 cases dst with
 | none=>exact h
 | some t =>
  refine⟨fun k=>?_,h.2⟩
  simp only[St.put,A0]
  split
  ·rfl
  ·exact h.1 k
theorem q9d (hl:q1I st st') (hs:Fg P Γ d io st r s):∃ s',Fg P Γ d io st' r s'/\q1I s s':=by
 obtain⟨e,h⟩:=st
 obtain⟨e',h'⟩:=st'
 obtain⟨hl1,hl2⟩:=hl
 simp only at hl1 hl2;subst hl2
 have hev:∀ o,ev Γ e' o=ev Γ e o:=by
  intro o
  cases o with
  | tmp t=>exact hl1 t
  | _=>rfl
 by_cases hk:io.kd<=2
 ·have:=q55 hk (fun o _=>hev o) hs
  refine⟨_,this.2,fun k=>?_,rfl⟩
  rw[this.1];exact hl1 k
 ·cases io
  case hcall f args rs base =>
   obtain⟨as,res,hp',h1,h2,h3,h4,rfl,rfl⟩:=hs
   refine⟨_,⟨as,res,hp',(Gx fun o _=>hev o).trans h1,h2,h3,h4,rfl,rfl⟩,fun k=>?_,rfl⟩
   have:=hl1 k
   simp only[Ea,Dz (A8 (N3 rs hp')),this]
  case hcallW f args base =>
   obtain⟨rs,as,res,hp',h1,h2,h3,h4,rfl,rfl⟩:=hs
   refine⟨_,⟨rs,as,res,hp',(Gx fun o _=>hev o).trans h1,h2,h3,h4,rfl,rfl⟩,fun k=>?_,rfl⟩
   have:=hl1 k
   simp only[Ea,Dz (A8 (N3 rs hp')),this]
  case hcallv x args rs base =>
   obtain⟨av,f,cs,as,res,hp',g1,g2,h1,h2,h3,h4,rfl,rfl⟩:=hs
   refine⟨_,⟨av,f,cs,as,res,hp',(hev x).trans g1,g2,(Gx fun o _=>hev o).trans h1,h2,h3,h4,rfl,rfl⟩,fun k=>?_,rfl⟩
   have:=hl1 k
   simp only[Ea,Dz (A8 (N3 rs hp')),this]
  case hcallvW x args base =>
   obtain⟨rs,av,f,cs,as,res,hp',g1,g2,h1,h2,h3,h4,rfl,rfl⟩:=hs
   refine⟨_,⟨rs,av,f,cs,as,res,hp',(hev x).trans g1,g2,(Gx fun o _=>hev o).trans h1,h2,h3,h4,rfl,rfl⟩,fun k=>?_,rfl⟩
   have:=hl1 k
   simp only[Ea,Dz (A8 (N3 rs hp')),this]
  case hcallB x args base =>
   obtain⟨rs,av,f,cs,as,res,hp',g1,g2,h1,h2,h3,h4,rfl,rfl⟩:=hs
   refine⟨_,⟨rs,av,f,cs,as,res,hp',(hev x).trans g1,g2,(Gx fun o _=>hev o).trans h1,h2,h3,h4,rfl,rfl⟩,fun k=>?_,rfl⟩
   have:=hl1 k
   simp only[Ea,Dz (A8 (N3 rs hp')),this]
  case cpy s0 x y =>
   obtain⟨c,hs,hc⟩:=hs
   simp only[Ak]at hs
   split at hs
   case h_2=>cases hs
   rename_i id off len cap f1
   split at hs
   case h_2=>cases hs
   rename_i ty2 q es f2
   obtain⟨news,hn,he⟩:=xqb.1 hs
   simp only[xqd]at he
   obtain⟨rfl,rfl,rfl⟩:=he
   exact⟨⟨e',_⟩,⟨_,by simp only[Ak,hev,f1,f2,hn,xql],hc⟩,hl1,rfl⟩
  case app fz ty s0 b x =>
   obtain⟨c,hs,hc⟩:=hs
   simp only[Ak]at hs
   revert hs
   cases hx:ev Γ e x with
   | none=>simp
   | some ax =>
    simp only[xqs]
    cases hn:C3 h' ax with
    | none=>simp
    | some news =>
     simp only[xqs]
     cases hb:ev Γ e b with
     | none=>simp
     | some a =>
      simp only[xqs]
      have fin:∀ {c0:Prop} {es:List (List T)} {t t':St},q1I t t' ->
        (if fz=true then some (Es s0 news/\c0,AV.t (T.sl es none none),t)else some ((Es s0 news/\c0)/\A0 t.hp d=none,AV.ls d 0 es.length none,(⟨t.env,(d,Aw.sl ty s0 es)::t.hp⟩:St)))=some (c,r,s) ->
        ∃ s',(if fz=true then some (Es s0 news/\c0,AV.t (T.sl es none none),t')else some ((Es s0 news/\c0)/\A0 t'.hp d=none,AV.ls d 0 es.length none,(⟨t'.env,(d,Aw.sl ty s0 es)::t'.hp⟩:St)))=some (c,r,s')/\q1I s s':=by
       intro c0 es t t' hl hq
       obtain⟨h1,h2⟩:=hl
       split at hq
       ·rename_i hf
        simp only[xqa,xqd]at hq
        obtain⟨rfl,rfl,rfl⟩:=hq
        rw[if_pos hf]
        exact⟨t',rfl,h1,h2⟩
       ·rename_i hf
        simp only[xqa,xqd]at hq
        obtain⟨rfl,rfl,rfl⟩:=hq
        rw[if_neg hf,h2]
        exact⟨_,rfl,h1,rfl⟩
      have out:∀ {s'},Ak Γ d (.app fz ty s0 b x) ⟨e',h'⟩=some (c,r,s')->q1I s s'->∃ s',Fg P Γ d (.app fz ty s0 b x) ⟨e',h'⟩ r s'/\q1I s s':=fun h1 h2=>⟨_,⟨c,h1,hc⟩,h2⟩
      have hst:q1I ⟨e,h'⟩ ⟨e',h'⟩:=⟨hl1,rfl⟩
      have hki:∀ id,q1I (St.kill id ⟨e,h'⟩) (St.kill id ⟨e',h'⟩):=by
       intro id
       refine⟨fun k=>?_,rfl⟩
       have:=hl1 k
       simp only[St.kill,Dz (Ae id),this]
      split
      ·intro hq
       obtain⟨s',h1,h2⟩:=fin hst hq
       exact out (s':=s') (by simp only[Ak,hev,hx,hn,hb,xqs];exact h1) h2
      ·split
       ·intro hq
        rename_i hlk
        obtain⟨s',h1,h2⟩:=fin hst hq
        exact out (s':=s') (by simp only[Ak,hev,hx,hn,hb,xqs,hlk];exact h1) h2
       ·simp
      ·split
       ·intro hq
        rename_i hlk
        obtain⟨s',h1,h2⟩:=fin (hki _) hq
        exact out (s':=s') (by simp only[Ak,hev,hx,hn,hb,xqs,hlk];exact h1) h2
       ·simp
      ·simp
  case appR fz i0 ty b x =>
   obtain⟨c,hs,hc⟩:=hs
   simp only[Ak]at hs
   revert hs
   split
   ·rename_i news _ _ id len hx hb
    split
    ·rename_i t q es hlk
     intro hq
     have he:∀ k,A0 (St.kill i0 ⟨e',h'⟩).env k=A0 (St.kill i0 ⟨e,h'⟩).env k:=fun k=>by
      have:=hl1 k
      simp only[St.kill,Dz (Ae i0),this]
     cases fz with
     | true =>
      simp only[if_true,xqa,xqd]at hq
      obtain⟨rfl,rfl,rfl⟩:=hq
      exact⟨St.kill i0 ⟨e',h'⟩,⟨_,by simp only[Ak,hev,hx,hb,hlk,if_true],hc⟩,he,rfl⟩
     | false =>
      simp only[xqn,if_false,xqa,xqd]at hq
      obtain⟨rfl,rfl,rfl⟩:=hq
      exact⟨⟨(St.kill i0 ⟨e',h'⟩).env,(d,.sl ty 1 (es.take len++news))::(St.kill i0 ⟨e',h'⟩).hp⟩,⟨_,by simp only[Ak,hev,hx,hb,hlk,xqn,if_false];rfl,hc⟩,he,rfl⟩
    ·simp
   ·simp
  all_goals simp[Bt.kd]at hk
  all_goals (split at hk<;>simp at hk)
theorem q2h (hl:∀ k,A0 h' k=A0 h k) (a:AV):C3 h' a=C3 h a:=by
 unfold C3
 split<;>simp only[hl]
theorem Iu (hl:∀ k,A0 h' k=A0 h k) (i:Nat) (q:Aw):∀ k,A0 (Dn i q h') k=A0 (Dn i q h) k:=fun k=>by simp only[Em,hl]
theorem q72 (hl:∀ k,A0 h' k=A0 h k) (i:Nat):∀ k,A0 (St.kill i ⟨e,h'⟩).hp k=A0 (St.kill i ⟨e,h⟩).hp k:=fun k=>by simp only[Lp,hl]
theorem q9e (hl:∀ k,A0 h' k=A0 h k) (hs:Fg P Γ d io ⟨e,h⟩ r s):∃ s',Fg P Γ d io ⟨e,h'⟩ r s'/\Ey s s':=by
 by_cases hk:io.kd<=1
 ·have h1:=q3Q hk hs
  subst h1
  exact⟨_,q8m (fun id x hx=>(hl id).trans hx) hk hs,fun _=>rfl,hl⟩
 have cons:∀ (d:Nat) (q:Aw) (k:Nat),A0 ((d,q)::h') k=A0 ((d,q)::h) k:=fun d q k=>by simp only[A0,hl]
 by_cases hn:io.isNew=true
 ·have gen:(∃ c,Ak Γ d io ⟨e,h⟩=some (c,r,s)/\c)->∃ s',(∃ c,Ak Γ d io ⟨e,h'⟩=some (c,r,s')/\c)/\Ey s s':=by
   rintro⟨c,hs,hc⟩
   have hen:s.env=e:=by
    have:=q6U (Γ:=Γ) (d:=d) (e:=e) (e':=e) (h:=h) (io:=io) (by cases io<;>simp[Bt.isNew,Bt.kd]at hn ⊢<;>split<;>omega) (fun _ _=>rfl)
    rw[hs]at this
    simp only[xql,xqa,xqd]at this
    rw[this.2.2]
   rcases qAM hn hs hc with⟨h2,h3⟩|⟨q,h2,h3,h4⟩
   ·exact⟨_,h3 h',fun k=>by rw[hen],fun k=>by rw[h2];exact hl k⟩
   ·exact⟨_,h4 h' ((hl d).trans h2),fun k=>by rw[hen],fun k=>by rw[h3];exact cons d q k⟩
  cases io with
  | call f args=>simp[Bt.isNew]at hn
  | callv f args=>simp[Bt.isNew]at hn
  | hcall=>simp[Bt.isNew]at hn
  | hcallv=>simp[Bt.isNew]at hn
  | hcallW=>simp[Bt.isNew]at hn
  | hcallvW=>simp[Bt.isNew]at hn
  | hcallB=>simp[Bt.isNew]at hn
  | ncall=>simp[Bt.isNew]at hn
  | callT=>simp[Bt.isNew]at hn
  | rcall=>simp[Bt.isNew]at hn
  | _=>exact gen hs
 cases io
 all_goals try (simp[Bt.kd]at hk;done)
 all_goals try (simp[Bt.isNew]at hn;done)
 case store n a x =>
  obtain⟨c,hs,hc⟩:=hs
  simp only[Ak,xqk]at hs
  obtain⟨v,hv,hs⟩:=hs
  split at hs
  case h_2=>cases hs
  rename_i id i k ha
  split at hs
  ·rename_i ty s0 es hq
   simp only[xqb,xqd]at hs
   obtain⟨ts,hts,rfl,rfl,rfl⟩:=hs
   exact⟨⟨e,Dn id _ h'⟩,⟨_,by simp only[Ak,hv,ha,hl,hq,hts,xqs,xql],hc⟩,fun _=>rfl,Iu hl _ _⟩
  ·rename_i ty s0 es hq
   simp only[xqa,xqd]at hs
   obtain⟨rfl,rfl,rfl⟩:=hs
   exact⟨⟨e,Dn id _ h'⟩,⟨_,by simp only[Ak,hv,ha,hl,hq,xqs],hc⟩,fun _=>rfl,Iu hl _ _⟩
  ·rename_i cs hq
   simp only[xqa,xqd]at hs
   obtain⟨rfl,rfl,rfl⟩:=hs
   exact⟨⟨e,Dn id _ h'⟩,⟨_,by simp only[Ak,hv,ha,hl,hq,xqs],hc⟩,fun _=>rfl,Iu hl _ _⟩
  ·cases hs
 case stR id n a x =>
  obtain⟨c,hs,hc⟩:=hs
  have hen:s.env=e:=by
   have:=q6U (Γ:=Γ) (d:=d) (e:=e) (e':=e) (h:=h) (io:=.stR id n a x) (by simp[Bt.kd]) (fun _ _=>rfl)
   rw[hs]at this
   simp only[xql,xqa,xqd]at this
   rw[this.2.2]
  obtain⟨q,q',h2,h3,h4,h5⟩:=qCl hs hc
  exact⟨_,h5 h' ((hl id).trans h2),fun k=>by rw[hen],fun k=>by rw[h4];exact Iu hl _ _ k⟩
 case mup kt m k x =>
  obtain⟨c,hs,hc⟩:=hs
  simp only[Ak]at hs
  split at hs
  case h_2=>cases hs
  rename_i kv id e1 e2
  split at hs
  case h_2=>cases hs
  rename_i es hq
  simp only[xqb,xqd]at hs
  obtain⟨t,ht,rfl,rfl,rfl⟩:=hs
  exact⟨⟨e,Dn id _ h'⟩,⟨_,by simp only[Ak,e1,e2,hl,hq,ht,xql],hc⟩,fun _=>rfl,Iu hl _ _⟩
 case mupA kt m k x =>
  obtain⟨c,hs,hc⟩:=hs
  simp only[Ak]at hs
  split at hs
  case h_2=>cases hs
  rename_i kv id e1 e2
  split at hs
  case h_2=>cases hs
  rename_i es hq
  simp only[xqb,xqd]at hs
  obtain⟨t,ht,rfl,rfl,rfl⟩:=hs
  exact⟨⟨e,Dn id _ h'⟩,⟨_,by simp only[Ak,e1,e2,hl,hq,ht,xql],hc⟩,fun _=>rfl,Iu hl _ _⟩
 case mdel kt m k =>
  obtain⟨c,hs,hc⟩:=hs
  simp only[Ak]at hs
  split at hs
  case h_2=>cases hs
  rename_i kv id e1 e2
  split at hs
  case h_2=>cases hs
  rename_i es hq
  simp only[xqa,xqd]at hs
  obtain⟨rfl,rfl,rfl⟩:=hs
  exact⟨⟨e,Dn id _ h'⟩,⟨_,by simp only[Ak,e1,e2,hl,hq],hc⟩,fun _=>rfl,Iu hl _ _⟩
 case nxt x =>
  obtain⟨c,hs,hc⟩:=hs
  simp only[Ak]at hs
  split at hs
  case h_2=>cases hs
  rename_i id e1
  split at hs
  case h_2=>cases hs
  rename_i b pos hq
  split at hs<;>rename_i hp<;>simp only[xqa,xqd]at hs<;>obtain⟨rfl,rfl,rfl⟩:=hs
  ·exact⟨⟨e,Dn id _ h'⟩,⟨True,by simp only[Ak,e1,hl,hq,hp,↓reduceIte],trivial⟩,fun _=>rfl,Iu hl _ _⟩
  ·exact⟨⟨e,h'⟩,⟨True,by simp only[Ak,e1,hl,hq,hp,↓reduceIte],trivial⟩,fun _=>rfl,hl⟩
 case hcall f args rs base =>
  obtain⟨as,res,hp',h1,h2,h3,h4,rfl,rfl⟩:=hs
  have hh:Bv rs h'=Bv rs h:=by simp only[Bv,hl]
  have hb:∀ l,Uk rs base h l->Uk rs base h' l:=by
   intro l
   induction l with
   | nil=>exact fun h=>h
   | cons p l ih=>intro hq;obtain⟨j,q⟩:=p;simp only[Uk,hl]at hq ⊢;exact⟨hq.1,ih hq.2⟩
  refine⟨_,⟨as,res,hp',h1,h2,by simp only[hh];exact h3,hb _ h4,rfl,rfl⟩,fun k=>rfl,fun k=>?_⟩
  simp only[Ea,Cb,Jn,hl]
 case hcallW f args base =>
  obtain⟨rs,as,res,hp',h1,h2,h3,h4,rfl,rfl⟩:=hs
  have hh:Bv rs h'=Bv rs h:=by simp only[Bv,hl]
  have hb:∀ l,Uk rs base h l->Uk rs base h' l:=by
   intro l
   induction l with
   | nil=>exact fun h=>h
   | cons p l ih=>intro hq;obtain⟨j,q⟩:=p;simp only[Uk,hl]at hq ⊢;exact⟨hq.1,ih hq.2⟩
  refine⟨_,⟨rs,as,res,hp',h1,h2,by simp only[hh];exact h3,hb _ h4,rfl,rfl⟩,fun k=>rfl,fun k=>?_⟩
  simp only[Ea,Cb,Jn,hl]
 case hcallv x args rs base =>
  obtain⟨av,f,cs,as,res,hp',g1,g2,h1,h2,h3,h4,rfl,rfl⟩:=hs
  have hh:Bv rs h'=Bv rs h:=by simp only[Bv,hl]
  have hb:∀ l,Uk rs base h l->Uk rs base h' l:=by
   intro l
   induction l with
   | nil=>exact fun h=>h
   | cons p l ih=>intro hq;obtain⟨j,q⟩:=p;simp only[Uk,hl]at hq ⊢;exact⟨hq.1,ih hq.2⟩
  refine⟨_,⟨av,f,cs,as,res,hp',g1,g2,h1,h2,by simp only[hh];exact h3,hb _ h4,rfl,rfl⟩,fun k=>rfl,fun k=>?_⟩
  simp only[Ea,Cb,Jn,hl]
 case hcallvW x args base =>
  obtain⟨rs,av,f,cs,as,res,hp',g1,g2,h1,h2,h3,h4,rfl,rfl⟩:=hs
  have hh:Bv rs h'=Bv rs h:=by simp only[Bv,hl]
  have hb:∀ l,Uk rs base h l->Uk rs base h' l:=by
   intro l
   induction l with
   | nil=>exact fun h=>h
   | cons p l ih=>intro hq;obtain⟨j,q⟩:=p;simp only[Uk,hl]at hq ⊢;exact⟨hq.1,ih hq.2⟩
  refine⟨_,⟨rs,av,f,cs,as,res,hp',g1,g2,h1,h2,by simp only[hh];exact h3,hb _ h4,rfl,rfl⟩,fun k=>rfl,fun k=>?_⟩
  simp only[Ea,Cb,Jn,hl]
 case hcallB x args base =>
  obtain⟨rs,av,f,cs,as,res,hp',g1,g2,h1,h2,h3,h4,rfl,rfl⟩:=hs
  have hh:Bv rs h'=Bv rs h:=by simp only[Bv,hl]
  have hb:∀ l,Uk rs base h l->Uk rs base h' l:=by
   intro l
   induction l with
   | nil=>exact fun h=>h
   | cons p l ih=>intro hq;obtain⟨j,q⟩:=p;simp only[Uk,hl]at hq ⊢;exact⟨hq.1,ih hq.2⟩
  refine⟨_,⟨rs,av,f,cs,as,res,hp',g1,g2,h1,h2,by simp only[hh];exact h3,hb _ h4,rfl,rfl⟩,fun k=>rfl,fun k=>?_⟩
  simp only[Ea,Cb,Jn,hl]
 case ncall f args base =>
  obtain⟨as,res,hp',h1,h2,h3,h4,rfl⟩:=hs
  have hb:∀ l,Uk [] base h l->Uk [] base h' l:=by
   intro l
   induction l with
   | nil=>exact fun h=>h
   | cons p l ih=>intro hq;obtain⟨j,q⟩:=p;simp only[Uk,hl]at hq ⊢;exact⟨hq.1,ih hq.2⟩
  exact⟨_,⟨as,res,hp',h1,h2,hb _ h3,h4,rfl⟩,fun k=>rfl,fun k=>by simp only[Cb,hl]⟩
 case cpy s0 x y =>
  obtain⟨c,hs,hc⟩:=hs
  simp only[Ak]at hs
  split at hs
  case h_2=>cases hs
  rename_i id off len cap f1
  split at hs
  case h_2=>cases hs
  rename_i ty2 q es f2
  obtain⟨news,hn,he⟩:=xqb.1 hs
  simp only[xqd]at he
  obtain⟨rfl,rfl,rfl⟩:=he
  obtain⟨ay,fy,fe⟩:=xqk.1 hn
  exact⟨⟨e,Dn id _ h'⟩,⟨_,by simp only[Ak,f1,hl,f2,fy,xqs,(q2h hl ay).trans fe,xql],hc⟩,fun _=>rfl,Iu hl _ _⟩
 case app fz ty s0 b x =>
  obtain⟨c,hs,hc⟩:=hs
  simp only[Ak]at hs
  revert hs
  cases hx:ev Γ e x with
  | none=>simp
  | some ax =>
   simp only[xqs]
   cases hn:C3 h ax with
   | none=>simp
   | some news =>
    have hn':=(q2h hl ax).trans hn
    simp only[xqs]
    cases hb:ev Γ e b with
    | none=>simp
    | some a =>
     simp only[xqs]
     have fin:∀ {c0:Prop} {es:List (List T)} {t t':St},Ey t t' ->
       (if fz=true then some (Es s0 news/\c0,AV.t (T.sl es none none),t)else some ((Es s0 news/\c0)/\A0 t.hp d=none,AV.ls d 0 es.length none,(⟨t.env,(d,Aw.sl ty s0 es)::t.hp⟩:St)))=some (c,r,s) ->
       ∃ c' s',(if fz=true then some (Es s0 news/\c0,AV.t (T.sl es none none),t')else some ((Es s0 news/\c0)/\A0 t'.hp d=none,AV.ls d 0 es.length none,(⟨t'.env,(d,Aw.sl ty s0 es)::t'.hp⟩:St)))=some (c',r,s')/\c'/\Ey s s':=by
      intro c0 es t t' hl hq
      obtain⟨h1,h2⟩:=hl
      split at hq
      ·rename_i hf
       simp only[xqa,xqd]at hq
       obtain⟨rfl,rfl,rfl⟩:=hq
       rw[if_pos hf]
       exact⟨_,t',rfl,hc,h1,h2⟩
      ·rename_i hf
       simp only[xqa,xqd]at hq
       obtain⟨rfl,rfl,rfl⟩:=hq
       rw[if_neg hf]
       exact⟨_,_,rfl,⟨hc.1,by rw[h2];exact hc.2⟩,h1,fun k=>by simp only[A0,h2]⟩
     have out:∀ {c' s'},Ak Γ d (.app fz ty s0 b x) ⟨e,h'⟩=some (c',r,s')->c'->Ey s s'->∃ s',Fg P Γ d (.app fz ty s0 b x) ⟨e,h'⟩ r s'/\Ey s s':=fun h1 h2 h3=>⟨_,⟨_,h1,h2⟩,h3⟩
     have hst:Ey ⟨e,h⟩ ⟨e,h'⟩:=⟨fun _=>rfl,hl⟩
     have hki:∀ id,Ey (St.kill id ⟨e,h⟩) (St.kill id ⟨e,h'⟩):=fun id=>⟨fun k=>rfl,q72 hl id⟩
     split
     ·intro hq
      obtain⟨c',s',h1,h2,h3⟩:=fin hst hq
      exact out (s':=s') (by simp only[Ak,hx,hn',hb,xqs];exact h1) h2 h3
     ·split
      ·intro hq
       rename_i hlk
       obtain⟨c',s',h1,h2,h3⟩:=fin hst hq
       exact out (s':=s') (by simp only[Ak,hx,hn',hb,xqs,(hl _).trans hlk];exact h1) h2 h3
      ·simp
     ·split
      ·intro hq
       rename_i hlk
       obtain⟨c',s',h1,h2,h3⟩:=fin (hki _) hq
       exact out (s':=s') (by simp only[Ak,hx,hn',hb,xqs,(hl _).trans hlk];exact h1) h2 h3
      ·simp
     ·simp
 case appR fz i0 ty b x =>
  obtain⟨c,hs,hc⟩:=hs
  simp only[Ak]at hs
  revert hs
  split
  ·rename_i news _ _ id len hx hb
   split
   ·rename_i t q es hlk
    intro hq
    have hki:∀ k,A0 (St.kill i0 ⟨e,h'⟩).hp k=A0 (St.kill i0 ⟨e,h⟩).hp k:=q72 hl i0
    cases fz with
    | true =>
     simp only[if_true,xqa,xqd]at hq
     obtain⟨rfl,rfl,rfl⟩:=hq
     exact⟨St.kill i0 ⟨e,h'⟩,⟨_,by simp only[Ak,hx,hb,(hl _).trans hlk,if_true],hc⟩,fun k=>rfl,fun k=>hki k⟩
    | false =>
     simp only[xqn,if_false,xqa,xqd]at hq
     obtain⟨rfl,rfl,rfl⟩:=hq
     exact⟨⟨(St.kill i0 ⟨e,h'⟩).env,(d,.sl ty 1 (es.take len++news))::(St.kill i0 ⟨e,h'⟩).hp⟩,⟨(id=i0/\Es 1 news/\t=ty/\q=1/\len+news.length<=140737488355328)/\A0 (St.kill i0 ⟨e,h'⟩).hp d=none,by simp only[Ak,hx,hb,(hl _).trans hlk,xqn,if_false],⟨hc.1,by rw[hki];exact hc.2⟩⟩,fun k=>rfl,fun k=>by simp only[A0,hki]⟩
   ·simp
  ·simp
 all_goals (simp only[Bt.kd]at hk;split at hk<;>simp[Bt.isNew]at hn hk)
theorem qAT (hl:Ey st st') (hs:Fg P Γ d io st r s):∃ s',Fg P Γ d io st' r s'/\Ey s s':=by
 obtain⟨e,h⟩:=st
 obtain⟨e',h'⟩:=st'
 obtain⟨s1,h1,h2⟩:=q9e (h':=h') hl.2 hs
 obtain⟨s2,h3,h4⟩:=q9d (st:=⟨e,h'⟩) (st':=⟨e',h'⟩) ⟨hl.1,rfl⟩ h1
 exact⟨s2,h3,h2.trans ⟨h4.1,fun k=>by rw[h4.2]⟩⟩
theorem qAU (hl:Ey st st') (hs:Ei P Γ ro st s):∃ s',Ei P Γ ro st' s'/\Ey s s':=by
 have hw:G7 st'.env ro.guard=G7 st.env ro.guard:=by
  cases hg:ro.guard with
  | none=>rfl
  | some gb=>simp only[G7,hl.1 gb.1]
 rcases hs with⟨hw',r,st1,hx,rfl⟩|⟨hw',rfl⟩
 ·obtain⟨s',h1,h2⟩:=qAT hl hx
  exact⟨_,.inl ⟨hw.trans hw',r,s',h1,rfl⟩,q1J h2⟩
 ·exact⟨_,.inr ⟨hw.trans hw',rfl⟩,q1J hl⟩
theorem q44:∀ {ros:List RO} {st st' s:St},Ey st st'->Kw P Γ ros st s->∃ s',Kw P Γ ros st' s'/\Ey s s'
 | [],st,st',s,hl,hs=>by simp only[Kw]at hs;subst hs;exact⟨st',rfl,hl⟩
 | ro::ros,st,st',s,hl,hs=>by
  obtain⟨t,h1,h2⟩:=hs
  obtain⟨t',h3,h4⟩:=qAU hl h1
  obtain⟨s',h5,h6⟩:=q44 h4 h2
  exact⟨s',⟨t',h3,h5⟩,h6⟩
theorem qF5 {y:RO} {l2:List RO}:∀ {l1:List RO} {st s:St},(∀ x∈l1,qBj x y=true)->Kw P Γ (l1++y::l2) st s->∃ s',Kw P Γ (y::(l1++l2)) st s'/\Ey s s'
 | [],st,s,_,hs=>⟨s,hs,Ey.rfl'⟩
 | x::l1,st,s,hc,hs=>by
  obtain⟨t,h1,h2⟩:=hs
  obtain⟨s1,⟨t2,h3,h4⟩,hl⟩:=qF5 (fun z hz=>hc z (xqf _ hz)) h2
  obtain⟨u,u2,h5,h6,hl2⟩:=qBn (hc x xqh) h1 h3
  obtain⟨s2,h7,hl3⟩:=q44 hl2 h4
  exact⟨s2,⟨u,h5,u2,h6,h7⟩,hl.trans hl3⟩
end
end Go.Lg
namespace Go.Lg
open Go
def q0f (o:Oper):List Nat:=o.after.toList.filterMap fun e=>if Region.binds .any e then some e.on else none
def qBo (ms:List Nat) (es:List Nat):Nat:=es.foldl (fun m k=>m ||| 2 ^ k ||| ms.getD k 0) 0
def q1K:List Oper->List Nat->List Nat
 | [],ms=>ms
 | o::os,ms=>q1K os (ms++[qBo ms (q0f o)])
structure Pt where
 i:Nat
 ro:RO
 m:Nat
def pts:Nat->List RO->List Nat->List Pt
 | i,ro::ros,m::ms=>⟨i,ro,m⟩::pts (i+1) ros ms
 | _,_,_=>[]
def q6V:List Pt->Bool
 | []=>true
 | p::l=>(l.all fun q=>q.m.testBit p.i||qBj p.ro q.ro)&&q6V l
def q6W:Nat->List Oper->Bool
 | _,[]=>true
 | i,o::os=>(q0f o).all (·<i)&&q6W (i+1) os
def qBp (ros:List RO) (ops:List Oper):Bool:=q6W 0 ops&&q6V (pts 0 ros (q1K ops []))
def qBq (ops:List Oper) (listed:Nat->Bool):Prop:=∀ (k:Nat) (o:Oper),listed k=true->ops[k]? = some o->∀ e∈q0f o,listed e=true
def q73 (ops:List Oper) (es:List Nat) (m:Nat):Prop:=∀ listed,qBq ops listed->(∀ e∈es,listed e=true)->∀ i,m.testBit i=true->listed i=true
theorem qE2 {ops:List Oper} {ms:List Nat} (hms:∀ (k m:Nat) (o:Oper),ms[k]? = some m->ops[k]? = some o->q73 ops (q0f o) m) (hlen:ms.length<=ops.length) {es:List Nat}:q73 ops es (qBo ms es):=by
 have key:∀ (es:List Nat) (m0:Nat) listed,qBq ops listed->(∀ e∈es,listed e=true)->(∀ i,m0.testBit i=true->listed i=true)->∀ i,(es.foldl (fun m k=>m ||| 2 ^ k ||| ms.getD k 0) m0).testBit i=true->listed i=true:=by
  intro es
  induction es with
  | nil=>intro m0 listed _ _ h0 i hi;exact h0 i hi
  | cons k es ih =>
   intro m0 listed hc he h0 i hi
   rw[xz4]at hi
   refine ih _ listed hc (fun e h=>he e (xqf _ h)) (fun i hi=>?_) i hi
   simp only[Nat.testBit_or,xzz]at hi
   rcases hi with(hi|hi)|hi
   ·exact h0 i hi
   ·rw[Nat.testBit_two_pow]at hi
    simp at hi;subst hi;exact he _ xqh
   ·cases hk:ms[k]? with
    | none=>simp[List.getD,hk]at hi
    | some m =>
     simp only[List.getD,hk,xzy]at hi
     have hlt:k<ops.length:=Nat.lt_of_lt_of_le (xqi.1 hk).1 hlen
     exact hms k m _ hk (xqg hlt) listed hc (fun e he'=>hc k _ (he k xqh) (xqg hlt) e he') i hi
 intro listed hc he i hi
 exact key es 0 listed hc he (by simp) i hi
theorem qAV {ops:List Oper}:∀ {os:List Oper} {ms:List Nat} {done:List Oper},ops=done++os->ms.length=done.length->(∀ (k m:Nat) (o:Oper),ms[k]? = some m->ops[k]? = some o->q73 ops (q0f o) m) ->
  (q1K os ms).length=ops.length/\∀ (k m:Nat) (o:Oper),(q1K os ms)[k]? = some m->ops[k]? = some o->q73 ops (q0f o) m
 | [],ms,done,h1,h2,h3=>⟨by simp[q1K,h1,h2],h3⟩
 | o::os,ms,done,h1,h2,h3=>by
  refine qAV (os:=os) (ms:=ms++[qBo ms (q0f o)]) (done:=done++[o]) (by simp[h1]) (by simp[h2]) ?_
  intro k m o' hm ho
  rw[xq7]at hm
  split at hm
  ·exact h3 k m o' hm ho
  ·rename_i hk
   have hk':k=ms.length:=by
    have:=(xqi.1 hm).1
    simp at this;omega
   subst hk'
   simp only[xjb,xzq,xqa]at hm
   subst hm
   have:o'=o:=by
    rw[h1,h2]at ho
    simpa using ho.symm
   subst this
   exact qE2 h3 (by simp[h1,h2])
theorem q74:∀ {os:List Oper} {i:Nat},q6W i os=true->∀ (k:Nat) (o:Oper),os[k]? = some o->∀ e∈q0f o,e<i+k
 | [],i,_,k,o,hk=>by simp at hk
 | o::os,i,h,k,o',hk=>by
  simp only[q6W,xqc,xqz,xqu]at h
  cases k with
  | zero=>simp only[xzq,xqa]at hk;subst hk;exact h.1
  | succ k =>
   intro e he
   have:=q74 h.2 k o' (by simpa using hk) e he
   omega
theorem q75:∀ {l:List Pt},q6V l=true->l.Pairwise fun p q=>q.m.testBit p.i=true\/qBj p.ro q.ro=true
 | [],_=>.nil
 | p::l,h=>by
  simp only[q6V,xqc,xqz,xzz]at h
  exact .cons h.1 (q75 h.2)
theorem qCq:∀ {ros:List RO} {ms:List Nat} {i:Nat},ros.length=ms.length->(pts i ros ms).map (·.ro)=ros/\(pts i ros ms).map (·.i)=List.range' i ros.length /\
  ∀ p∈pts i ros ms,i<=p.i/\ms[p.i-i]? = some p.m/\ros[p.i-i]? = some p.ro
 | [],[],i,_=>by simp[pts]
 | [],_::_,i,h=>by simp at h
 | _::_,[],i,h=>by simp at h
 | ro::ros,m::ms,i,h=>by
  obtain⟨h1,h2,h3⟩:=qCq (ros:=ros) (ms:=ms) (i:=i+1) (by simpa using h)
  refine⟨by simp[pts,h1],by simp[pts,h2,List.range'_succ],?_⟩
  intro p hp
  simp only[pts,xqv]at hp
  rcases hp with rfl|hp
  ·simp
  ·obtain⟨h4,h5,h6⟩:=h3 p hp
   have:p.i-i=(p.i-(i+1))+1:=by omega
   exact⟨by omega,by rw[this];simpa using h5,by rw[this];simpa using h6⟩
theorem q8o {P:Program} {N:Nat} {ops:List Oper}:∀ {ros:List RO} {os:List Oper},Uu P N ops ros os=true->ros.length=os.length/\∀ (k:Nat) (ro:RO) (o:Oper),ros[k]? = some ro->os[k]? = some o->q9c P N ops ro o=true
 | [],[],_=>by simp
 | [],_::_,h=>by simp[Uu]at h
 | _::_,[],h=>by simp[Uu]at h
 | ro::ros,o::os,h=>by
  simp only[Uu,xqc]at h
  obtain⟨h1,h2⟩:=q8o h.2
  refine⟨by simp[h1],fun k ro' o' h3 h4=>?_⟩
  cases k with
  | zero=>simp at h3 h4;subst h3;subst h4;exact h.1
  | succ k=>exact h2 k ro' o' (by simpa using h3) (by simpa using h4)
theorem Ey.symm {a b:St} (h:Ey a b):Ey b a:=⟨fun k=>(h.1 k).symm,fun k=>(h.2 k).symm⟩
section
variable {P:Program} {Γ:Tables} {w0:World} {B:Nat} {κ:D7} {X0 X:Nat->Prop} {st st1:St} {N:Nat} {a:Act} {w:World} {Q:Exit->Act->World->Prop}
theorem Ut.alike (h:Ut Γ w0 B κ X0 N st a w) (hl:Ey st st1):Ut Γ w0 B κ X0 N st1 a w:=by
 obtain⟨X,μ,h1,h2⟩:=h
 exact⟨X,μ,h1.alike hl,h2⟩
theorem qGw {ops:List Oper} (hN:N<=1000000) (hlt:∀ (k:Nat) (o:Oper),ops[k]? = some o->∀ e∈q0f o,e<k) :
  ∀ (fuel:Nat) (listed:Array Bool) (ps:List Pt) (st s:St) (a:Act) (w:World),Ut Γ w0 B κ X0 N st a w->(ps.Pairwise fun p q=>p.i<q.i)->(∀ i,listed.getD i true=false↔∃ p∈ps,p.i=i)->listed.size=ops.length ->
   qBq ops (fun i=>listed.getD i false)->(ps.Pairwise fun p q=>q.m.testBit p.i=true\/qBj p.ro q.ro=true)->(∀ p∈ps,∃ o,ops[p.i]? = some o/\q9c P N ops p.ro o=true/\q73 ops (q0f o) p.m)->ps.length<=fuel ->
   Kw P Γ (ps.map (·.ro)) st s->(∀ a' w',Ut Γ w0 B κ X0 N s a' w'->Q .normal a' w')->wpAny P .any ops.toArray Q fuel listed a w:=by
 intro fuel
 induction fuel with
 | zero =>
  intro listed ps st s a w hI hsort hun hsz hcl hpr hps hlen hst hQ
  have:ps=[]:=xqo (by omega)
  subst this
  refine⟨List.eq_nil_iff_forall_not_mem.2 fun j hj=>?_,?_⟩
  ·have:=(hun j).1 (mem_ready.1 hj).1
   simp at this
  ·simp only[xq3,Kw]at hst;subst hst
   exact hQ a w hI
 | succ fuel ih =>
  intro listed ps st s a w hI hsort hun hsz hcl hpr hps hlen hst hQ
  have hedge:∀ {o:Oper} {e:Edge},e∈o.after->Region.binds .any e=true->e.on∈q0f o:=by
   intro o e he hb
   exact List.mem_filterMap.2 ⟨e,by simpa using he,by rw[if_pos hb]⟩
  have hedge':∀ {o:Oper} {k:Nat},k∈q0f o->∃ e∈o.after,Region.binds .any e=true/\e.on=k:=by
   intro o k hk
   obtain⟨e,he,hb⟩:=List.mem_filterMap.1 hk
   split at hb
   ·exact⟨e,by simpa using he,by assumption,by simpa using hb⟩
   ·cases hb
  refine⟨fun hnil=>?_,fun i hi=>?_⟩
  ·cases ps with
   | nil=>simp only[xq3,Kw]at hst;subst hst;exact hQ a w hI
   | cons p ps =>
    exfalso
    obtain⟨o,ho,_,_⟩:=hps p xqh
    have:p.i∈Region.ready .any ops.toArray listed:=by
     refine mem_ready.2 ⟨(hun p.i).2 ⟨p,xqh,rfl⟩,o,by simpa using ho,fun e he hb=>?_⟩
     have h1:=hlt p.i o ho e.on (hedge he hb)
     have h2:p.i<ops.length:=(xqi.1 ho).1
     have h3:listed.getD e.on true=true:=by
      cases hq:listed.getD e.on true with
      | true=>rfl
      | false =>
       obtain⟨q,hq,hqi⟩:=(hun e.on).1 hq
       rcases xqv.1 hq with rfl|hq
       ·omega
       ·have:=(List.pairwise_cons.1 hsort).1 q hq
        omega
     have h4:e.on<listed.size:=by omega
     simpa[Array.getD,h4]using h3
    rw[hnil]at this;cases this
  ·obtain⟨hi0,o,ho,hall⟩:=mem_ready.1 hi
   have ho':ops[i]? = some o:=by simpa using ho
   obtain⟨p,hp,rfl⟩:=(hun i).1 hi0
   obtain⟨l1,l2,rfl⟩:=List.append_of_mem hp
   obtain⟨o2,ho2,hch,hmk⟩:=hps p hp
   rw[ho']at ho2;cases ho2
   have hdone:∀ i,p.m.testBit i=true->listed.getD i false=true:=hmk _ hcl (fun e he=>by
    obtain⟨e',he',hb,rfl⟩:=hedge' he
    exact hall e' he' hb)
   have hsort':=List.pairwise_append.1 hsort
   have hpr':=List.pairwise_append.1 hpr
   have hcm:∀ x∈l1.map (·.ro),qBj x p.ro=true:=by
    intro x hx
    obtain⟨q,hq,rfl⟩:=xqy.1 hx
    rcases hpr'.2.2 q hq p xqh with hb|hb
    ·have h1:=hdone _ hb
     have h2:listed.getD q.i true=false:=(hun q.i).2 ⟨q,List.mem_append_left _ hq,rfl⟩
     have:q.i<listed.size:=by
      rcases Nat.lt_or_ge q.i listed.size with h' | h'
      ·exact h'
      ·rw[Array.getD_eq_getD_getElem?,Array.getElem?_eq_none h']at h2;simp at h2
     rw[Array.getD_eq_getD_getElem?,xzw this]at h1 h2
     simp only[xzy]at h1 h2
     rw[h1]at h2;cases h2
    ·exact hb
   rw[List.map_append,xqm]at hst
   obtain⟨s',⟨t,hs1,hs2⟩,hl⟩:=qF5 hcm hst
   unfold wpOp
   simp only[ho]
   refine q3O hI hN hch hs1 fun a' w' hI'=>?_
   have hne:∀ q∈l1++l2,q.i≠p.i:=by
    intro q hq
    rcases xzg.1 hq with hq|hq
    ·have:=hsort'.2.2 q hq p xqh;omega
    ·have:=(List.pairwise_cons.1 hsort'.2.1).1 q hq;omega
   have hsub:(l1++l2).Sublist (l1++p::l2):=List.Sublist.append_left (List.sublist_cons_self _ _) _
   have hpi:p.i<listed.size:=by rw[hsz];exact(xqi.1 ho').1
   refine ih (listed.setIfInBounds p.i true) (l1++l2) t s' a' w' hI' (hsort.sublist hsub) ?_ (by simpa using hsz) ?_ (hpr.sublist hsub) (fun q hq=>hps q (hsub.subset hq)) (by simp at hlen ⊢;omega) (by rw[List.map_append];exact hs2) (fun a' w' h=>hQ a' w' (h.alike hl.symm))
   ·intro j
    by_cases hj:p.i=j
    ·subst hj
     refine⟨fun h=>?_,fun⟨q,hq,he⟩=>absurd he (hne q hq)⟩
     simp[Array.getD,hpi]at h
    ·rw[getD_set_ne true hj,hun j]
     constructor
     ·rintro⟨q,hq,rfl⟩
      refine⟨q,?_,rfl⟩
      rcases xzg.1 hq with hq|hq
      ·exact List.mem_append_left _ hq
      ·rcases xqv.1 hq with rfl|hq
       ·exact absurd rfl hj
       ·exact List.mem_append_right _ hq
     ·rintro⟨q,hq,rfl⟩
      exact⟨q,hsub.subset hq,rfl⟩
   ·intro k ok hk hok e he
    by_cases hkp:p.i=k
    ·subst hkp
     rw[ho']at hok;cases hok
     obtain⟨e',he',hb,rfl⟩:=hedge' he
     exact getD_set_true (hall e' he' hb)
    ·have hk2:listed.getD k false=true:=by
      have:(listed.setIfInBounds p.i true).getD k false=true:=hk
      rwa [getD_set_ne false hkp]at this
     exact getD_set_true (hcl k ok hk2 hok e he)
theorem qBr {ops:List Oper} {ros:List RO} {s:St} (hN:N<=1000000) (hI:Ut Γ w0 B κ X0 N st a w) (hc:Uu P N ops ros ops=true) (hd:qBp ros ops=true) (hs:Kw P Γ ros st s)
  (hQ:∀ a' w',Ut Γ w0 B κ X0 N s a' w'->Q .normal a' w'):wpAny P .any ops.toArray Q ops.toArray.size (Array.replicate ops.toArray.size false) a w:=by
 simp only[qBp,xqc]at hd
 obtain⟨hlen,hch⟩:=q8o hc
 obtain⟨hml,hmk⟩:=qAV (ops:=ops) (os:=ops) (ms:=[]) (done:=[]) rfl rfl (by simp)
 obtain⟨h1,h2,h3⟩:=qCq (ros:=ros) (ms:=q1K ops []) (i:=0) (by rw[hml,hlen])
 have hmem:∀ p∈pts 0 ros (q1K ops []),p.i<ops.length:=by
  intro p hp
  have:=(xqi.1 (h3 p hp).2.2).1
  omega
 refine qGw hN (fun k o ho e he=>by have:=q74 hd.1 k o ho e he;omega) _ _ (pts 0 ros (q1K ops [])) st s a w hI ?_ ?_ (by simp) ?_ (q75 hd.2) ?_ ?_ (by rw[h1];exact hs) hQ
 ·have:((pts 0 ros (q1K ops [])).map (·.i)).Pairwise (·<·):=by rw[h2];exact List.pairwise_lt_range'
  exact List.pairwise_map.1 this
 ·intro i
  constructor
  ·intro h
   have hi:i<ops.length:=by
    rcases Nat.lt_or_ge i ops.length with h' | h'
    ·exact h'
    ·simp[Array.getD,Nat.not_lt.2 h']at h
   have:i∈(pts 0 ros (q1K ops [])).map (·.i):=by rw[h2,List.mem_range'_1];omega
   obtain⟨p,hp,he⟩:=xqy.1 this
   exact⟨p,hp,he⟩
  ·rintro⟨p,hp,rfl⟩
   simp[Array.getD,hmem p hp]
 ·intro k o hk
  exfalso
  simp only[Array.getD]at hk
  split at hk<;>simp at hk
 ·intro p hp
  obtain⟨_,h5,h6⟩:=h3 p hp
  have hlt:=hmem p hp
  exact⟨ops[p.i],xqg hlt,hch _ _ _ h6 (xqg hlt),hmk _ _ _ h5 (xqg hlt)⟩
 ·have:(pts 0 ros (q1K ops [])).length=ros.length:=by
   have:=congrArg List.length h1
   simpa using this
  simp[this,hlen]
end
end Go.Lg
namespace Go.Lg
open Go
def Aw.closed:Aw->Bool
 | .bx cs=>cs.all fun | .t _=>true|_=>false
 | .rs _ _ es=>es.all fun e=>e.all fun | .t _=>true|_=>false
 | .mr _=>false
 | _=>true
def frz0 (id:Nat) (r:Aw):AV->AV
 | .ls i off len cap=>if i=id then(match Aj [(id,r)] 4 (.ls id off len cap) with|some t=>.t t|none=>.dead)else .ls i off len cap
 | .lp i a k=>if i=id then(match Aj [(id,r)] 4 (.lp id a k) with|some t=>.t t|none=>.dead)else .lp i a k
 | .lm i=>if i=id then(match Aj [(id,r)] 4 (.lm id) with|some t=>.t t|none=>.dead)else .lm i
 | .lb i m=>if i=id then(match Aj [(id,r)] 4 (.lb id m) with|some t=>.t t|none=>.dead)else .lb i m
 | .li i=>if i=id then .dead else .li i
 | .fn f []=>.fn f []
 | .fn _ (_::_)=>.dead
 | a=>a
def frz1 (id:Nat) (r:Aw):AV->AV
 | .fn f cs=>if cs.all Cf then .fn f (cs.map (frz0 id r))else .dead
 | a=>frz0 id r a
def C6 (id:Nat) (r:Aw):AV->AV
 | .ag cs=>.ag (cs.map (frz1 id r))
 | .tu cs=>.tu (cs.map (frz1 id r))
 | a=>frz1 id r a
def Ej (id:Nat) (r:Aw):Aw->Aw
 | .bx cs=>.bx (cs.map (C6 id r))
 | .rs ty s es=>.rs ty s (es.map fun e=>e.map (C6 id r))
 | .mr es=>.mr (es.map fun e=>(e.1,C6 id r e.2))
 | q=>q
def St.freeze (id:Nat) (st:St):St:=match A0 st.hp id with
 | some r=>if r.closed then⟨st.env.map fun p=>(p.1,C6 id r p.2),(del id st.hp).map fun p=>(p.1,Ej id r p.2)⟩else st
 | none=>st
section
variable {P:Program} {Γ:Tables} {w0:World} {B:Nat} {κ:D7} {X:Nat->Prop} {μ:D7} {st:St} {tm:Array Value} {w:World} {id:Nat} {r:Aw}
theorem Sim.lone (h:Sim w0 B κ X μ st tm w) (hl:A0 st.hp id=some r) (hc:r.closed=true):Sim w0 B κ X μ ⟨[],[(id,r)]⟩ tm w:=by
 have hsh:∀ i,St.sh ⟨[],[(id,r)]⟩ i≠none->i=id/\st.sh i≠none:=by
  intro i hi
  by_cases e:i=id
  ·subst e;exact⟨rfl,by simp[Eh hl]⟩
  ·simp[St.sh,A0,Ne.symm e]at hi
 refine⟨fun t a ht=>by simp[A0]at ht,?_,fun i j g n n' hi hj=>h.inj i j g n n' (hsh i hi).2 (hsh j hj).2,fun i g n hi=>h.loc i g n (hsh i hi).2,fun i hk hi=>h.kap i hk (hsh i hi).2,h.kbig,h.xlt,h.os,h.tape,h.output,h.size,h.fr⟩
 intro i q hq
 simp only[A0]at hq
 split at hq
 ·rename_i e;subst e
  simp only[xqa]at hq;subst hq
  have:=h.reg id _ hl
  cases r with
  | sl ty s es=>exact this
  | mp es=>exact this
  | mr es=>cases hc
  | it s pos=>exact this
  | rs ty s es =>
   refine⟨this.1,this.2.imp (fun h=>h) fun⟨g,arr,hm,hg,hle,hr⟩=>⟨g,arr,hm,hg,hle,fun i k e a x h1 h2 h3=>?_⟩⟩
   have h4:=xqz.1 (xqz.1 hc e (xqp h1)) a (xqp h2)
   have h5:=hr i k e a x h1 h2 h3
   cases a<;>simp at h4
   exact .t _ _ h5.t_inv
  | bx cs =>
   obtain⟨h1,g,arr,ty,hm,hg,hle,hr⟩:=this
   refine⟨h1,g,arr,ty,hm,hg,hle,fun k a x ha hx=>?_⟩
   have:=xqz.1 hc a (xqp ha)
   have h2:=hr k a x ha hx
   cases a<;>simp at this
   exact .t _ _ h2.t_inv
 ·cases hq
variable {sh':Nat->Option Sh}
theorem AR.frz0 (h:Sim w0 B κ X μ st tm w) (hl:A0 st.hp id=some r) (hc:r.closed=true) (hsh:∀ i q,i≠id->st.sh i=some q->sh' i=some q) {a:AV} {x:Value} (ha:AR w X μ st.sh a x) (hna:Cf a=true) :
  AR w (fun b=>X b\/∃ n,μ id=some (b,n)) μ sh' (frz0 id r a) x:=by
 have hX:∀ b,X b->X b\/∃ n,μ id=some (b,n):=fun b hb=>.inl hb
 have hS:Same X w w:=fun _ _=>rfl
 have hlone:=h.lone hl hc
 have hshid:St.sh ⟨[],[(id,r)]⟩ id=st.sh id:=by rw[Eh hl];simp[St.sh,A0]
 have conv:∀ {a:AV} {x:Value} {t:T},AR w X μ (St.sh ⟨[],[(id,r)]⟩) a x->Aj [(id,r)] 4 a=some t->TR w (fun b=>X b\/∃ n,μ id=some (b,n)) t x:=by
  intro a x t ha hr
  refine(q6w hlone 4 ha hr).mono (fun _ _=>rfl) (fun b hb=>?_)
  rcases hb with hb|⟨i,n,hi,hm⟩
  ·exact .inl hb
  ·have:i=id:=by
    by_cases e:i=id
    ·exact e
    ·simp[St.sh,A0,Ne.symm e]at hi
   subst this;exact .inr ⟨n,hm⟩
 cases ha with
 | t y v hy=>exact .t _ _ (hy.mono hS hX)
 | lsnil i s n hs hm oa cap hq =>
  simp only[Lg.frz0];split
  ·rename_i e;subst e
   split
   ·rename_i t ht;exact .t _ _ (conv (.lsnil i s n (hshid.trans hs) hm oa cap hq) ht)
   ·exact .dead _ rfl
  ·rename_i hne;exact .lsnil i s n (hsh _ _ hne hs) hm oa cap hq
 | ls i off len s n g m c cap hs hm hle hlc hcm hfit hfull hq ad had =>
  simp only[Lg.frz0];split
  ·rename_i e;subst e
   split
   ·rename_i t ht;exact .t _ _ (conv (.ls i off len s n g m c cap (hshid.trans hs) hm hle hlc hcm hfit hfull hq ad had) ht)
   ·exact .dead _ rfl
  ·rename_i hne;exact .ls i off len s n g m c cap (hsh _ _ hne hs) hm hle hlc hcm hfit hfull hq ad had
 | lpsl i j k s n g m hs hm =>
  simp only[Lg.frz0];split
  ·rename_i e;subst e
   split
   ·rename_i t ht;exact .t _ _ (conv (.lpsl i j k s n g m (hshid.trans hs) hm) ht)
   ·exact .dead _ rfl
  ·rename_i hne;exact .lpsl i j k s n g m (hsh _ _ hne hs) hm
 | lpbx i k g m hs hm =>
  simp only[Lg.frz0];split
  ·rename_i e;subst e
   split
   ·rename_i t ht;exact .t _ _ (conv (.lpbx i k g m (hshid.trans hs) hm) ht)
   ·exact .dead _ rfl
  ·rename_i hne;exact .lpbx i k g m (hsh _ _ hne hs) hm
 | lm i g m hs hm =>
  simp only[Lg.frz0];split
  ·rename_i e;subst e
   split
   ·rename_i t ht;exact .t _ _ (conv (.lm i g m (hshid.trans hs) hm) ht)
   ·exact .dead _ rfl
  ·rename_i hne;exact .lm i g m (hsh _ _ hne hs) hm
 | lb i g m hs hm hle =>
  simp only[Lg.frz0];split
  ·rename_i e;subst e
   split
   ·rename_i t ht;exact .t _ _ (conv (.lb i g m (hshid.trans hs) hm hle) ht)
   ·exact .dead _ rfl
  ·rename_i hne;exact .lb i g m (hsh _ _ hne hs) hm hle
 | li i g m hs hm =>
  simp only[Lg.frz0];split
  ·exact .dead _ rfl
  ·rename_i hne;exact .li i g m (hsh _ _ hne hs) hm
 | fn f cs xs hlen hrel =>
  cases cs with
  | nil=>exact .fn f [] xs hlen (fun k a x h=>by simp at h)
  | cons c cs=>exact .dead _ (q2F _ _)
 | dead v h=>exact .dead _ h
 | un=>exact .un
 | ag=>simp[Cf]at hna
 | tu=>simp[Cf]at hna
theorem AR.frz1 (h:Sim w0 B κ X μ st tm w) (hl:A0 st.hp id=some r) (hc:r.closed=true) (hsh:∀ i q,i≠id->st.sh i=some q->sh' i=some q) {a:AV} {x:Value} (ha:AR w X μ st.sh a x) (hna:Cf a=true) :
  AR w (fun b=>X b\/∃ n,μ id=some (b,n)) μ sh' (frz1 id r a) x:=by
 by_cases hf:∃ f cs,a=.fn f cs
 ·obtain⟨f,cs,rfl⟩:=hf
  simp only[Lg.frz1]
  split
  ·rename_i hall
   cases ha with
   | fn f cs xs hlen hrel =>
    refine .fn f _ xs (by simpa using hlen) fun k a x ha hx=>?_
    simp only[xqr,xqb]at ha
    obtain⟨b,hb,rfl⟩:=ha
    exact(hrel k b x hb hx).frz0 h hl hc hsh (xqz.1 hall b (xqp hb))
  ·cases ha;exact .dead _ (q2F _ _)
 ·have e:Lg.frz1 id r a=Lg.frz0 id r a:=by cases a<;>first|rfl|exact absurd ⟨_,_,rfl⟩ hf
  rw[e];exact ha.frz0 h hl hc hsh hna
theorem q1L {a:AV} (h:a.one=true):(frz0 id r a).one=true:=by
 have key:∀ a:AV,a.one=true->(∀ x,a ≠ .t x)->(match Aj [(id,r)] 4 a with|some t=>AV.t t|none=>.dead).one=true:=by
  intro a h1 _
  split
  ·rename_i t ht;exact q8h h1 ht
  ·rfl
 cases a with
 | fn f cs=>cases cs<;>rfl
 | ag cs=>simp[AV.one]at h
 | tu cs=>simp[AV.one]at h
 | un=>simp[AV.one]at h
 | t x=>exact h
 | dead=>rfl
 | ls i off len cap=>simp only[frz0];split;exact key (.ls id off len cap) rfl (by simp);rfl
 | lp i j k=>simp only[frz0];split;exact key (.lp id j k) rfl (by simp);rfl
 | lm i=>simp only[frz0];split;exact key (.lm id) rfl (by simp);rfl
 | lb i m=>simp only[frz0];split;exact key (.lb id m) rfl (by simp);rfl
 | li i=>simp only[frz0];split<;>rfl
theorem qAW {a:AV} (h:a.one=true):(frz1 id r a).one=true:=by
 cases a with
 | fn f cs=>simp only[frz1];split<;>rfl
 | ag cs=>simp[AV.one]at h
 | tu cs=>simp[AV.one]at h
 | un=>simp[AV.one]at h
 | t x=>exact h
 | dead=>rfl
 | ls i off len cap=>exact q1L (a:=.ls i off len cap) rfl
 | lp i j k=>exact q1L (a:=.lp i j k) rfl
 | lm i=>exact q1L (a:=.lm i) rfl
 | lb i m=>exact q1L (a:=.lb i m) rfl
 | li i=>exact q1L (id:=id) (r:=r) (a:=.li i) rfl
theorem q76 {a:AV} (h:a.one=true):(C6 id r a).one=true:=by
 have e:C6 id r a=frz1 id r a:=by cases a<;>first|rfl|simp[AV.one]at h
 rw[e];exact qAW h
theorem qBs {a:AV} (h:Cf a=true):Cf (frz0 id r a)=true:=by
 have key:∀ b:AV,Cf (match Aj [(id,r)] 4 b with|some t=>AV.t t|none=>.dead)=true:=by
  intro b;split<;>rfl
 cases a with
 | ag=>simp[Cf]at h
 | tu=>simp[Cf]at h
 | fn f cs=>cases cs<;>rfl
 | t|dead|un=>rfl
 | li i=>simp only[frz0];split<;>rfl
 | _=>simp only[frz0];split<;>first|exact key _|rfl
theorem qBt {a:AV} (h:Cf a=true):Cf (frz1 id r a)=true:=by
 by_cases hf:∃ f cs,a=.fn f cs
 ·obtain⟨f,cs,rfl⟩:=hf
  simp only[Lg.frz1];split<;>rfl
 ·have e:Lg.frz1 id r a=Lg.frz0 id r a:=by cases a<;>first|rfl|exact absurd ⟨_,_,rfl⟩ hf
  rw[e];exact qBs h
theorem AR.frz (h:Sim w0 B κ X μ st tm w) (hl:A0 st.hp id=some r) (hc:r.closed=true) (hsh:∀ i q,i≠id->st.sh i=some q->sh' i=some q) {a:AV} {x:Value} (ha:AR w X μ st.sh a x) :
  AR w (fun b=>X b\/∃ n,μ id=some (b,n)) μ sh' (C6 id r a) x:=by
 by_cases hg:Cf a=true
 ·have e:C6 id r a=Lg.frz1 id r a:=by cases a<;>first|rfl|simp[Cf]at hg
  rw[e];exact ha.frz1 h hl hc hsh hg
 ·cases a with
  | ag cs =>
   obtain⟨xs,rfl,h1,hr⟩:=ha.ag_inv
   refine AR.mk_ag (xqz.2 fun b hb=>?_) ⟨by simpa using hr.1,fun k b y hb hy=>?_⟩
   ·obtain⟨c,hc,rfl⟩:=xqy.1 hb
    exact qAW (xqz.1 h1 c hc)
   ·simp only[xqr,xqb]at hb
    obtain⟨c,hc',rfl⟩:=hb
    exact(hr.2 k c y hc' hy).frz1 h hl hc hsh (q2G (Re h1 hc'))
  | tu cs =>
   obtain⟨xs,rfl,h1,hr⟩:=ha.tu_inv
   refine AR.mk_tu (fun k b hb=>?_) ⟨by simpa using hr.1,fun k b y hb hy=>?_⟩
   ·simp only[xqr,xqb]at hb
    obtain⟨c,hc',rfl⟩:=hb
    exact qBt (h1 k c hc')
   ·simp only[xqr,xqb]at hb
    obtain⟨c,hc',rfl⟩:=hb
    exact(hr.2 k c y hc' hy).frz1 h hl hc hsh (h1 k c hc')
  | _=>exact absurd rfl hg
theorem qE3 (q:Aw):(Ej id r q).sh=q.sh:=by cases q<;>simp[Ej,Aw.sh]
theorem Sim.freeze (h:Sim w0 B κ X μ st tm w) (hl:A0 st.hp id=some r) (hc:r.closed=true) :
  Sim w0 B κ (fun b=>X b\/∃ n,μ id=some (b,n)) μ ⟨st.env.map fun p=>(p.1,C6 id r p.2),(del id st.hp).map fun p=>(p.1,Ej id r p.2)⟩ tm w:=by
 have hlook:∀ t,A0 ((del id st.hp).map fun p=>(p.1,Ej id r p.2)) t=if t=id then none else(A0 st.hp t).map (Ej id r):=by
  intro t
  rw[Dz (Ej id r),q17]
  split<;>rfl
 have hs:∀ t,St.sh ⟨st.env.map fun p=>(p.1,C6 id r p.2),(del id st.hp).map fun p=>(p.1,Ej id r p.2)⟩ t=if t=id then none else st.sh t:=by
  intro t
  simp only[St.sh,hlook]
  split
  ·rfl
  ·cases A0 st.hp t<;>simp[qE3]
 have hsh:∀ i q,i≠id->st.sh i=some q->St.sh ⟨st.env.map fun p=>(p.1,C6 id r p.2),(del id st.hp).map fun p=>(p.1,Ej id r p.2)⟩ i=some q:=fun i q hi hq=>by rw[hs,if_neg hi];exact hq
 have hback:∀ i,St.sh ⟨st.env.map fun p=>(p.1,C6 id r p.2),(del id st.hp).map fun p=>(p.1,Ej id r p.2)⟩ i≠none->i≠id/\st.sh i≠none:=fun i hi=>by
  rw[hs]at hi
  split at hi
  ·exact absurd rfl hi
  ·rename_i hne;exact⟨hne,hi⟩
 have hid:st.sh id≠none:=by simp[Eh hl]
 refine⟨?_,?_,fun a b g n n' ha hb=>h.inj a b g n n' (hback a ha).2 (hback b hb).2,?_,fun a hk ha=>h.kap a hk (hback a ha).2,h.kbig,?_,h.os,h.tape,h.output,h.size,h.fr⟩
 ·intro t a ht
  have h1:A0 (st.env.map fun p=>(p.1,C6 id r p.2)) t=(A0 st.env t).map (C6 id r):=Dz _ _ _
  simp only[h1,xqb]at ht
  obtain⟨b,hb,rfl⟩:=ht
  exact(h.env t b hb).frz h hl hc hsh
 ·intro i q hq
  simp only[hlook]at hq
  split at hq
  ·cases hq
  ·rename_i hne
   rw[xqb]at hq
   obtain⟨q,hq,rfl⟩:=hq
   have:=h.reg i q hq
   cases q with
   | sl ty s es =>
    refine⟨this.1,this.2.imp (fun h=>h) fun⟨g,arr,hm,hg,hle,hr⟩=>⟨g,arr,hm,hg,hle,fun i k e t x h1 h2 h3=>(hr i k e t x h1 h2 h3).mono (fun _ _=>rfl) (fun _ hb=>.inl hb)⟩⟩
   | it s pos=>exact this
   | rs ty s es=>exact Dc.rs_map (fun a=>C6 id r a) (fun _ q=>q76 q) (fun _ _ q=>q.frz h hl hc hsh) rfl (fun _ _ _=>rfl) this
   | mr es=>exact Dc.mr_map (fun a=>C6 id r a) (fun _ _ q=>q.frz h hl hc hsh) rfl (fun _ _ _=>rfl) this
   | mp es =>
    obtain⟨g,n,clock,ms,hm,hg,hle,hr⟩:=this
    exact⟨g,n,clock,ms,hm,hg,hle,fun i e m h1 h2=>⟨(hr i e m h1 h2).1,(hr i e m h1 h2).2.mono (fun _ _=>rfl) (fun _ hb=>.inl hb)⟩⟩
   | bx cs =>
    obtain⟨h1,g,arr,ty,hm,hg,hle,hr⟩:=this
    refine⟨fun k a ha=>?_,g,arr,ty,hm,hg,by simpa using hle,fun k a x ha hx=>?_⟩
    ·simp only[xqr,xqb]at ha
     obtain⟨b,hb,rfl⟩:=ha
     exact q76 (h1 k b hb)
    ·simp only[xqr,xqb]at ha
     obtain⟨b,hb,rfl⟩:=ha
     exact(hr k b x hb hx).frz h hl hc hsh
 ·intro i g n hi hm
  obtain⟨h1,h2⟩:=h.loc i g n (hback i hi).2 hm
  refine⟨fun hx=>?_,h2⟩
  rcases hx with hx|⟨n',hx⟩
  ·exact h1 hx
  ·exact(hback i hi).1 (h.inj i id g n n' (hback i hi).2 hid hm hx)
 ·intro b hb
  rcases hb with hb|⟨n,hb⟩
  ·exact h.xlt b hb
  ·exact(h.loc id b n hid hb).2.1
end
end Go.Lg
namespace Go.Lg
open Go
inductive Gh where
 | keep (ks rs:List Nat)
 | frz (id:Nat)
 | nl (slot id ty s:Nat)
 | nlb (rid k id ty s:Nat)
 | nlbS (rid slot id ty s:Nat)
 | ren (a b:Nat)
 | renS (a base slot:Nat)
 | keepB (ks rs:List Nat) (base N:Nat)
 | frzs (base n:Nat)
 | keepE (ks:List Nat)
 | toR (id:Nat)
 | drop (ids:List Nat)
 | toM (id:Nat)
 | renB (a b n:Nat)
def Ho:List Nat->St->St
 | [],st=>st
 | id::ids,st=>Ho ids (st.kill id)
def Aq (a b i:Nat):Option Nat:=if i=a then some b else some i
def Jd (a b:Nat):List (Nat×Aw)->List (Nat×Aw)
 | []=>[]
 | (k,r)::l=>(if k=a then b else k,Au (Aq a b) r)::Jd a b l
def qBu (base:Nat):Nat->St->St
 | 0,st=>st
 | n+1,st=>qBu base n (st.freeze (base+n))
def Uw (a b:Nat) (st:St):St:=if(A0 st.hp b).isNone&&(A0 st.hp a).isSome&&decide (a<1000000)&&decide (b<1000000) then⟨st.env.map fun p=>(p.1,A8 (Aq a b) p.2),Jd a b st.hp⟩else st
def qIf (a b:Nat):Nat->St->St
 | 0,st=>st
 | n+1,st=>qIf a b n (Uw (a+n) (b+n) st)
def q6X (ks rs:List Nat) (base N:Nat) (st:St):St :=
 let s1:=Ho ((st.hp.map (·.1)).filter fun id=>!rs.contains id && !(decide (base<=id)&&decide (id<base+N))) ⟨Lg.keep ks st.env,st.hp⟩
 ⟨s1.env,Lg.keep rs s1.hp++Lg.keep (List.range' base N) s1.hp⟩
def qCr (rid k id ty s:Nat) (st:St):St:=match A0 st.hp rid with
  | some (.bx cs)=>match cs[k]? with
   | some (.t (.sl [] (some 0) _))=>if(A0 st.hp id).isNone&&decide (id<1000000) then⟨st.env,(id,.sl ty s [])::Dn rid (.bx (cs.set k (.ls id 0 0 none))) st.hp⟩else st
   | _=>st
  | _=>st
def Gh.run:Gh->St->St
 | .nlbS rid slot id ty s,st=>match A0 st.env slot with
  | some (.t (.v (.int _ n)))=>qCr rid n.toNat id ty s st
  | _=>st
 | .renS a base slot,st=>match A0 st.env slot with
  | some (.t (.v (.int _ n)))=>Uw a (base+n.toNat) st
  | _=>st
 | .keepB ks rs base N,st=>q6X ks rs base N st
 | .keepE ks,st=>⟨Lg.keep ks st.env,st.hp⟩
 | .drop ids,st=>Ho ids st
 | .toR id,st=>match A0 st.hp id with
  | some (.sl ty s es)=>⟨st.env,Dn id (.rs ty s (es.map fun e=>e.map .t)) st.hp⟩
  | _=>st
 | .toM id,st=>match A0 st.hp id with
  | some (.mp [])=>⟨st.env,Dn id (.mr []) st.hp⟩
  | _=>st
 | .ren a b,st=>Uw a b st
 | .renB a b n,st=>qIf a b n st
 | .frzs base n,st=>qBu base n st
 | .keep ks rs,st =>
  let s1:=Ho ((st.hp.map (·.1)).filter fun id=>!rs.contains id) ⟨Lg.keep ks st.env,st.hp⟩
  ⟨s1.env,Lg.keep rs s1.hp⟩
 | .frz id,st=>st.freeze id
 | .nl slot id ty s,st=>match A0 st.env slot with
  | some (.t (.sl [] (some 0) _))=>if(A0 st.hp id).isNone&&decide (id<1000000) then⟨(slot,.ls id 0 0 none)::st.env,(id,.sl ty s [])::st.hp⟩else st
  | _=>st
 | .nlb rid k id ty s,st=>match A0 st.hp rid with
  | some (.bx cs)=>match cs[k]? with
   | some (.t (.sl [] (some 0) _))=>if(A0 st.hp id).isNone&&decide (id<1000000) then⟨st.env,(id,.sl ty s [])::Dn rid (.bx (cs.set k (.ls id 0 0 none))) st.hp⟩else st
   | _=>st
  | _=>st
inductive IC where
 | skip
 | reg (ros:List RO) (gs:List Gh)
 | seq (a b:IC)
 | cond (c:Operand) (a b:IC)
 | block (id:Nat) (a:IC)
 | loop (a:IC)
 | exit (id:Nat)
 | ret
 | scope (a:IC)
 | gh (a:IC) (gs:List Gh)
 | ghW (a:IC)
 | dead
inductive AX where
 | normal
 | exit (id:Nat)
 | ret
def Rk (P:Program) (N:Nat):IC->Code->Bool
 | .skip,.skip=>true
 | .skip,.label _=>true
 | .reg ros _,.region _ ops dr=>Uu P N ops.toList ros ops.toList&&(!dr||qBp ros ops.toList)
 | .seq a b,.seq c d=>Rk P N a c&&Rk P N b d
 | .cond x a b,.cond y c d=>Bq x y&&Ai x&&Rk P N a c&&Rk P N b d
 | .block i a,.block j c=>i==j&&Rk P N a c
 | .loop a,.loop c=>Rk P N a c
 | .exit i,.exit j=>i==j
 | .ret,.ret=>true
 | .scope a,.scope c=>Rk P N a c
 | .gh a _,c=>Rk P N a c
 | .ghW a,c=>Rk P N a c
 | .dead,_=>true
 | _,_=>false
def B0 (n:St->Prop) (Q:AX->St->Prop):AX->St->Prop
 | .normal,s=>n s
 | e,s=>Q e s
def N5 (id:Nat) (Q:AX->St->Prop):AX->St->Prop
 | .exit i,s=>if i=id then Q .normal s else Q (.exit i) s
 | e,s=>Q e s
def qF6 (F:(AX->St->Prop)->St->Prop) (Q:AX->St->Prop):Nat->St->Prop
 | 0,_=>False
 | n+1,s=>F (B0 (qF6 F Q n) Q) s
def Imp (Γ:Tables) (s s':St):Prop:=∀ (w0:World) (B:Nat) (κ:D7) (X0:Nat->Prop) (N:Nat) (a:Act) (w:World),Ut Γ w0 B κ X0 N s a w->Ut Γ w0 B κ X0 N s' a w
def awp (P:Program) (Γ:Tables):IC->(AX->St->Prop)->St->Prop
 | .skip,Q,s=>Q .normal s
 | .reg ros gs,Q,s=>∃ s1,Kw P Γ ros s s1/\Q .normal (gs.foldl (fun s g=>g.run s) s1)
 | .seq a b,Q,s=>awp P Γ a (B0 (awp P Γ b Q) Q) s
 | .cond c a b,Q,s=>∃ t,ev Γ s.env c=some (.t (.v (.bool t)))/\(t=true->awp P Γ a Q s)/\(t=false->awp P Γ b Q s)
 | .block id a,Q,s=>awp P Γ a (N5 id Q) s
 | .loop a,Q,s=>∃ n,qF6 (awp P Γ a) Q n s
 | .exit i,Q,s=>Q (.exit i) s
 | .ret,Q,s=>Q .ret s
 | .scope a,Q,s=>awp P Γ a Q s
 | .gh a gs,Q,s=>awp P Γ a (B0 (fun s=>Q .normal (gs.foldl (fun s g=>g.run s) s)) Q) s
 | .ghW a,Q,s=>awp P Γ a (B0 (fun s=>∃ s',Imp Γ s s'/\Q .normal s') Q) s
 | .dead,_,_=>False
def AX.to:AX->Exit
 | .normal=>.normal
 | .exit i=>.exit i
 | .ret=>.ret
section
variable {P:Program} {Γ:Tables} {w0:World} {B:Nat} {κ:D7} {X0 X:Nat->Prop} {st st1:St} {N:Nat} {a:Act} {w:World}
theorem Bl:∀ {c:IC} {Q Q':AX->St->Prop} {s:St},awp P Γ c Q s->(∀ e s,Q e s->Q' e s)->awp P Γ c Q' s
 | .skip,_,_,_,h,hq=>hq _ _ h
 | .reg _ _,_,_,_,⟨s1,h1,h2⟩,hq=>⟨s1,h1,hq _ _ h2⟩
 | .seq a b,Q,Q',s,h,hq=>Bl (c:=a) h fun e s h=>by
  cases e with
  | normal=>exact Bl (c:=b) h hq
  | exit i=>exact hq _ _ h
  | ret=>exact hq _ _ h
 | .cond _ a b,_,_,_,⟨t,h1,h2,h3⟩,hq=>⟨t,h1,fun e=>Bl (c:=a) (h2 e) hq,fun e=>Bl (c:=b) (h3 e) hq⟩
 | .block id a,Q,Q',s,h,hq=>Bl (c:=a) h fun e s h=>by
  cases e with
  | normal=>exact hq _ _ h
  | exit i=>simp only[N5]at h ⊢;split<;>rename_i hi<;>simp only[hi,if_true,if_false]at h<;>exact hq _ _ h
  | ret=>exact hq _ _ h
 | .loop a,Q,Q',s,⟨n,h⟩,hq=>by
  refine⟨n,?_⟩
  induction n generalizing s with
  | zero=>exact h
  | succ n ih =>
   refine Bl (c:=a) h fun e s h=>?_
   cases e with
   | normal=>exact ih _ h
   | exit i=>exact hq _ _ h
   | ret=>exact hq _ _ h
 | .exit _,_,_,_,h,hq=>hq _ _ h
 | .ret,_,_,_,h,hq=>hq _ _ h
 | .scope a,_,_,_,h,hq=>Bl (c:=a) h hq
 | .gh a gs,_,_,_,h,hq=>Bl (c:=a) h fun e s h=>by
  cases e with
  | normal=>exact hq _ _ h
  | exit i=>exact hq _ _ h
  | ret=>exact hq _ _ h
 | .ghW a,_,_,_,h,hq=>Bl (c:=a) h fun e s h=>by
  cases e with
  | normal=>obtain⟨s',h1,h2⟩:=h;exact⟨s',h1,hq _ _ h2⟩
  | exit i=>exact hq _ _ h
  | ret=>exact hq _ _ h
 | .dead,_,_,_,h,_=>h.elim
theorem I7:∀ {c:IC} {Q:AX->St->Prop} {s:St},awp P Γ c Q s->∃ e s',Q e s'/\awp P Γ c (fun e2 s2=>e2=e/\s2=s') s
 | .skip,_,_,h=>⟨_,_,h,rfl,rfl⟩
 | .reg _ _,_,_,⟨s1,h1,h2⟩=>⟨_,_,h2,s1,h1,rfl,rfl⟩
 | .seq a b,Q,s,h=>by
  obtain⟨e,s1,h1,h2⟩:=I7 (c:=a) h
  cases e with
  | normal =>
   obtain⟨e2,s2,h3,h4⟩:=I7 (c:=b) h1
   exact⟨e2,s2,h3,Bl (c:=a) h2 fun e s ⟨he,hs⟩=>by subst he;subst hs;exact h4⟩
  | exit i=>exact⟨_,_,h1,Bl (c:=a) h2 fun e s ⟨he,hs⟩=>by subst he;subst hs;exact⟨rfl,rfl⟩⟩
  | ret=>exact⟨_,_,h1,Bl (c:=a) h2 fun e s ⟨he,hs⟩=>by subst he;subst hs;exact⟨rfl,rfl⟩⟩
 | .cond c a b,Q,s,⟨t,h1,h2,h3⟩=>by
  cases t with
  | true =>
   obtain⟨e,s1,h4,h5⟩:=I7 (c:=a) (h2 rfl)
   exact⟨e,s1,h4,true,h1,fun _=>h5,fun h=>by cases h⟩
  | false =>
   obtain⟨e,s1,h4,h5⟩:=I7 (c:=b) (h3 rfl)
   exact⟨e,s1,h4,false,h1,(fun h=>by cases h),fun _=>h5⟩
 | .block id a,Q,s,h=>by
  obtain⟨e,s1,h1,h2⟩:=I7 (c:=a) h
  cases e with
  | normal=>exact⟨_,_,h1,Bl (c:=a) h2 fun e s ⟨he,hs⟩=>by subst he;subst hs;exact⟨rfl,rfl⟩⟩
  | ret=>exact⟨_,_,h1,Bl (c:=a) h2 fun e s ⟨he,hs⟩=>by subst he;subst hs;exact⟨rfl,rfl⟩⟩
  | exit i =>
   by_cases hi:i=id
   ·simp only[N5,hi,if_true]at h1
    exact⟨_,_,h1,Bl (c:=a) h2 fun e s ⟨he,hs⟩=>by subst he;subst hs;simp[N5,hi]⟩
   ·simp only[N5,hi,if_false]at h1
    exact⟨_,_,h1,Bl (c:=a) h2 fun e s ⟨he,hs⟩=>by subst he;subst hs;simp[N5,hi]⟩
 | .loop a,Q,s,⟨n,h⟩=>by
  induction n generalizing s with
  | zero=>exact h.elim
  | succ n ih =>
   obtain⟨e,s1,h1,h2⟩:=I7 (c:=a) h
   cases e with
   | normal =>
    obtain⟨e2,s2,h3,m,h4⟩:=ih _ h1
    exact⟨e2,s2,h3,m+1,Bl (c:=a) h2 fun e s ⟨he,hs⟩=>by subst he;subst hs;exact h4⟩
   | exit i=>exact⟨_,_,h1,1,Bl (c:=a) h2 fun e s ⟨he,hs⟩=>by subst he;subst hs;exact⟨rfl,rfl⟩⟩
   | ret=>exact⟨_,_,h1,1,Bl (c:=a) h2 fun e s ⟨he,hs⟩=>by subst he;subst hs;exact⟨rfl,rfl⟩⟩
 | .exit _,_,_,h=>⟨_,_,h,rfl,rfl⟩
 | .ret,_,_,h=>⟨_,_,h,rfl,rfl⟩
 | .scope a,Q,s,h=>I7 (c:=a) h
 | .gh a gs,Q,s,h=>by
  obtain⟨e,s1,h1,h2⟩:=I7 (c:=a) h
  cases e with
  | normal=>exact⟨_,_,h1,Bl (c:=a) h2 fun e s ⟨he,hs⟩=>by subst he;subst hs;exact⟨rfl,rfl⟩⟩
  | exit i=>exact⟨_,_,h1,Bl (c:=a) h2 fun e s ⟨he,hs⟩=>by subst he;subst hs;exact⟨rfl,rfl⟩⟩
  | ret=>exact⟨_,_,h1,Bl (c:=a) h2 fun e s ⟨he,hs⟩=>by subst he;subst hs;exact⟨rfl,rfl⟩⟩
 | .ghW a,Q,s,h=>by
  obtain⟨e,s1,h1,h2⟩:=I7 (c:=a) h
  cases e with
  | normal=>obtain⟨s',h3,h4⟩:=h1;exact⟨_,_,h4,Bl (c:=a) h2 fun e s ⟨he,hs⟩=>by subst he;subst hs;exact⟨s',h3,rfl,rfl⟩⟩
  | exit i=>exact⟨_,_,h1,Bl (c:=a) h2 fun e s ⟨he,hs⟩=>by subst he;subst hs;exact⟨rfl,rfl⟩⟩
  | ret=>exact⟨_,_,h1,Bl (c:=a) h2 fun e s ⟨he,hs⟩=>by subst he;subst hs;exact⟨rfl,rfl⟩⟩
 | .dead,_,_,h=>h.elim
theorem qF7 {c:IC} {Q:AX->St->Prop} {s:St} (h:awp P Γ c (B0 (awp P Γ (.loop c) Q) Q) s):awp P Γ (.loop c) Q s:=by
 obtain⟨e,s1,h1,h2⟩:=I7 h
 cases e with
 | normal =>
  obtain⟨n,h1⟩:=h1
  exact⟨n+1,Bl h2 fun e s ⟨he,hs⟩=>by subst he;subst hs;exact h1⟩
 | exit i=>exact⟨1,Bl h2 fun e s ⟨he,hs⟩=>by subst he;subst hs;exact h1⟩
 | ret=>exact⟨1,Bl h2 fun e s ⟨he,hs⟩=>by subst he;subst hs;exact h1⟩
theorem q0E:∀ {ids:List Nat} {st:St} {X:Nat->Prop} {μ:D7} {tm:Array Value},Sim w0 B κ X μ st tm w->Sim w0 B κ X μ (Ho ids st) tm w
 | [],_,_,_,_,h=>h
 | id::ids,_,_,_,_,h=>q0E (ids:=ids) (h.kill id)
theorem q0F:∀ {ids:List Nat} {st:St} {t:Nat},A0 (Ho ids st).hp t≠none->t∉ids/\A0 st.hp t≠none
 | [],_,_,h=>⟨by simp,h⟩
 | id::ids,st,t,h=>by
  obtain⟨h1,h2⟩:=q0F (ids:=ids) h
  rw[Lp]at h2
  split at h2
  ·exact absurd rfl h2
  ·rename_i hne
   refine⟨by simp[hne,h1],fun e=>h2 (by rw[e];rfl)⟩
theorem q45 {α:Type}:∀ {l:List (Nat×α)} {t:Nat},A0 l t≠none->t∈l.map (·.1)
 | [],_,h=>absurd rfl h
 | (k,v)::l,t,h=>by
  simp only[A0]at h
  split at h
  ·rename_i e;simp[e]
  ·exact xqf _ (q45 h)
theorem q3S {α:Type} {ks:List Nat} {l:List (Nat×α)} {t:Nat} (h:A0 l t≠none->t∈ks):A0 (Lg.keep ks l) t=A0 l t:=by
 cases hq:A0 (Lg.keep ks l) t with
 | some a=>exact((W3 ks l t a hq).1).symm
 | none =>
  cases hl:A0 l t with
  | none=>rfl
  | some a =>
   exfalso
   have hm:=h (by rw[hl];simp)
   clear h
   induction ks with
   | nil=>cases hm
   | cons k ks ih =>
    unfold Lg.keep at hq ih
    rw[List.filterMap_cons]at hq
    cases hk:A0 l k with
    | none =>
     rw[hk]at hq
     rcases xqv.1 hm with rfl|hm
     ·rw[hl]at hk;cases hk
     ·exact ih hq hm
    | some v =>
     rw[hk]at hq
     simp only[xql,A0]at hq
     split at hq
     ·cases hq
     ·rename_i hne
      rcases xqv.1 hm with rfl|hm
      ·exact hne rfl
      ·exact ih hq hm
theorem Sim.hpc {X:Nat->Prop} {μ:D7} {tm:Array Value} {hp:List (Nat×Aw)} (h:Sim w0 B κ X μ st tm w) (hl:∀ t,A0 hp t=A0 st.hp t):Sim w0 B κ X μ ⟨st.env,hp⟩ tm w:=by
 have hs:St.sh ⟨st.env,hp⟩=st.sh:=funext fun t=>by simp only[St.sh,hl]
 refine⟨fun t a ht=>?_,fun id r hr=>?_,?_,?_,?_,h.kbig,h.xlt,h.os,h.tape,h.output,h.size,h.fr⟩
 ·rw[hs];exact h.env t a ht
 ·rw[hs];exact h.reg id r (by rw[<- hl];exact hr)
 ·rw[hs];exact h.inj
 ·rw[hs];exact h.loc
 ·rw[hs];exact h.kap
theorem Sim.slot {X:Nat->Prop} {μ:D7} {tm:Array Value} {t:Nat} {b:AV} (h:Sim w0 B κ X μ st tm w) (hb:AR w X μ st.sh b (tm.getD t undef)):Sim w0 B κ X μ ⟨(t,b)::st.env,st.hp⟩ tm w:=by
 refine⟨fun u a ha=>?_,h.reg,h.inj,h.loc,h.kap,h.kbig,h.xlt,h.os,h.tape,h.output,h.size,h.fr⟩
 simp only[A0]at ha
 split at ha
 ·rename_i e;subst e;simp only[xqa]at ha;subst ha;exact hb
 ·exact h.env u a ha
theorem TR.nil_inv {X:Nat->Prop} {nl:Option Bool} {v:Value} (h:TR w X (.sl [] (some 0) nl) v):∃ a,v=.slice a 0 0:=by
 cases h with
 | nil cap nl a c hc hn hz=>exact⟨a,by rw[hc 0 rfl]⟩
 | sl es cap nl s b off c f hcell hlen hrel hone hx hle hc hn=>exact⟨_,by rw[hc 0 rfl];rfl⟩
theorem Sim.addNil {X:Nat->Prop} {μ:D7} {tm:Array Value} {id:Nat} (h:Sim w0 B κ X μ st tm w) (hi:A0 st.hp id=none) (hlt:id<1000000) (ty s:Nat):Sim w0 B κ X (μ.set id none) ⟨st.env,(id,.sl ty s [])::st.hp⟩ tm w:=by
 refine h.addReg hi hlt (.sl ty s []) none (fun g n e=>by cases e) ⟨fun i e h=>by simp at h,.inl ⟨rfl,by simp[D7.set]⟩⟩
theorem q0G {a b t:Nat}:∀ {hp:List (Nat×Aw)},A0 hp b=none->a≠b->A0 (Jd a b hp) t=if t=b then(A0 hp a).map (Au (Aq a b))else if t=a then none else(A0 hp t).map (Au (Aq a b))
 | [],_,_=>by simp[Jd,A0]
 | (k,r)::l,hb,hab=>by
  simp only[A0]at hb
  split at hb
  ·cases hb
  rename_i hkb
  have ih:=q0G (t:=t) hb hab
  simp only[Jd,A0,ih]
  by_cases hka:k=a
  ·subst hka
   by_cases htb:t=b
   ·subst htb;simp
   ·simp[htb,Ne.symm htb]
    by_cases hta:t=k
    ·simp[hta]
    ·simp[hta,Ne.symm hta]
  ·simp only[hka,if_false]
   by_cases htb:t=b
   ·subst htb;simp[hkb]
   ·by_cases hkt:k=t
    ·subst hkt;simp[htb,hka]
    ·simp[hkt,htb]
theorem Sim.rename {X:Nat->Prop} {μ:D7} {tm:Array Value} (h:Sim w0 B κ X μ st tm w) {x y:Nat} (hb:A0 st.hp y=none) (ha:A0 st.hp x≠none) (hx:x<1000000) (hy:y<1000000) :
  Sim w0 B κ X (fun i=>if i=y then μ x else μ i) ⟨st.env.map fun p=>(p.1,A8 (Aq x y) p.2),Jd x y st.hp⟩ tm w:=by
 have hne:x≠y:=fun e=>ha (e ▸ hb)
 have hl:=fun t=>q0G (t:=t) hb hne
 have hsh:∀ t,St.sh ⟨st.env.map fun p=>(p.1,A8 (Aq x y) p.2),Jd x y st.hp⟩ t=if t=y then st.sh x else if t=x then none else st.sh t:=by
  intro t
  simp only[St.sh,hl]
  split
  ·cases A0 st.hp x<;>simp[Oi]
  ·split
   ·rfl
   ·cases A0 st.hp t<;>simp[Oi]
 have hyn:st.sh y=none:=St.sh_none.2 hb
 have hφ:∀ i j q,Aq x y i=some j->st.sh i=some q->St.sh ⟨st.env.map fun p=>(p.1,A8 (Aq x y) p.2),Jd x y st.hp⟩ j=some q/\(if j=y then μ x else μ j)=μ i:=by
  intro i j q hj hq
  rw[hsh]
  simp only[Aq]at hj
  split at hj<;>simp only[xqa]at hj<;>subst hj
  ·rename_i e;subst e;simp[hq]
  ·rename_i e
   have:i≠y:=fun e=>by rw[e,hyn]at hq;cases hq
   simp[this,e,hq]
 -- the elder name
 have hback:∀ t,St.sh ⟨st.env.map fun p=>(p.1,A8 (Aq x y) p.2),Jd x y st.hp⟩ t≠none->∃ u,st.sh u≠none/\(if t=y then μ x else μ t)=μ u/\(t=y/\u=x\/t≠y/\t≠x/\u=t):=by
  intro t ht
  rw[hsh]at ht
  by_cases e:t=y
  ·exact⟨x,by simpa[e]using ht,by simp[e],.inl ⟨e,rfl⟩⟩
  ·by_cases f:t=x
   ·rw[if_neg e,if_pos f]at ht
    exact absurd rfl ht
   ·exact⟨t,by simpa[e,f]using ht,by simp[e],.inr ⟨e,f,rfl⟩⟩
 refine⟨?_,?_,?_,?_,?_,h.kbig,h.xlt,h.os,h.tape,h.output,h.size,h.fr⟩
 ·intro t a ht
  have h1:A0 (st.env.map fun p=>(p.1,A8 (Aq x y) p.2)) t=(A0 st.env t).map (A8 (Aq x y)):=Dz _ _ _
  have ht':A0 (st.env.map fun p=>(p.1,A8 (Aq x y) p.2)) t=some a:=ht
  rw[h1,xqb]at ht'
  obtain⟨b,hb,rfl⟩:=ht'
  exact(h.env t b hb).ren hφ
 ·intro t r hr
  have hr':A0 (Jd x y st.hp) t=some r:=hr
  rw[hl]at hr'
  split at hr'
  ·rename_i e;subst e
   rw[xqb]at hr'
   obtain⟨q,hq,rfl⟩:=hr'
   exact(h.reg x q hq).ren hφ (by simp)
  ·rename_i e
   split at hr'
   ·cases hr'
   ·rw[xqb]at hr'
    obtain⟨q,hq,rfl⟩:=hr'
    exact(h.reg t q hq).ren hφ (by simp[e])
 ·intro a b g n n' ha' hb' hma hmb
  obtain⟨u,h1,h2,h3⟩:=hback a ha'
  obtain⟨v,h4,h5,h6⟩:=hback b hb'
  have:=h.inj u v g n n' h1 h4 (h2 ▸ hma) (h5 ▸ hmb)
  subst this
  rcases h3 with⟨h3,h3'⟩|⟨h3,h3',h3''⟩<;>rcases h6 with⟨h6,h6'⟩|⟨h6,h6',h6''⟩
  ·rw[h3,h6]
  ·exact absurd (h6''.symm.trans h3') h6'
  ·exact absurd (h3''.symm.trans h6') h3'
  ·rw[<- h3'',<- h6'']
 ·intro t g n ht hm
  obtain⟨u,h1,h2,_⟩:=hback t ht
  exact h.loc u g n h1 (h2 ▸ hm)
 ·intro t hbig ht
  obtain⟨u,h1,h2,h3⟩:=hback t ht
  rcases h3 with⟨h3,_⟩|⟨_,_,h3⟩
  ·omega
  ·subst h3
   exact h2.trans (h.kap u hbig h1)
theorem Ut.freeze (hI:Ut Γ w0 B κ X0 N st a w) (id:Nat):Ut Γ w0 B κ X0 N (st.freeze id) a w:=by
 obtain⟨X,μ,hsim,hg,h0,hbd,hsz,hds⟩:=hI
 simp only[St.freeze]
 split
 ·rename_i r hl
  split
  ·rename_i hc
   refine⟨_,μ,hsim.freeze hl hc,hg.mono (fun _ _=>rfl) (fun _ hb=>.inl hb),fun b hb=>.inl (h0 b hb),fun b hb=>?_,hsz,hds⟩
   rcases hb with hb|⟨n,hb⟩
   ·exact hbd b hb
   ·rcases Nat.lt_or_ge b B with hlt|hge
    ·obtain⟨id',n',hk⟩:=(hsim.loc id b n (by simp[Eh hl]) hb).2.2 hlt
     exact .inr (.inr ⟨id',n',hk⟩)
    ·exact .inr (.inl hge)
  ·exact⟨X,μ,hsim,hg,h0,hbd,hsz,hds⟩
 ·exact⟨X,μ,hsim,hg,h0,hbd,hsz,hds⟩
theorem qCs {base:Nat}:∀ {n:Nat} {st:St},Ut Γ w0 B κ X0 N st a w->Ut Γ w0 B κ X0 N (qBu base n st) a w
 | 0,_,h=>h
 | n+1,_,h=>qCs (n:=n) (h.freeze (base+n))
theorem q77 (x y:Nat) (hI:Ut Γ w0 B κ X0 N st a w):Ut Γ w0 B κ X0 N (Uw x y st) a w:=by
 obtain⟨X,μ,hsim,hg,h0,hbd,hsz,hds⟩:=hI
 simp only[Uw]
 split
 ·rename_i hc
  simp only[xqc,Option.isNone_iff_eq_none,xqu,Option.isSome_iff_ne_none]at hc
  exact⟨X,_,hsim.rename hc.1.1.1 hc.1.1.2 hc.1.2 hc.2,hg,h0,hbd,hsz,hds⟩
 ·exact⟨X,μ,hsim,hg,h0,hbd,hsz,hds⟩
theorem qAX (rid k id ty s:Nat) (hI:Ut Γ w0 B κ X0 N st a w):Ut Γ w0 B κ X0 N (qCr rid k id ty s st) a w:=by
 obtain⟨X,μ,hsim,hg,h0,hbd,hsz,hds⟩:=hI
 unfold qCr
 split
 ·rename_i cs hl
  split
  ·rename_i nl hk
   split
   ·rename_i hc
    simp only[xqc,Option.isNone_iff_eq_none,xqu]at hc
    have h1:=hsim.addNil hc.1 hc.2 ty s
    have hne:rid≠id:=fun e=>by rw[e,hc.1]at hl;cases hl
    have hlk:∀ t,A0 ((id,Aw.sl ty s [])::Dn rid (.bx (cs.set k (.ls id 0 0 none))) st.hp) t=if t=rid then some (.bx (cs.set k (.ls id 0 0 none)))else A0 ((id,Aw.sl ty s [])::st.hp) t:=by
     intro t
     simp only[A0]
     by_cases e:id=t
     ·subst e;simp[Ne.symm hne]
     ·simp only[e,if_false]
      rw[Em,hl];rfl
    have hsh:∀ t,St.sh ⟨st.env,(id,Aw.sl ty s [])::Dn rid (.bx (cs.set k (.ls id 0 0 none))) st.hp⟩ t=St.sh ⟨st.env,(id,Aw.sl ty s [])::st.hp⟩ t:=by
     intro t
     simp only[St.sh,hlk]
     split
     ·rename_i e;subst e;simp[A0,Ne.symm hne,hl,Aw.sh]
     ·rfl
    have hsf:St.sh ⟨st.env,(id,Aw.sl ty s [])::Dn rid (.bx (cs.set k (.ls id 0 0 none))) st.hp⟩=St.sh ⟨st.env,(id,Aw.sl ty s [])::st.hp⟩:=funext hsh
    refine⟨X,μ.set id none,⟨fun t b hb=>?_,fun t r hr=>?_,?_,?_,?_,h1.kbig,h1.xlt,h1.os,h1.tape,h1.output,h1.size,h1.fr⟩,hg,h0,hbd,hsz,hds⟩
    ·rw[hsf];exact h1.env t b hb
    ·rw[hsf]
     simp only[hlk]at hr
     split at hr
     ·rename_i e;subst e
      simp only[xqa]at hr;subst hr
      obtain⟨h2,g,arr,ty',hm,hg',hle,hrel⟩:=h1.reg t (.bx cs) (by simp[A0,Ne.symm hne,hl])
      obtain⟨ad,hv⟩:∃ ad,arr[k]? = some (.slice ad 0 0):=by
       have hklt:=(xqi.1 hk).1
       have hka:k<arr.size:=by rw[<- hle];exact hklt
       have h3:=hrel k _ arr[k] hk (by simp[hka])
       obtain⟨ad,e⟩:=h3.t_inv.nil_inv
       exact⟨ad,by simp[hka,e]⟩
      refine⟨fun j b hb=>?_,g,arr,ty',hm,hg',by simpa using hle,fun j b x hb hx=>?_⟩
      ·rw[xzb]at hb
       split at hb
       ·split at hb
        ·simp only[xqa]at hb;subst hb;rfl
        ·cases hb
       ·exact h2 j b hb
      ·rw[xzb]at hb
       split at hb
       ·rename_i e;subst e
        split at hb
        ·simp only[xqa]at hb;subst hb
         rw[hv]at hx;cases hx
         exact .lsnil id s 0 (by simp[St.sh,A0,Aw.sh]) (by simp[D7.set]) ad none (fun q h=>by cases h)
        ·cases hb
       ·exact hrel j b x hb hx
     ·exact h1.reg t r hr
    ·rw[hsf];exact h1.inj
    ·rw[hsf];exact h1.loc
    ·rw[hsf];exact h1.kap
   ·exact⟨X,μ,hsim,hg,h0,hbd,hsz,hds⟩
  ·exact⟨X,μ,hsim,hg,h0,hbd,hsz,hds⟩
 ·exact⟨X,μ,hsim,hg,h0,hbd,hsz,hds⟩
theorem Sim.swap {w0:World} {B:Nat} {κ:D7} {X:Nat->Prop} {μ:D7} {st:St} {tm:Array Value} {w:World} (h:Sim w0 B κ X μ st tm w) {id:Nat} {r r':Aw} (hl:A0 st.hp id=some r) (hs:r'.sh=r.sh) (hr:Dc w X μ st.sh id r'):Sim w0 B κ X μ ⟨st.env,Dn id r' st.hp⟩ tm w:=by
 have hlk:∀ t,A0 (Dn id r' st.hp) t=if t=id then some r' else A0 st.hp t:=fun t=>by rw[Em,hl];rfl
 have hsh:St.sh ⟨st.env,Dn id r' st.hp⟩=st.sh:=funext fun t=>by
  simp only[St.sh,hlk]
  split
  ·rename_i e;subst e;simp[hl,hs]
  ·rfl
 refine⟨fun t a ha=>?_,fun t q hq=>?_,?_,?_,?_,h.kbig,h.xlt,h.os,h.tape,h.output,h.size,h.fr⟩
 ·rw[hsh];exact h.env t a ha
 ·rw[hsh]
  simp only[hlk]at hq
  split at hq
  ·rename_i e;subst e;simp only[xqa]at hq;subst hq;exact hr
  ·exact h.reg t q hq
 ·rw[hsh];exact h.inj
 ·rw[hsh];exact h.loc
 ·rw[hsh];exact h.kap
theorem Gh.run_ok (g:Gh) (hI:Ut Γ w0 B κ X0 N st a w):Ut Γ w0 B κ X0 N (g.run st) a w:=by
 obtain⟨X,μ,hsim,hg,h0,hbd,hsz,hds⟩:=hI
 cases g with
 | keep ks rs =>
  have h1:Sim w0 B κ X μ ⟨Lg.keep ks st.env,st.hp⟩ a.tmps w:=hsim.sub _ fun t b ht=>(W3 ks _ t b ht).1
  have h2:=q0E (ids:=(st.hp.map (·.1)).filter fun id=>!rs.contains id) h1
  refine⟨X,μ,h2.hpc fun t=>q3S fun hne=>?_,hg,h0,hbd,hsz,hds⟩
  obtain⟨h3,h4⟩:=q0F hne
  have h5:=q45 h4
  simp only[xzi,not_and,Bool.not_eq_true',xzm]at h3
  have:=h3 h5
  simpa using this
 | frz id=>exact Ut.freeze ⟨X,μ,hsim,hg,h0,hbd,hsz,hds⟩ id
 | frzs base n=>exact qCs ⟨X,μ,hsim,hg,h0,hbd,hsz,hds⟩
 | drop ids=>exact⟨X,μ,q0E (ids:=ids) hsim,hg,h0,hbd,hsz,hds⟩
 | keepE ks=>exact⟨X,μ,hsim.sub _ fun t b ht=>(W3 ks _ t b ht).1,hg,h0,hbd,hsz,hds⟩
 | toR id =>
  simp only[Gh.run]
  split
  ·rename_i ty s es hl
   exact⟨X,μ,hsim.swap hl (by simp[Aw.sh]) (Dc.rs_sl.1 (hsim.reg id _ hl)),hg,h0,hbd,hsz,hds⟩
  ·exact⟨X,μ,hsim,hg,h0,hbd,hsz,hds⟩
 | toM id =>
  simp only[Gh.run]
  split
  ·rename_i hl
   refine⟨X,μ,hsim.swap hl rfl ?_,hg,h0,hbd,hsz,hds⟩
   obtain⟨g,n,clock,ms,hm,hh,hle,hr⟩:=hsim.reg id _ hl
   have:ms=[]:=xqo hle.symm
   subst this
   exact⟨g,n,clock,[],hm,hh,⟨fun m h=>(by cases h),List.nodup_nil⟩,rfl,fun i e m h1 _=>by simp at h1⟩
  ·exact⟨X,μ,hsim,hg,h0,hbd,hsz,hds⟩
 | renB x y n =>
  have key:∀ (n:Nat) (st:St),Ut Γ w0 B κ X0 N st a w->Ut Γ w0 B κ X0 N (qIf x y n st) a w:=by
   intro n
   induction n with
   | zero=>exact fun st h=>h
   | succ n ih=>exact fun st h=>ih _ (q77 _ _ h)
  exact key n st ⟨X,μ,hsim,hg,h0,hbd,hsz,hds⟩
 | ren x y=>exact q77 x y ⟨X,μ,hsim,hg,h0,hbd,hsz,hds⟩
 | renS x base slot =>
  simp only[Gh.run]
  split
  ·exact q77 _ _ ⟨X,μ,hsim,hg,h0,hbd,hsz,hds⟩
  ·exact⟨X,μ,hsim,hg,h0,hbd,hsz,hds⟩
 | keepB ks rs base n =>
  have h1:Sim w0 B κ X μ ⟨Lg.keep ks st.env,st.hp⟩ a.tmps w:=hsim.sub _ fun t b ht=>(W3 ks _ t b ht).1
  have h2:=q0E (ids:=(st.hp.map (·.1)).filter fun id=>!rs.contains id && !(decide (base<=id)&&decide (id<base+n))) h1
  refine⟨X,μ,h2.hpc fun t=>?_,hg,h0,hbd,hsz,hds⟩
  rw[Cb]
  by_cases ht:t∈rs
  ·rw[q3S (fun _=>ht)]
   cases hl:A0 (Ho ((st.hp.map (·.1)).filter fun id=>!rs.contains id && !(decide (base<=id)&&decide (id<base+n))) ⟨Lg.keep ks st.env,st.hp⟩).hp t with
   | some r=>rfl
   | none =>
    simp only[Option.none_or]
    cases hk:A0 (Lg.keep (List.range' base n) (Ho ((st.hp.map (·.1)).filter fun id=>!rs.contains id && !(decide (base<=id)&&decide (id<base+n))) ⟨Lg.keep ks st.env,st.hp⟩).hp) t with
    | none=>rfl
    | some r=>have:=(W3 _ _ t r hk).1;rw[hl]at this;cases this
  ·have e:A0 (Lg.keep rs (Ho ((st.hp.map (·.1)).filter fun id=>!rs.contains id && !(decide (base<=id)&&decide (id<base+n))) ⟨Lg.keep ks st.env,st.hp⟩).hp) t=none:=by
    cases hk:A0 (Lg.keep rs (Ho ((st.hp.map (·.1)).filter fun id=>!rs.contains id && !(decide (base<=id)&&decide (id<base+n))) ⟨Lg.keep ks st.env,st.hp⟩).hp) t with
    | none=>rfl
    | some r=>exact absurd (W3 _ _ t r hk).2 ht
   rw[e,Option.none_or]
   refine q3S fun hne=>?_
   obtain⟨h3,h4⟩:=q0F hne
   have h5:=q45 h4
   simp only[xzi,not_and,Bool.not_eq_true',xzm]at h3
   have:=h3 h5
   simp[ht]at this
   rw[List.mem_range'_1];omega
 | nl slot id ty s =>
  simp only[Gh.run]
  split
  ·rename_i nl hl
   split
   ·rename_i hc
    simp only[xqc,Option.isNone_iff_eq_none,xqu]at hc
    have h1:=hsim.addNil hc.1 hc.2 ty s
    obtain⟨ad,hv⟩:=(hsim.env slot _ hl).t_inv.nil_inv
    refine⟨X,μ.set id none,h1.slot ?_,hg,h0,hbd,hsz,hds⟩
    rw[hv]
    exact .lsnil id s 0 (by simp[St.sh,A0,Aw.sh]) (by simp[D7.set]) ad none (fun q h=>by cases h)
   ·exact⟨X,μ,hsim,hg,h0,hbd,hsz,hds⟩
  ·exact⟨X,μ,hsim,hg,h0,hbd,hsz,hds⟩
 | nlb rid k id ty s=>exact qAX rid k id ty s ⟨X,μ,hsim,hg,h0,hbd,hsz,hds⟩
 | nlbS rid slot id ty s =>
  simp only[Gh.run]
  split
  ·exact qAX _ _ _ _ _ ⟨X,μ,hsim,hg,h0,hbd,hsz,hds⟩
  ·exact⟨X,μ,hsim,hg,h0,hbd,hsz,hds⟩
theorem q9f:∀ {gs:List Gh} {st:St},Ut Γ w0 B κ X0 N st a w->Ut Γ w0 B κ X0 N (gs.foldl (fun s g=>g.run s) st) a w
 | [],_,h=>h
 | g::gs,_,h=>q9f (gs:=gs) (Gh.run_ok g h)
def post (Γ:Tables) (w0:World) (B:Nat) (κ:D7) (X0:Nat->Prop) (N:Nat) (Q:AX->St->Prop):Exit->Act->World->Prop:=fun e a w=>∃ x s,e=x.to/\Ut Γ w0 B κ X0 N s a w/\Q x s
theorem Ut.drawn (h:Ut Γ w0 B κ X0 N st a w) (n:Nat):Ut Γ w0 B κ X0 N st a { w with drawn:=n }:=by
 have hb:RowKit.Below w.heap.size w { w with drawn:=n }:=by constructor<;>simp
 obtain⟨X,μ,hsim,hg,h0,hbd,hsz,hds⟩:=h
 have hs:Same X w { w with drawn:=n }:=fun _ _=>rfl
 exact⟨X,μ,hsim.grow hb (fun _ hb=>hb) (fun _ hb=>.inl hb),hg.mono hs (fun _ hb=>hb),h0,hbd,hsz,hds⟩
theorem Dw (hN:N<=1000000) (hm:P.follows .mixedOrders=true):∀ {c:IC} {d:Code} {Q:AX->St->Prop} {st:St} {a:Act} {w:World},Rk P N c d=true->Ut Γ w0 B κ X0 N st a w->awp P Γ c Q st->d.wp P (post Γ w0 B κ X0 N Q) a w
 | .skip,d,Q,st,a,w,hc,hI,h=>by
  cases d<;>simp[Rk]at hc
  ·exact wp_skip ⟨.normal,st,rfl,hI,h⟩
  ·exact wp_label ⟨.normal,st,rfl,hI,h⟩
 | .reg ros gs,d,Q,st,a,w,hc,hI,h=>by
  cases d<;>simp only[Rk,xqn]at hc
  rename_i id ops dr
  simp only[xqc,xzz,Bool.not_eq_true']at hc
  obtain⟨s1,h1,h2⟩:=h
  have fin:∀ a' w',Ut Γ w0 B κ X0 N s1 a' w'->post Γ w0 B κ X0 N Q .normal a' w':=fun a' w' hI'=>⟨.normal,_,rfl,q9f hI',h2⟩
  cases dr with
  | false =>
   refine wp_region_list ?_
   have:=q5j (Q:=post Γ w0 B κ X0 N Q) (ops:=ops.toList) hN hI hc.1 h1 fin
   rwa [xz5]at this
  | true =>
   have hd:=hc.2.resolve_left (by simp)
   refine wp_region_any hm ?_
   have:=qBr (Q:=post Γ w0 B κ X0 N Q) (ops:=ops.toList) hN (hI.drawn (w.drawn+1)) hc.1 hd h1 fin
   rwa [xz5]at this
 | .seq x y,d,Q,st,a,w,hc,hI,h=>by
  cases d<;>simp only[Rk,xqn]at hc
  simp only[xqc]at hc
  refine wp_seq (wp_mono (Dw hN hm (c:=x) hc.1 hI h) ?_)
  rintro e a w ⟨x,s,rfl,hI,hq⟩
  cases x with
  | normal=>exact Dw hN hm (c:=y) hc.2 hI hq
  | exit i=>exact⟨_,s,rfl,hI,hq⟩
  | ret=>exact⟨_,s,rfl,hI,hq⟩
 | .cond o x y,d,Q,st,a,w,hc,hI,h=>by
  cases d<;>simp only[Rk,xqn]at hc
  simp only[xqc]at hc
  obtain⟨⟨⟨h1,h2⟩,h3⟩,h4⟩:=hc
  have:=Af h1;subst this
  obtain⟨t,h5,h6,h7⟩:=h
  obtain⟨X,μ,hsim,hg,h0,hbd,hsz,hds⟩:=id hI
  have hev:=(Az (ds:=a.defers) hsim hg h5 h2).t_inv.v_inv
  refine wp_cond_split (t:=t) hev (fun e=>Dw hN hm (c:=x) h3 hI (h6 e)) (fun e=>Dw hN hm (c:=y) h4 hI (h7 e))
 | .block i x,d,Q,st,a,w,hc,hI,h=>by
  cases d<;>simp only[Rk,xqn]at hc
  simp only[xqc,xz0]at hc
  obtain⟨rfl,hc⟩:=hc
  refine wp_block (wp_mono (Dw hN hm (c:=x) hc hI h) ?_)
  rintro e a w ⟨x,s,rfl,hI,hq⟩
  cases x with
  | normal=>exact⟨.normal,s,rfl,hI,hq⟩
  | ret=>exact⟨.ret,s,rfl,hI,hq⟩
  | exit j =>
   simp only[N5]at hq
   simp only[AX.to,Exit.inBlock]
   split
   ·rename_i hj;rw[if_pos hj]at hq;exact⟨.normal,s,rfl,hI,hq⟩
   ·rename_i hj;rw[if_neg hj]at hq;exact⟨.exit j,s,rfl,hI,hq⟩
 | .loop x,d,Q,st,a,w,hc,hI,h=>by
  cases d<;>simp only[Rk,xqn]at hc
  rename_i y
  have least:∀ p:Nat->Prop,(∃ n,p n)->∃ n,p n/\∀ m,p m->n<=m:=by
   intro p ⟨n,hn⟩
   induction n using Nat.strongRecOn with
   | _ n ih =>
    by_cases hlt:∃ m,m<n/\p m
    ·obtain⟨m,hm,hp⟩:=hlt;exact ih m hm hp
    ·exact⟨n,hn,fun m hm=>by rcases Nat.lt_or_ge m n with h|h;exact absurd ⟨m,h,hm⟩ hlt;exact h⟩
  let p:Act->World->Nat->Prop:=fun a w n=>∃ s,Ut Γ w0 B κ X0 N s a w/\qF6 (awp P Γ x) Q n s
  classical
  refine wp_loop (fun a w=>∃ n,p a w n) (fun a w=>if hp:∃ n,p a w n then Classical.choose (least _ hp)else 0) ?_ ?_
  ·obtain⟨n,h⟩:=h;exact⟨n,st,hI,h⟩
  ·intro a w hp
   have hn:=Classical.choose_spec (least _ hp)
   generalize hnn:Classical.choose (least _ hp)=n at hn
   obtain⟨⟨s,hI,hl⟩,hmin⟩:=hn
   cases n with
   | zero=>exact hl.elim
   | succ n =>
    refine wp_mono (Dw hN hm (c:=x) hc hI hl) ?_
    rintro e a' w' ⟨x',s',rfl,hI',hq⟩
    cases x' with
    | normal =>
     have hp':∃ n,p a' w' n:=⟨n,s',hI',hq⟩
     refine⟨hp',?_⟩
     show(if hp:∃ n,p a' w' n then Classical.choose (least _ hp)else 0)<(if hp:∃ n,p a w n then Classical.choose (least _ hp)else 0)
     rw[dif_pos hp',dif_pos hp,hnn]
     have:=(Classical.choose_spec (least _ hp')).2 n ⟨s',hI',hq⟩
     omega
    | exit i=>exact⟨_,s',rfl,hI',hq⟩
    | ret=>exact⟨_,s',rfl,hI',hq⟩
 | .exit i,d,Q,st,a,w,hc,hI,h=>by
  cases d<;>simp only[Rk,xqn,xz0]at hc
  subst hc
  exact wp_exit ⟨.exit i,st,rfl,hI,h⟩
 | .ret,d,Q,st,a,w,hc,hI,h=>by
  cases d<;>simp[Rk]at hc
  exact wp_ret ⟨.ret,st,rfl,hI,h⟩
 | .scope x,d,Q,st,a,w,hc,hI,h=>by
  cases d<;>simp only[Rk,xqn]at hc
  refine wp_scope_straight (wp_mono (Dw hN hm (c:=x) hc hI h) ?_)
  rintro e a w ⟨x,s,rfl,hI,hq⟩
  cases x with
  | normal=>exact⟨.normal,s,rfl,hI,hq⟩
  | exit i=>exact⟨.exit i,s,rfl,hI,hq⟩
  | ret=>exact⟨.ret,s,rfl,hI,hq⟩
 | .gh x gs,d,Q,st,a,w,hc,hI,h=>by
  have hc':Rk P N x d=true:=by cases d<;>simpa only[Rk]using hc
  refine wp_mono (Dw hN hm (c:=x) hc' hI h) ?_
  rintro e a w ⟨x,s,rfl,hI,hq⟩
  cases x with
  | normal=>exact⟨.normal,_,rfl,q9f hI,hq⟩
  | exit i=>exact⟨.exit i,s,rfl,hI,hq⟩
  | ret=>exact⟨.ret,s,rfl,hI,hq⟩
 | .ghW x,d,Q,st,a,w,hc,hI,h=>by
  have hc':Rk P N x d=true:=by cases d<;>simpa only[Rk]using hc
  refine wp_mono (Dw hN hm (c:=x) hc' hI h) ?_
  rintro e a w ⟨x,s,rfl,hI,hq⟩
  cases x with
  | normal=>obtain⟨s',h1,h2⟩:=hq;exact⟨.normal,s',rfl,h1 _ _ _ _ _ _ _ hI,h2⟩
  | exit i=>exact⟨.exit i,s,rfl,hI,hq⟩
  | ret=>exact⟨.ret,s,rfl,hI,hq⟩
 | .dead,d,Q,st,a,w,hc,hI,h=>h.elim
theorem Imp.refl (s:St):Imp Γ s s:=fun _ _ _ _ _ _ _ h=>h
theorem Imp.trans {s s1 s2:St} (h:Imp Γ s s1) (h':Imp Γ s1 s2):Imp Γ s s2:=fun _ _ _ _ _ _ _ hI=>h' _ _ _ _ _ _ _ (h _ _ _ _ _ _ _ hI)
theorem Imp.gh (g:Gh) (s:St):Imp Γ s (g.run s):=fun _ _ _ _ _ _ _ hI=>Gh.run_ok g hI
theorem Imp.ghs (gs:List Gh) (s:St):Imp Γ s (gs.foldl (fun s g=>g.run s) s):=fun _ _ _ _ _ _ _ hI=>q9f hI
theorem Imp.like {env env':List (Nat×AV)} {hp hp':List (Nat×Aw)} (h1:∀ t a,A0 env' t=some a->A0 env t=some a) (h2:∀ t,A0 hp' t=A0 hp t):Imp Γ ⟨env,hp⟩ ⟨env',hp'⟩:=fun _ _ _ _ _ _ _ ⟨X,μ,hsim,hg,h0,hbd,hsz,hds⟩=>⟨X,μ,(hsim.sub env' h1).hpc h2,hg,h0,hbd,hsz,hds⟩
end
end Go.Lg
namespace Go.Lg
open Go
inductive RV where
 | tmp (t:Nat)
 | cell (t n:Nat) (g:Bool)
def qAY (P:Program):RV->ResultVar->Bool
 | .tmp t,.tmp u=>t==u
 | .cell t n g,.cell u ty=>t==u&&Me P ty==some n&&Yw P ty==some g&&(g||n==1)
 | _,_=>false
def Do (P:Program):List RV->List ResultVar->Bool
 | [],[]=>true
 | a::as,b::bs=>qAY P a b&&Do P as bs
 | _,_=>false
def q69 (s:St):RV->Option (Prop×AV)
 | .tmp t=>(A0 s.env t).map fun a=>(True,a)
 | .cell t n g=>match A0 s.env t with
  | some (.lp id _ k)=>match A0 s.hp id with
   | some (.bx cs)=>some (k+n<=cs.length,M3 g ((cs.drop k).take n))
   | _=>none
  | _=>none
def q59 (s:St) (rv:RV):Option (Prop×T):=(q69 s rv).bind fun q=>(Aj s.hp 4 q.2).map fun t=>(q.1,t)
def q0g (s:St):List RV->Option (Prop×T)
 | []=>some (True,.tup [])
 | [a]=>q59 s a
 | [a,b]=>(q59 s a).bind fun p=>(q59 s b).map fun q=>(p.1/\q.1,.tup [p.2,q.2])
 | [a,b,c]=>(q59 s a).bind fun p=>(q59 s b).bind fun q=>(q59 s c).map fun r=>(p.1/\q.1/\r.1,.tup [p.2,q.2,r.2])
 | [a,b,c,d]=>(q59 s a).bind fun p=>(q59 s b).bind fun q=>(q59 s c).bind fun r=>(q59 s d).map fun u=>(p.1/\q.1/\r.1/\u.1,.tup [p.2,q.2,r.2,u.2])
 | _=>none
def Bc (P:Program) (f:FuncId) (ic:IC) (N n:Nat) (rvs:List RV):Bool:=match P.funcs[f]? with
 | some fn=>(match fn.body with|some c=>Rk P N ic c|none=>false) && !(fn.name == "runtime.NumGoroutine")&&fn.ntmps==N&&decide (N<=1000000)&&decide (n<=N)&&Do P rvs fn.results.toList&&P.follows .mixedOrders
 | none=>false
def params:Nat->List T->List (Nat×AV)
 | _,[]=>[]
 | k,t::ts=>(k,.t t)::params (k+1) ts
theorem qAZ {ts:List T}:∀ {k i:Nat} {a:AV},A0 (params k ts) i=some a->k<=i/\∃ t,ts[i-k]? = some t/\a=.t t:=by
 induction ts with
 | nil=>intro k i a h;simp[params,A0]at h
 | cons t ts ih =>
  intro k i a h
  simp only[params,A0]at h
  split at h
  ·rename_i e;subst e;simp only[xqa]at h;subst h;exact⟨xzo _,t,by simp,rfl⟩
  ·obtain⟨h1,u,h2,h3⟩:=ih h
   refine⟨by omega,u,?_,h3⟩
   have:i-k=i-(k+1)+1:=by omega
   rw[this];simpa using h2
def qKt (rvs:List RV) (res:T):AX->St->Prop
 | .exit _,_=>False
 | _,s=>∃ c,q0g s rvs=some (c,res)/\c
section
variable {P:Program} {Γ:Tables} {w0:World} {B:Nat} {κ:D7} {X0 X:Nat->Prop} {μ:D7} {st:St} {N:Nat} {a:Act} {w:World} {tm:Array Value}
def q8p (tm:Array Value):ResultVar->Go.Sem Value
 | .tmp t=>pure (tm.getD t undef)
 | .cell a t=>do loadVar t (<- asAddr (tm.getD a undef))
theorem q0H (h:Sim w0 B κ X μ st tm w) {rv:RV} {r:ResultVar} (hc:qAY P rv r=true) {c:Prop} {x:AV} (hr:q69 st rv=some (c,x)) (hcc:c):∃ v,(q8p tm r).run P w=.ok v w/\AR w X μ st.sh x v:=by
 cases rv with
 | tmp t =>
  cases r<;>simp[qAY]at hc
  subst hc
  simp only[q69,xqb,xqd]at hr
  obtain⟨b,hb,_,rfl⟩:=hr
  exact⟨_,rfl,h.env t b hb⟩
 | cell t n g =>
  cases r<;>simp[qAY]at hc
  rename_i u ty
  obtain⟨⟨⟨rfl,hz⟩,ha⟩,hn⟩:=hc
  have hn:(g||n==1)=true:=by simpa using hn
  simp only[q69]at hr
  split at hr
  ·rename_i id i k hl0
   split at hr
   ·rename_i cs hl
    simp only[xqa,xqd]at hr
    obtain⟨rfl,rfl⟩:=hr
    obtain⟨gb,m,hm,hp⟩:=(h.env t _ hl0).lp_inv
    rcases hp with⟨s,q,hs,_⟩|⟨hs,rfl,he⟩
    ·rw[Eh hl]at hs;cases hs
    obtain⟨h1,g',arr,ty',hm',hheap,hsz,hr⟩:=h.reg id _ hl
    rw[hm]at hm';cases hm'
    have hr:Ir w X μ st.sh cs arr.toList:=⟨by simp[hsz],fun k a x h2 h3=>hr k a x h2 (by simpa using h3)⟩
    have h1:C7 cs=true:=xqz.2 fun t ht=>by obtain⟨j,hj,rfl⟩:=xqt ht;exact h1 j _ (by simp[hj])
    have hlen:((arr.toList.drop k).take n).length=n:=by simp;omega
    refine⟨if g then .agg ((arr.toList.drop k).take n).toArray else((arr.toList.drop k).take n).headD undef,?_,q1B ((hr.drop k).take n) (Yy h1 k n) (by rw[hlen];exact hn)⟩
    have hrun:=q02 (P:=P) (w:=w) hz ha hn (b:=gb) (off:=k) hlen (fun j x hj=>by
     rw[xq0]at hj
     split at hj
     ·rw[xzc]at hj
      rw[cell_of_row w gb _ arr ty' (0,0) hheap];simpa using hj
     ·cases hj)
    have e:q8p tm (.cell t ty)=(Instr.loadAt ty (.pointer (some ⟨gb,k,none⟩))):=by
     simp only[q8p,he,asAddr,Instr.loadAt,Instr.sureAddr]
    rw[e];exact hrun
   ·cases hr
  ·cases hr
theorem S8 (h:Sim w0 B κ X μ st tm w) {rv:RV} {r:ResultVar} (hc:qAY P rv r=true) {c:Prop} {t:T} (hr:q59 st rv=some (c,t)) (hcc:c):∃ v,(q8p tm r).run P w=.ok v w/\TR w (fun b=>X b\/q9b st μ b) t v:=by
 simp only[q59,xqk,xqb,xqd]at hr
 obtain⟨⟨c',x⟩,hq,t',ht,rfl,rfl⟩:=hr
 obtain⟨v,h1,h2⟩:=q0H h hc hq hcc
 exact⟨v,h1,q6w h 4 h2 ht⟩
theorem qAa (h:Sim w0 B κ X μ st tm w) {fn:Func} {rvs:List RV} (hc:Do P rvs fn.results.toList=true) {c:Prop} {res:T} (hr:q0g st rvs=some (c,res)) (hcc:c) :
  ∃ v,(results fn tm).run P w=.ok v w/\TR w (fun b=>X b\/q9b st μ b) res v:=by
 have hres:results fn tm=(do let vs <- fn.results.mapM (q8p tm);pure (if h:vs.size=1 then vs[0]else .tuple vs)):=rfl
 have hfr:fn.results=fn.results.toList.toArray:=by simp
 generalize hl:fn.results.toList=l at hc hfr
 match rvs,l,hc with
 | [],[],_ =>
  simp only[q0g,xqa,xqd]at hr
  obtain⟨rfl,rfl⟩:=hr
  exact⟨.tuple #[],by rw[hres,hfr];simp,TR.mk_tup (Fp.nil _ _)⟩
 | [a],[x],hc =>
  simp only[Do,xqc]at hc
  obtain⟨v,h1,h2⟩:=S8 h hc.1 hr hcc
  exact⟨v,by rw[hres,hfr];simp[h1],h2⟩
 | [a,b],[x,y],hc =>
  simp only[Do,xqc]at hc
  simp only[q0g,xqk,xqb,xqd]at hr
  obtain⟨p,hp,q,hq,rfl,rfl⟩:=hr
  obtain⟨v,h1,h2⟩:=S8 h hc.1 hp hcc.1
  obtain⟨u,h3,h4⟩:=S8 h hc.2.1 hq hcc.2
  exact⟨.tuple #[v,u],by rw[hres,hfr];simp[h1,h3],TR.mk_tup (Fp.cons h2 (Fp.cons h4 (Fp.nil _ _)))⟩
 | [a,b,d],[x,y,z],hc =>
  simp only[Do,xqc]at hc
  simp only[q0g,xqk,xqb,xqd]at hr
  obtain⟨p,hp,q,hq,r,hr,rfl,rfl⟩:=hr
  obtain⟨v,h1,h2⟩:=S8 h hc.1 hp hcc.1
  obtain⟨u,h3,h4⟩:=S8 h hc.2.1 hq hcc.2.1
  obtain⟨z,h5,h6⟩:=S8 h hc.2.2.1 hr hcc.2.2
  exact⟨.tuple #[v,u,z],by rw[hres,hfr];simp[h1,h3,h5],TR.mk_tup (Fp.cons h2 (Fp.cons h4 (Fp.cons h6 (Fp.nil _ _))))⟩
 | [a,b,d,e],[x,y,z,u],hc =>
  simp only[Do,xqc]at hc
  simp only[q0g,xqk,xqb,xqd]at hr
  obtain⟨p,hp,q,hq,r,hr,u,hu,rfl,rfl⟩:=hr
  obtain⟨v,h1,h2⟩:=S8 h hc.1 hp hcc.1
  obtain⟨u,h3,h4⟩:=S8 h hc.2.1 hq hcc.2.1
  obtain⟨z,h5,h6⟩:=S8 h hc.2.2.1 hr hcc.2.2.1
  obtain⟨y,h7,h8⟩:=S8 h hc.2.2.2.1 hu hcc.2.2.2
  exact⟨.tuple #[v,u,z,y],by rw[hres,hfr];simp[h1,h3,h5,h7],TR.mk_tup (Fp.cons h2 (Fp.cons h4 (Fp.cons h6 (Fp.cons h8 (Fp.nil _ _)))))⟩
 | _::_::_::_::_::_,_,_=>simp[q0g]at hr
 | [_,_,_,_],[_],hc=>simp[Do]at hc
 | [_,_,_,_],[_,_],hc=>simp[Do]at hc
 | [_,_,_,_],[_,_,_],hc=>simp[Do]at hc
 | [_,_,_,_],_::_::_::_::_::_,hc=>simp[Do]at hc
 | [],_::_,hc=>simp[Do]at hc
 | _::_,[],hc=>simp[Do]at hc
 | [_],_::_::_,hc=>simp[Do]at hc
 | [_,_],[_],hc=>simp[Do]at hc
 | [_,_],_::_::_::_,hc=>simp[Do]at hc
 | [_,_,_],[_],hc=>simp[Do]at hc
 | [_,_,_],[_,_],hc=>simp[Do]at hc
 | [_,_,_],_::_::_::_::_,hc=>simp[Do]at hc
theorem q1M {f:FuncId} {ic:IC} {n:Nat} {rvs:List RV} (hc:Bc P f ic N n rvs=true) (vs:Array Value):(callFunc f vs).run P w=.ok (.enter f vs) w:=by
 unfold Bc at hc
 split at hc
 ·rename_i fn hf
  simp only[xqc,Bool.not_eq_true']at hc
  obtain⟨⟨⟨⟨⟨⟨h1,h2⟩,h3⟩,h4⟩,h5⟩,h6⟩,h7⟩:=hc
  cases hb:fn.body with
  | none=>rw[hb]at h1;cases h1
  | some c =>
   have h2':¬ fn.name = "runtime.NumGoroutine" := by simpa using h2
   simp[callFunc,hf,h2',hb]
 ·cases hc
theorem Ut.start {ts:List T} {vs:List Value} (hg:Gl Γ w X) (hx:∀ b,X b->b<w.heap.size) (hts:Fp w X ts vs) (hn:vs.length<=N) :
  Ut Γ w w.heap.size (fun _=>none) X N ⟨params 0 ts,[]⟩ { tmps:=vs.toArray++Array.replicate (N-vs.toArray.size) undef,defers:=[] } w:=by
 refine⟨X,fun _=>none,⟨?_,fun id r h=>by simp[A0]at h,fun _ _ _ _ _ _ _ h=>(by cases h),fun _ _ _ _ h=>(by cases h),fun _ _ _=>rfl,fun _ _ h=>(by cases h),hx,rfl,rfl,rfl,xzo _,fun _ _ _=>rfl⟩,hg,fun _ h=>h,fun _ h=>.inl h,?_,rfl⟩
 ·intro t a ht
  obtain⟨_,u,hu,rfl⟩:=qAZ ht
  obtain⟨x,h1,h2⟩:=hts.get hu
  simp only[Nat.sub_zero]at h1
  have hlt:t<vs.length:=(xqi.1 h1).1
  have:(vs.toArray++Array.replicate (N-vs.toArray.size) undef).getD t undef=x:=by
   rw[Array.getD_eq_getD_getElem?,Array.getElem?_append_left (by simpa using hlt)]
   simp[h1]
  rw[this];exact .t _ _ h2
 ·simp;omega
theorem qBv {f:FuncId} {ic:IC} {n:Nat} {rvs:List RV} {args:List T} {res:T} (hc:Bc P f ic N n rvs=true) (hn:args.length=n) (h:awp P Γ ic (qKt rvs res) ⟨params 0 args,[]⟩):B9 P Γ f args res:=by
 intro w X vs hg hx hts
 refine .inl ⟨q1M hc _,?_⟩
 unfold Bc at hc
 split at hc
 case h_2=>cases hc
 rename_i fn hf
 simp only[xqc,Bool.not_eq_true',xqu,xz0]at hc
 obtain⟨⟨⟨⟨⟨⟨h1,h2⟩,h3⟩,h4⟩,h5⟩,h6⟩,h7⟩:=hc
 cases hb:fn.body with
 | none=>rw[hb]at h1;cases h1
 | some c =>
  rw[hb]at h1
  subst h3
  refine calls_of_wp hf hb ?_
  have hI:=Ut.start (N:=fn.ntmps) hg hx hts (by rw[<- hts.1,hn];exact h5)
  refine wp_mono (Dw h4 h7 h1 hI h) ?_
  rintro e a w' ⟨x,s,rfl,⟨X',μ,hsim,hg',h0,hbd,hsz,hds⟩,hq⟩
  have fin:∀ c,q0g s rvs=some (c,res)->c->a.defers=[]/\∃ v,(results fn a.tmps).run P w'=.ok v w'/\∃ u,Ending.returned v=.returned u/\RowKit.Below w.heap.size w w'/\TR w' (fun b=>X b\/(w.heap.size<=b/\b<w'.heap.size)) res u:=by
   intro c hr hcc
   obtain⟨v,h8,h9⟩:=qAa hsim h6 hr hcc
   refine⟨hds,v,h8,v,rfl,⟨hsim.os,hsim.tape,hsim.output,hsim.size,fun k hk=>hsim.fr k hk (fun id n h=>by cases h)⟩,h9.mono (fun _ _=>rfl) fun b hb=>?_⟩
   rcases hb with hb|⟨id,n,hi,hm⟩
   ·rcases hbd b hb with h|h|⟨_,_,h⟩
    ·exact .inl h
    ·exact .inr ⟨h,hsim.xlt b hb⟩
    ·cases h
   ·obtain⟨_,h10,h11⟩:=hsim.loc id b n hi hm
    refine .inr ⟨?_,h10⟩
    rcases Nat.lt_or_ge b w.heap.size with h|h
    ·obtain⟨_,_,h⟩:=h11 h;cases h
    ·exact h
  cases x with
  | normal=>obtain⟨c,hr,hcc⟩:=hq;exact fin c hr hcc
  | ret=>obtain⟨c,hr,hcc⟩:=hq;exact fin c hr hcc
  | exit i=>exact hq.elim
def F8:AV->Prop
 | .t x=>Ar x=true
 | .ag cs=>∀ c∈cs,match c with
  | .t x=>Ar x=true
  | .fn _ cs=>cs=[]
  | _=>True
 | .fn _ cs=>cs=[]
 | .tu cs=>∀ c∈cs,match c with
  | .t x=>Ar x=true
  | .fn _ cs=>cs=[]
  | _=>True
 | _=>True
def S9:Aw->Prop
 | .sl _ _ es=>∀ e∈es,∀ t∈e,Ar t=true
 | .bx cs=>∀ c∈cs,F8 c
 | .rs _ _ es=>∀ e∈es,∀ a∈e,F8 a
 | .mr es=>∀ e∈es,F8 e.2
 | .mp es=>∀ e∈es,Ar e.2=true
 | .it _ _=>True
def G3 {α:Type} (p:α->Prop):List (Nat×α)->Prop
 | []=>True
 | x::l=>p x.2/\G3 p l
theorem q3T {α:Type} {p:α->Prop}:∀ {l:List (Nat×α)} {t:Nat} {a:α},G3 p l->A0 l t=some a->p a
 | [],_,_,_,h=>by simp[A0]at h
 | (k,v)::l,t,a,h,hl=>by
  simp only[A0]at hl
  split at hl
  ·simp only[xqa]at hl;subst hl;exact h.1
  ·exact q3T h.2 hl
def Dp (s:St):Prop:=G3 F8 s.env/\G3 S9 s.hp
theorem q46 {sh:Nat->Option Sh} {a:AV} {x:Value} {Y:Nat->Prop} (h:AR w X μ sh a x) (hf:F8 a):AR w Y μ sh a x:=by
 have key:∀ {c:AV} {y:Value},AR w X μ sh c y->Cf c=true->(match c with | .t x=>Ar x=true | .fn _ cs=>cs=[] | _=>True)->AR w Y μ sh c y:=by
  intro c y h hna hf
  cases h with
  | t y v hy=>exact .t _ _ (q6v hy hf)
  | fn f cs xs hlen hrel=>simp only at hf;subst hf;exact .fn f [] xs hlen (fun k a x h=>by simp at h)
  | ag=>simp[Cf]at hna
  | tu=>simp[Cf]at hna
  | lsnil i s n hs hm oa cap hq=>exact .lsnil i s n hs hm oa cap hq
  | ls i off len s n g m c cap hs hm hle hlc hcm hfit hfull hq ad had=>exact .ls i off len s n g m c cap hs hm hle hlc hcm hfit hfull hq ad had
  | lpsl i j k s n g m hs hm=>exact .lpsl i j k s n g m hs hm
  | lpbx i k g m hs hm=>exact .lpbx i k g m hs hm
  | lm i g m hs hm=>exact .lm i g m hs hm
  | lb i g m hs hm hle=>exact .lb i g m hs hm hle
  | li i g m hs hm=>exact .li i g m hs hm
  | dead v h=>exact .dead _ h
  | un=>exact .un
 by_cases hg:Cf a=true
 ·refine key h hg ?_
  cases a<;>first|exact hf|exact True.intro|simp[Cf]at hg
 ·cases a with
  | ag cs =>
   obtain⟨xs,rfl,h1,hr⟩:=h.ag_inv
   exact AR.mk_ag h1 ⟨hr.1,fun k c y hc hy=>key (hr.2 k c y hc hy) (q2G (Re h1 hc)) (hf c (xqp hc))⟩
  | tu cs =>
   obtain⟨xs,rfl,h1,hr⟩:=h.tu_inv
   exact AR.mk_tu h1 ⟨hr.1,fun k c y hc hy=>key (hr.2 k c y hc hy) (h1 k c hc) (hf c (xqp hc))⟩
  | _=>exact absurd rfl hg
theorem Sim.flat (h:Sim w0 B κ X μ st tm w) (hf:Dp st):Sim w0 B κ (fun _=>False) μ st tm w:=by
 refine⟨fun t a ht=>q46 (h.env t a ht) (q3T hf.1 ht),?_,h.inj,fun id g n hi hm=>⟨fun h=>h,(h.loc id g n hi hm).2⟩,h.kap,h.kbig,fun _ h=>h.elim,h.os,h.tape,h.output,h.size,h.fr⟩
 intro id r hr
 have hfr:=q3T hf.2 hr
 have:=h.reg id r hr
 cases r with
 | sl ty s es =>
  refine⟨this.1,this.2.imp (fun h=>h) fun⟨g,arr,hm,hg,hle,hr⟩=>⟨g,arr,hm,hg,hle,fun i k e t x h1 h2 h3=>q6v (hr i k e t x h1 h2 h3) (hfr e (xqp h1) t (xqp h2))⟩⟩
 | it s pos=>exact this
 | mr es =>
  obtain⟨g,n,clock,ms,hm,hg,hbo,hle,hr⟩:=this
  exact⟨g,n,clock,ms,hm,hg,hbo,hle,fun i e m h1 h2=>⟨(hr i e m h1 h2).1,q46 (hr i e m h1 h2).2 (hfr e (xqp h1))⟩⟩
 | mp es =>
  obtain⟨g,n,clock,ms,hm,hg,hle,hr⟩:=this
  exact⟨g,n,clock,ms,hm,hg,hle,fun i e m h1 h2=>⟨(hr i e m h1 h2).1,q6v (hr i e m h1 h2).2 (hfr e (xqp h1))⟩⟩
 | rs ty s es =>
  exact⟨this.1,this.2.imp (fun h=>h) fun⟨g,arr,hm,hg,hle,hr⟩=>⟨g,arr,hm,hg,hle,fun i k e a x h1 h2 h3=>q46 (hr i k e a x h1 h2 h3) (hfr e (xqp h1) a (xqp h2))⟩⟩
 | bx cs =>
  obtain⟨h1,g,arr,ty,hm,hg,hle,hr⟩:=this
  exact⟨h1,g,arr,ty,hm,hg,hle,fun k a x ha hx=>q46 (hr k a x ha hx) (hfr a (xqp ha))⟩
def qHk (rvs:List RV) (res:T):AX->St->Prop
 | .exit _,_=>False
 | _,s=>∃ c,q0g s rvs=some (c,res)/\c/\Dp s
theorem qAb {f:FuncId} {ic:IC} {n:Nat} {rvs:List RV} {args:List T} {res:T} (hc:Bc P f ic N n rvs=true) (hn:args.length=n) (h:awp P Γ ic (qHk rvs res) ⟨params 0 args,[]⟩):A7 P Γ f args res:=by
 intro w X vs hg hx hts
 refine .inl ⟨q1M hc _,?_⟩
 unfold Bc at hc
 split at hc
 case h_2=>cases hc
 rename_i fn hf
 simp only[xqc,Bool.not_eq_true',xqu,xz0]at hc
 obtain⟨⟨⟨⟨⟨⟨h1,h2⟩,h3⟩,h4⟩,h5⟩,h6⟩,h7⟩:=hc
 cases hb:fn.body with
 | none=>rw[hb]at h1;cases h1
 | some c =>
  rw[hb]at h1
  subst h3
  refine calls_of_wp hf hb ?_
  have hI:=Ut.start (N:=fn.ntmps) hg hx hts (by rw[<- hts.1,hn];exact h5)
  refine wp_mono (Dw h4 h7 h1 hI h) ?_
  rintro e a w' ⟨x,s,rfl,⟨X',μ,hsim,hg',h0,hbd,hsz,hds⟩,hq⟩
  have fin:∀ c,q0g s rvs=some (c,res)->c->Dp s->a.defers=[]/\∃ v,(results fn a.tmps).run P w'=.ok v w'/\∃ u,Ending.returned v=.returned u/\RowKit.Below w.heap.size w w'/\TR w' (fun b=>w.heap.size<=b/\b<w'.heap.size) res u:=by
   intro c hr hcc hfl
   obtain⟨v,h8,h9⟩:=qAa (hsim.flat hfl) h6 hr hcc
   refine⟨hds,v,h8,v,rfl,⟨hsim.os,hsim.tape,hsim.output,hsim.size,fun k hk=>hsim.fr k hk (fun id n h=>by cases h)⟩,h9.mono (fun _ _=>rfl) fun b hb=>?_⟩
   rcases hb with hb|⟨id,n,hi,hm⟩
   ·exact hb.elim
   ·obtain⟨_,h10,h11⟩:=hsim.loc id b n hi hm
    refine⟨?_,h10⟩
    rcases Nat.lt_or_ge b w.heap.size with h|h
    ·obtain⟨_,_,h⟩:=h11 h;cases h
    ·exact h
  cases x with
  | normal=>obtain⟨c,hr,hcc,hfl⟩:=hq;exact fin c hr hcc hfl
  | ret=>obtain⟨c,hr,hcc,hfl⟩:=hq;exact fin c hr hcc hfl
  | exit i=>exact hq.elim
def q6A:Nat->List AV->List (Nat×AV)
 | _,[]=>[]
 | k,a::as=>(k,a)::q6A (k+1) as
theorem q8q {ts:List AV}:∀ {k i:Nat} {a:AV},A0 (q6A k ts) i=some a->k<=i/\ts[i-k]? = some a:=by
 induction ts with
 | nil=>intro k i a h;simp[q6A,A0]at h
 | cons t ts ih =>
  intro k i a h
  simp only[q6A,A0]at h
  split at h
  ·rename_i e;subst e;simp only[xqa]at h;subst h;exact⟨xzo _,by simp⟩
  ·obtain⟨h1,h2⟩:=ih h
   refine⟨by omega,?_⟩
   have:i-k=i-(k+1)+1:=by omega
   rw[this];simpa using h2
def toN (a:AV):AV:=match toT a with
 | some x=>.t x
 | none=>a
theorem q78 {Y:Nat->Prop} {μ:D7} {sh:Nat->Option Sh} {w:World} {p:AV} {v:Value} (hp:AR w Y μ sh p v):AR w Y μ sh (toN p) v:=by
 unfold toN
 split
 ·rename_i x hx;exact .t _ _ (q3J hp hx)
 ·exact hp
def qGx (p q:AV):Option AV:=match toT p,toT q with
 | some x,some y=>some (.t (.tup [x,y]))
 | _,_=>if Cf (toN p)&&Cf (toN q)then some (.tu [toN p,toN q])else none
theorem qGy {Y:Nat->Prop} {μ:D7} {sh:Nat->Option Sh} {w:World} {p q r:AV} {v u:Value} (hp:AR w Y μ sh p v) (hq:AR w Y μ sh q u) (hr:qGx p q=some r):AR w Y μ sh r (.tuple #[v,u]):=by
 unfold qGx at hr
 split at hr
 ·rename_i x y hx hy
  simp only[xqa]at hr;subst hr
  exact .t _ _ (TR.mk_tup (Fp.cons (q3J hp hx) (Fp.cons (q3J hq hy) (Fp.nil _ _))))
 ·split at hr
  ·rename_i h
   simp only[xqc]at h
   simp only[xqa]at hr;subst hr
   refine AR.mk_tu (cs:=[toN p,toN q]) (xs:=[v,u]) (fun k a ha=>?_) ⟨rfl,fun k a x ha hx=>?_⟩
   ·rcases k with _|_|k
    ·simp at ha;subst ha;exact h.1
    ·simp at ha;subst ha;exact h.2
    ·simp at ha
   ·rcases k with _|_|k
    ·simp at ha hx;subst ha;subst hx;exact q78 hp
    ·simp at ha hx;subst ha;subst hx;exact q78 hq
    ·simp at ha
  ·cases hr
def tri (p q u:AV):Option AV:=if Cf (toN p)&&Cf (toN q)&&Cf (toN u)then some (.tu [toN p,toN q,toN u])else none
theorem qIg {Y:Nat->Prop} {μ:D7} {sh:Nat->Option Sh} {w:World} {p q u r:AV} {v x y:Value} (hp:AR w Y μ sh p v) (hq:AR w Y μ sh q x) (hu:AR w Y μ sh u y) (hr:tri p q u=some r):AR w Y μ sh r (.tuple #[v,x,y]):=by
 unfold tri at hr
 split at hr
 ·rename_i h
  simp only[xqc]at h
  simp only[xqa]at hr;subst hr
  refine AR.mk_tu (cs:=[toN p,toN q,toN u]) (xs:=[v,x,y]) (fun k a ha=>?_) ⟨rfl,fun k a x ha hx=>?_⟩
  ·rcases k with _|_|_|k
   ·simp at ha;subst ha;exact h.1.1
   ·simp at ha;subst ha;exact h.1.2
   ·simp at ha;subst ha;exact h.2
   ·simp at ha
  ·rcases k with _|_|_|k
   ·simp at ha hx;subst ha;subst hx;exact q78 hp
   ·simp at ha hx;subst ha;subst hx;exact q78 hq
   ·simp at ha hx;subst ha;subst hx;exact q78 hu
   ·simp at ha
 ·cases hr
def q5A (s:St):List RV->Option (Prop×AV)
 | []=>some (True,.t (.tup []))
 | [a]=>q69 s a
 | [a,b]=>(q69 s a).bind fun p=>(q69 s b).bind fun q=>(qGx p.2 q.2).map fun r=>(p.1/\q.1,r)
 | [a,b,c]=>(q69 s a).bind fun p=>(q69 s b).bind fun q=>(q69 s c).bind fun u=>(tri p.2 q.2 u.2).map fun r=>(p.1/\q.1/\u.1,r)
 | _=>none
def qCt (rvs:List RV) (res:AV) (hp':List (Nat×Aw)):AX->St->Prop
 | .exit _,_=>False
 | _,s=>∃ c,q5A s rvs=some (c,res)/\c/\s.hp=hp'
theorem qCu (h:Sim w0 B κ X μ st tm w) {fn:Func} {rvs:List RV} (hc:Do P rvs fn.results.toList=true) {c:Prop} {res:AV} (hr:q5A st rvs=some (c,res)) (hcc:c) :
  ∃ v,(results fn tm).run P w=.ok v w/\AR w X μ st.sh res v:=by
 have hres:results fn tm=(do let vs <- fn.results.mapM (q8p tm);pure (if h:vs.size=1 then vs[0]else .tuple vs)):=rfl
 have hfr:fn.results=fn.results.toList.toArray:=by simp
 generalize hl:fn.results.toList=l at hc hfr
 match rvs,l,hc with
 | [],[],_ =>
  simp only[q5A,xqa,xqd]at hr
  obtain⟨rfl,rfl⟩:=hr
  exact⟨.tuple #[],by rw[hres,hfr];simp,.t _ _ (TR.mk_tup (Fp.nil _ _))⟩
 | [a],[x],hc =>
  simp only[Do,xqc]at hc
  obtain⟨v,h1,h2⟩:=q0H h hc.1 hr hcc
  exact⟨v,by rw[hres,hfr];simp[h1],h2⟩
 | [a,b],[x,y],hc =>
  simp only[Do,xqc]at hc
  simp only[q5A,xqk,xqb,xqd]at hr
  obtain⟨p,hp,q,hq,r',hr',rfl,rfl⟩:=hr
  obtain⟨v,h1,h2⟩:=q0H h hc.1 hp hcc.1
  obtain⟨u,h3,h4⟩:=q0H h hc.2.1 hq hcc.2
  exact⟨.tuple #[v,u],by rw[hres,hfr];simp[h1,h3],qGy h2 h4 hr'⟩
 | [a,b,d],[x,y,z],hc =>
  simp only[Do,xqc]at hc
  simp only[q5A,xqk,xqb,xqd]at hr
  obtain⟨p,hp,q,hq,u,hu,r',hr',rfl,rfl⟩:=hr
  obtain⟨v1,h1,h2⟩:=q0H h hc.1 hp hcc.1
  obtain⟨v2,h3,h4⟩:=q0H h hc.2.1 hq hcc.2.1
  obtain⟨v3,h5,h6⟩:=q0H h hc.2.2.1 hu hcc.2.2
  exact⟨.tuple #[v1,v2,v3],by rw[hres,hfr];simp[h1,h3,h5],qIg h2 h4 h6 hr'⟩
 | _::_::_::_::_,_,_=>simp[q5A]at hr
 | [_,_,_],[],hc=>simp[Do]at hc
 | [_,_,_],[_],hc=>simp[Do]at hc
 | [_,_,_],[_,_],hc=>simp[Do]at hc
 | [_,_,_],_::_::_::_::_,hc=>simp[Do]at hc
 | [],_::_,hc=>simp[Do]at hc
 | _::_,[],hc=>simp[Do]at hc
 | [_],_::_::_,hc=>simp[Do]at hc
 | [_,_],[_],hc=>simp[Do]at hc
 | [_,_],_::_::_::_,hc=>simp[Do]at hc
theorem qGz {f:FuncId} {ic:IC} {n:Nat} {rvs:List RV} {args:List AV} {hp hp':List (Nat×Aw)} {res:AV} (hc:Bc P f ic N n rvs=true) (hn:args.length=n) (h:awp P Γ ic (qCt rvs res hp') ⟨q6A 0 args,hp⟩):Bf P Γ f hp args res hp':=by
 intro w X κ vs hg hk hs hts
 refine .inl ⟨q1M hc _,?_⟩
 unfold Bc at hc
 split at hc
 case h_2=>cases hc
 rename_i fn hf
 simp only[xqc,Bool.not_eq_true',xqu,xz0]at hc
 obtain⟨⟨⟨⟨⟨⟨h1,h2⟩,h3⟩,h4⟩,h5⟩,h6⟩,h7⟩:=hc
 cases hb:fn.body with
 | none=>rw[hb]at h1;cases h1
 | some c =>
  rw[hb]at h1
  subst h3
  refine calls_of_wp hf hb ?_
  have hlen:vs.length<=fn.ntmps:=by rw[<- hts.1,hn];exact h5
  have hI:Ut Γ w w.heap.size κ X fn.ntmps ⟨q6A 0 args,hp⟩ { tmps:=vs.toArray++Array.replicate (fn.ntmps-vs.toArray.size) undef,defers:=[] } w:=by
   refine⟨X,κ,⟨?_,hs.reg,hs.inj,hs.loc,hs.kap,hs.kbig,hs.xlt,rfl,rfl,rfl,xzo _,fun _ _ _=>rfl⟩,hg,fun _ h=>h,fun _ h=>.inl h,?_,rfl⟩
   ·intro t a ht
    obtain⟨_,hu⟩:=q8q ht
    obtain⟨x,h1,h2⟩:=hts.get hu
    simp only[Nat.sub_zero]at h1
    have hlt:t<vs.length:=(xqi.1 h1).1
    have:(vs.toArray++Array.replicate (fn.ntmps-vs.toArray.size) undef).getD t undef=x:=by
     rw[Array.getD_eq_getD_getElem?,Array.getElem?_append_left (by simpa using hlt)]
     simp[h1]
    rw[this];exact h2
   ·simp;omega
  refine wp_mono (Dw h4 h7 h1 hI h) ?_
  rintro e a w' ⟨x,s,rfl,⟨X',μ',hsim,hg',h0,hbd,hsz,hds⟩,hq⟩
  have fin:∀ c,q5A s rvs=some (c,res)->c->s.hp=hp'->a.defers=[]/\∃ v,(results fn a.tmps).run P w'=.ok v w'/\∃ u,Ending.returned v=.returned u /\
    ∃ X' μ',Sim w w.heap.size κ X' μ' ⟨[],hp'⟩ #[] w'/\AR w' X' μ' (St.sh ⟨[],hp'⟩) res u/\(∀ b,X b->X' b)/\(∀ b,X' b->X b\/w.heap.size<=b\/∃ id n,κ id=some (b,n)):=by
   intro c hr hcc hh
   obtain⟨v,h8,h9⟩:=qCu hsim h6 hr hcc
   subst hh
   exact⟨hds,v,h8,v,rfl,X',μ',⟨fun t a ht=>by simp[A0]at ht,hsim.reg,hsim.inj,hsim.loc,hsim.kap,hsim.kbig,hsim.xlt,hsim.os,hsim.tape,hsim.output,hsim.size,hsim.fr⟩,h9,h0,hbd⟩
  cases x with
  | normal=>obtain⟨c,hr,hcc,hh⟩:=hq;exact fin c hr hcc hh
  | ret=>obtain⟨c,hr,hcc,hh⟩:=hq;exact fin c hr hcc hh
  | exit i=>exact hq.elim
end
end Go.Lg
namespace Go.Lg
open Go
def sV (l:List UInt8):Value:=.string ⟨l.toArray⟩
structure Tag {α:Sort _} (a:α):Type where
def Bm (A:Prop) (_:Tag A):Prop:=A
def Dx (x:Option (Prop×AV×St)) (K:AV->St->Prop) (_:Tag K):Prop:=match x with
 | some (c,r,st1)=>c/\K r st1
 | none=>False
def asK (x:Option (List AV)) (K:List AV->Prop) (_:Tag K):Prop:=match x with
 | some as=>K as
 | none=>False
def fnK (x:Option (FuncId×List AV)) (K:FuncId->List AV->Prop) (_:Tag K):Prop:=match x with
 | some p=>K p.1 p.2
 | none=>False
def q5l (x:Option AV) (A B:Prop) (_:Tag A) (_:Tag B):Prop:=match x with
 | some (.t (.v (.bool t)))=>(t=true->A)/\(t=false->B)
 | _=>False
def q5m (P:Program) (Γ:Tables) (hp:List (Nat×Aw)) (f:FuncId) (as:List AV) (K:T->Prop) (_:Tag K):Prop:=∃ res,q3N P Γ hp f as res/\K res
def Wg (P:Program) (Γ:Tables) (st:St) (f:FuncId) (rs:List Nat) (base:Nat) (hp:List (Nat×Aw)) (as:List AV) (K:AV->St->Prop) (_:Tag K):Prop :=
 ∃ res hp',Bf P Γ f hp as res hp'/\Uk rs base st.hp hp'/\K (A8 (fun i=>some (Us rs base i)) res) (Ea rs base hp' st)
def qF8 (P:Program) (Γ:Tables) (st:St) (f:FuncId) (base:Nat) (as:List AV) (K:AV->St->Prop) (_:Tag K):Prop :=
 ∃ res hp',Bf P Γ f [] as res hp'/\Uk [] base st.hp hp'/\K (A8 (fun i=>some (Us [] base i)) res) ⟨st.env,Jp [] base hp'++st.hp⟩
def q9g (P:Program) (Γ:Tables) (f:FuncId) (as:List AV) (K:T->Prop) (_:Tag K):Prop:=∃ ts res,Ag (as.map toT)=some ts/\(B9 P Γ f ts res\/A7 P Γ f ts res)/\K res
def qF9 (P:Program) (Γ:Tables) (st:St) (f:FuncId) (rs:List Nat) (hp:List (Nat×Aw)) (as:List AV) (K:AV->St->Prop) (_:Tag K):Prop :=
 ∃ res,Bf P Γ f hp as res hp/\K (A8 (fun i=>some (Us rs 0 i)) res) st
def B1 (P:Program) (Γ:Tables) (d:Nat) (io:Bt) (st:St) (K:AV->St->Prop):Prop:=match io with
 | .call f args=>asK (Qi Γ st.env args) (fun as=>q5m P Γ st.hp f as (fun res=>K (.t res) st) ⟨⟩) ⟨⟩
 | .callv x args=>fnK ((ev Γ st.env x).bind q68) (fun f cs=>asK (Qi Γ st.env args) (fun as=>q5m P Γ st.hp f (as++cs) (fun res=>K (.t res) st) ⟨⟩) ⟨⟩) ⟨⟩
 | .hcall f args rs base=>asK (Qi Γ st.env args) (fun as=>rs.Nodup/\Wg P Γ st f rs base (Bv rs st.hp) (as.map (A8 (Qh rs))) K ⟨⟩) ⟨⟩
 | .hcallv x args rs base=>fnK ((ev Γ st.env x).bind q68) (fun f cs=>asK (Qi Γ st.env args) (fun as=>rs.Nodup/\Wg P Γ st f rs base (Bv rs st.hp) ((as++cs).map (A8 (Qh rs))) K ⟨⟩) ⟨⟩) ⟨⟩
 | .hcallW f args base=>asK (Qi Γ st.env args) (fun as=>∃ rs,rs.Nodup/\Wg P Γ st f rs base (Bv rs st.hp) (as.map (A8 (Qh rs))) K ⟨⟩) ⟨⟩
 | .hcallvW x args base=>fnK ((ev Γ st.env x).bind q68) (fun f cs=>asK (Qi Γ st.env args) (fun as=>∃ rs,rs.Nodup/\Wg P Γ st f rs base (Bv rs st.hp) ((as++cs).map (A8 (Qh rs))) K ⟨⟩) ⟨⟩) ⟨⟩
 | .hcallB x args base=>fnK ((ev Γ st.env x).bind q8j) (fun f cs=>asK (Qi Γ st.env args) (fun as=>∃ rs,rs.Nodup/\Wg P Γ st f rs base (Bv rs st.hp) ((cs++as).map (A8 (Qh rs))) K ⟨⟩) ⟨⟩) ⟨⟩
 | .ncall f args base=>asK (Qi Γ st.env args) (fun as=>qF8 P Γ st f base (as.map (A8 (Qh []))) K ⟨⟩) ⟨⟩
 | .callT f args=>asK (Qi Γ st.env args) (fun as=>q9g P Γ f as (fun res=>K (.t res) st) ⟨⟩) ⟨⟩
 | .rcall f args rs=>asK (Qi Γ st.env args) (fun as=>rs.Nodup/\(∀ i∈rs,∃ ty s es,A0 st.hp i=some (.sl ty s es))/\qF9 P Γ st f rs (Bv rs st.hp) (as.map (A8 (Qh rs))) K ⟨⟩) ⟨⟩
 | io=>Dx (Ak Γ d io st) K ⟨⟩
def q79 (x:Option Bool) (A B:Prop) (_:Tag A) (_:Tag B):Prop:=match x with
 | some true=>A
 | some false=>B
 | none=>False
def qHl (P:Program) (Γ:Tables) (ro:RO) (st:St) (K:St->Prop):Prop:=q79 (G7 st.env ro.guard) (B1 P Γ ro.d ro.op st fun r st1=>K (st1.put ro.dst r)) (K (st.put ro.dst .un)) ⟨⟩ ⟨⟩
def Gt (P:Program) (Γ:Tables):(ros:List RO)->(st:St)->(K:St->Prop)->Tag K->Prop
 | [],st,K,_=>K st
 | ro::ros,st,K,t=>qHl P Γ ro st fun st1=>Gt P Γ ros st1 K t
theorem qFA {P:Program} {Γ:Tables} {d:Nat} {io:Bt} {st:St} {K:AV->St->Prop} (h:B1 P Γ d io st K):∃ r st1,Fg P Γ d io st r st1/\K r st1:=by
 have gen:Dx (Ak Γ d io st) K ⟨⟩->∃ r st1,(∃ c,Ak Γ d io st=some (c,r,st1)/\c)/\K r st1:=by
  intro h
  unfold Dx at h
  split at h
  ·rename_i c r st1 hs;exact⟨r,st1,⟨c,hs,h.1⟩,h.2⟩
  ·exact h.elim
 cases io with
 | call f args =>
  simp only[B1,asK]at h
  split at h
  ·rename_i as has;obtain⟨res,h1,h2⟩:=h;exact⟨_,_,⟨as,res,has,h1,rfl,rfl⟩,h2⟩
  ·exact h.elim
 | callv x args =>
  simp only[B1,fnK]at h
  split at h
  ·rename_i p hp
   obtain⟨a,ha,hf⟩:=xqk.1 hp
   simp only[asK]at h
   split at h
   ·rename_i as has;obtain⟨res,h1,h2⟩:=h;exact⟨_,_,⟨a,p.1,p.2,as,res,ha,hf,has,h1,rfl,rfl⟩,h2⟩
   ·exact h.elim
  ·exact h.elim
 | hcall f args rs base =>
  simp only[B1,asK]at h
  split at h
  ·rename_i as has;obtain⟨hnd,res,hp',h1,h2,h3⟩:=h;exact⟨_,_,⟨as,res,hp',has,hnd,h1,h2,rfl,rfl⟩,h3⟩
  ·exact h.elim
 | hcallv x args rs base =>
  simp only[B1,fnK]at h
  split at h
  ·rename_i p hp
   obtain⟨a,ha,hf⟩:=xqk.1 hp
   simp only[asK]at h
   split at h
   ·rename_i as has;obtain⟨hnd,res,hp',h1,h2,h3⟩:=h;exact⟨_,_,⟨a,p.1,p.2,as,res,hp',ha,hf,has,hnd,h1,h2,rfl,rfl⟩,h3⟩
   ·exact h.elim
  ·exact h.elim
 | hcallW f args base =>
  simp only[B1,asK]at h
  split at h
  ·rename_i as has;obtain⟨rs,hnd,res,hp',h1,h2,h3⟩:=h;exact⟨_,_,⟨rs,as,res,hp',has,hnd,h1,h2,rfl,rfl⟩,h3⟩
  ·exact h.elim
 | hcallvW x args base =>
  simp only[B1,fnK]at h
  split at h
  ·rename_i p hp
   obtain⟨a,ha,hf⟩:=xqk.1 hp
   simp only[asK]at h
   split at h
   ·rename_i as has;obtain⟨rs,hnd,res,hp',h1,h2,h3⟩:=h;exact⟨_,_,⟨rs,a,p.1,p.2,as,res,hp',ha,hf,has,hnd,h1,h2,rfl,rfl⟩,h3⟩
   ·exact h.elim
  ·exact h.elim
 | hcallB x args base =>
  simp only[B1,fnK]at h
  split at h
  ·rename_i p hp
   obtain⟨a,ha,hf⟩:=xqk.1 hp
   simp only[asK]at h
   split at h
   ·rename_i as has;obtain⟨rs,hnd,res,hp',h1,h2,h3⟩:=h;exact⟨_,_,⟨rs,a,p.1,p.2,as,res,hp',ha,hf,has,hnd,h1,h2,rfl,rfl⟩,h3⟩
   ·exact h.elim
  ·exact h.elim
 | ncall f args base =>
  simp only[B1,asK]at h
  split at h
  ·rename_i as has;obtain⟨res,hp',h1,h2,h3⟩:=h;exact⟨_,_,⟨as,res,hp',has,h1,h2,rfl,rfl⟩,h3⟩
  ·exact h.elim
 | callT f args =>
  simp only[B1,asK]at h
  split at h
  ·rename_i as has;obtain⟨ts,res,h1,h2,h3⟩:=h;exact⟨_,_,⟨as,ts,res,has,h1,h2,rfl,rfl⟩,h3⟩
  ·exact h.elim
 | rcall f args rs =>
  simp only[B1,asK]at h
  split at h
  ·rename_i as has;obtain⟨hnd,hsl,res,h1,h2⟩:=h;exact⟨_,_,⟨as,res,has,hnd,hsl,h1,rfl,rfl⟩,h2⟩
  ·exact h.elim
 | _=>exact gen h
theorem q5B {P:Program} {Γ:Tables}:∀ {ros:List RO} {st:St} {K:St->Prop},Gt P Γ ros st K ⟨⟩->∃ s1,Kw P Γ ros st s1/\K s1
 | [],st,K,h=>⟨st,rfl,h⟩
 | ro::ros,st,K,h=>by
  simp only[Gt,qHl,q79]at h
  split at h
  ·rename_i hw
   obtain⟨r,st1,h1,h2⟩:=qFA h
   obtain⟨s1,h3,h4⟩:=q5B (ros:=ros) h2
   exact⟨s1,⟨_,.inl ⟨hw,r,st1,h1,rfl⟩,h3⟩,h4⟩
  ·rename_i hw
   obtain⟨s1,h3,h4⟩:=q5B (ros:=ros) h
   exact⟨s1,⟨_,.inr ⟨hw,rfl⟩,h3⟩,h4⟩
  ·exact h.elim
def ghs (gs:List Gh) (s:St):St:=gs.foldl (fun s g=>g.run s) s
def run (P:Program) (Γ:Tables):IC->(AX->St->Prop)->St->Prop
 | .skip,Q,s=>Q .normal s
 | .reg ros gs,Q,s=>Gt P Γ ros s (fun s1=>Q .normal (ghs gs s1)) ⟨⟩
 | .seq a b,Q,s=>run P Γ a (B0 (run P Γ b Q) Q) s
 | .cond c a b,Q,s=>q5l (ev Γ s.env c) (run P Γ a Q s) (run P Γ b Q s) ⟨⟩ ⟨⟩
 | .block id a,Q,s=>run P Γ a (N5 id Q) s
 | .loop a,Q,s=>awp P Γ (.loop a) Q s
 | .exit i,Q,s=>Q (.exit i) s
 | .ret,Q,s=>Q .ret s
 | .scope a,Q,s=>run P Γ a Q s
 | .gh a gs,Q,s=>run P Γ a (B0 (fun s=>Q .normal (ghs gs s)) Q) s
 | .ghW a,Q,s=>run P Γ a (B0 (fun s=>∃ s',Imp Γ s s'/\Q .normal s') Q) s
 | .dead,_,_=>False
theorem Hq {P:Program} {Γ:Tables}:∀ {c:IC} {Q:AX->St->Prop} {s:St},run P Γ c Q s->awp P Γ c Q s
 | .skip,_,_,h=>h
 | .reg ros gs,_,_,h=>q5B h
 | .seq a b,Q,s,h=>Bl (c:=a) (Hq (c:=a) h) fun e s h=>by
  cases e with
  | normal=>exact Hq (c:=b) h
  | exit i=>exact h
  | ret=>exact h
 | .cond c a b,Q,s,h=>by
  simp only[run,q5l]at h
  split at h
  ·rename_i t ht;exact⟨t,ht,fun e=>Hq (c:=a) (h.1 e),fun e=>Hq (c:=b) (h.2 e)⟩
  ·exact h.elim
 | .block id a,Q,s,h=>Hq (c:=a) h
 | .loop a,Q,s,h=>h
 | .exit _,_,_,h=>h
 | .ret,_,_,h=>h
 | .scope a,Q,s,h=>Hq (c:=a) h
 | .gh a gs,Q,s,h=>Bl (c:=a) (Hq (c:=a) h) fun e s h=>by
  cases e with
  | normal=>exact h
  | exit i=>exact h
  | ret=>exact h
 | .ghW a,Q,s,h=>Bl (c:=a) (Hq (c:=a) h) fun e s h=>by
  cases e with
  | normal=>exact h
  | exit i=>exact h
  | ret=>exact h
 | .dead,_,_,h=>h.elim
def ret (fl:Bool) (rvs:List RV) (R:T->Prop):AX->St->Prop
 | .exit _,_=>False
 | .normal,s | .ret,s=>(match q0g s rvs with|some (c,r)=>c/\R r|none=>False)/\(fl=true->Dp s)
theorem qHm {rvs:List RV} {R:T->Prop} {e:AX} {s:St} {fl:Bool} (h:ret fl rvs R e s):∃ res,R res/\(if fl then qHk rvs res e s else qKt rvs res e s):=by
 cases e with
 | exit i=>exact h.elim
 | normal =>
  obtain⟨h,hf⟩:=h
  split at h
  ·rename_i c r hr
   refine⟨r,h.2,?_⟩
   cases fl
   ·exact⟨c,hr,h.1⟩
   ·exact⟨c,hr,h.1,hf rfl⟩
  ·exact h.elim
 | ret =>
  obtain⟨h,hf⟩:=h
  split at h
  ·rename_i c r hr
   refine⟨r,h.2,?_⟩
   cases fl
   ·exact⟨c,hr,h.1⟩
   ·exact⟨c,hr,h.1,hf rfl⟩
  ·exact h.elim
theorem run_pure {P:Program} {Γ:Tables} {f:FuncId} {ic:IC} {N n:Nat} {rvs:List RV} {args:List T} {R:T->Prop} (hc:Bc P f ic N n rvs=true) (hn:args.length=n) (h:run P Γ ic (ret false rvs R) ⟨params 0 args,[]⟩):∃ res,B9 P Γ f args res/\R res:=by
 obtain⟨e,s,h1,h2⟩:=I7 (Hq h)
 obtain⟨res,hR,hq⟩:=qHm h1
 exact⟨res,qBv hc hn (Bl h2 fun e s ⟨he,hs⟩=>by subst he;subst hs;exact hq),hR⟩
theorem q8r {P:Program} {Γ:Tables} {f:FuncId} {ic:IC} {N n:Nat} {rvs:List RV} {args:List T} {R:T->Prop} (hc:Bc P f ic N n rvs=true) (hn:args.length=n) (h:run P Γ ic (ret true rvs R) ⟨params 0 args,[]⟩):∃ res,A7 P Γ f args res/\R res:=by
 obtain⟨e,s,h1,h2⟩:=I7 (Hq h)
 obtain⟨res,hR,hq⟩:=qHm h1
 exact⟨res,qAb hc hn (Bl h2 fun e s ⟨he,hs⟩=>by subst he;subst hs;exact hq),hR⟩
def qE4 (rvs:List RV) (R:AV->List (Nat×Aw)->Prop):AX->St->Prop
 | .exit _,_=>False
 | .normal,s | .ret,s=>match q5A s rvs with|some (c,r)=>c/\R r s.hp|none=>False
theorem qIh {rvs:List RV} {R:AV->List (Nat×Aw)->Prop} {e:AX} {s:St} (h:qE4 rvs R e s):∃ res hp',R res hp'/\qCt rvs res hp' e s:=by
 have key:∀ s:St,(match q5A s rvs with|some (c,r)=>c/\R r s.hp|none=>False)->∃ res hp',R res hp'/\∃ c,q5A s rvs=some (c,res)/\c/\s.hp=hp':=by
  intro s h
  split at h
  ·rename_i c r hr;exact⟨r,s.hp,h.2,c,hr,h.1,rfl⟩
  ·exact h.elim
 cases e with
 | exit i=>exact h.elim
 | normal=>exact key s h
 | ret=>exact key s h
theorem q47 {P:Program} {Γ:Tables} {f:FuncId} {ic:IC} {N n:Nat} {rvs:List RV} {hp:List (Nat×Aw)} {args:List AV} {R:AV->List (Nat×Aw)->Prop} (hc:Bc P f ic N n rvs=true) (hn:args.length=n) (h:run P Γ ic (qE4 rvs R) ⟨q6A 0 args,hp⟩) :
  ∃ res hp',Bf P Γ f hp args res hp'/\R res hp':=by
 obtain⟨e,s,h1,h2⟩:=I7 (Hq h)
 obtain⟨res,hp',hR,hq⟩:=qIh h1
 exact⟨res,hp',qGz hc hn (Bl h2 fun e s ⟨he,hs⟩=>by subst he;subst hs;exact hq),hR⟩
theorem A6 {n:Int} (h1 : -9223372036854775808<=n) (h2:n<=9223372036854775807):IntKind.i64.wrap n=n:=by
 simp[IntKind.wrap,IntKind.signed,IntKind.bits]
 split<;>omega
theorem Bw {n:Int} (h1:0<=n) (h2:n<=255):IntKind.u8.wrap n=n:=by
 simp[IntKind.wrap,IntKind.signed,IntKind.bits]
 omega
section
variable {P:Program} {Γ:Tables} {Q Q':AX->St->Prop} {s s':St} {hp hp':List (Nat×Aw)}
theorem Am {a:IC} (h:∀ K:St->Prop,K=run P Γ (.loop a) Q->run P Γ a (B0 K Q) s):run P Γ (.loop a) Q s:=qF7 (Hq (h _ rfl))
@[simp ↓] theorem qLg {a b:IC}:run P Γ (.seq a b) Q s=run P Γ a (B0 (run P Γ b Q) Q) s:=Eq.trans rfl rfl
@[simp ↓] theorem qLh {ros:List RO} {gs:List Gh}:run P Γ (.reg ros gs) Q s=Gt P Γ ros s (fun s1=>Q .normal (ghs gs s1)) ⟨⟩:=Eq.trans rfl rfl
@[simp ↓] theorem qKu {c:Operand} {a b:IC}:run P Γ (.cond c a b) Q s=q5l (ev Γ s.env c) (run P Γ a Q s) (run P Γ b Q s) ⟨⟩ ⟨⟩:=Eq.trans rfl rfl
@[simp ↓] theorem qJs {id:Nat} {a:IC}:run P Γ (.block id a) Q s=run P Γ a (N5 id Q) s:=Eq.trans rfl rfl
@[simp ↓] theorem qJt {a:IC}:run P Γ (.scope a) Q s=run P Γ a Q s:=Eq.trans rfl rfl
@[simp ↓] theorem qMI {a:IC} {gs:List Gh}:run P Γ (.gh a gs) Q s=run P Γ a (B0 (fun s=>Q .normal (ghs gs s)) Q) s:=Eq.trans rfl rfl
@[simp ↓] theorem qLi {a:IC}:run P Γ (.ghW a) Q s=run P Γ a (B0 (fun s=>∃ s',Imp Γ s s'/\Q .normal s') Q) s:=Eq.trans rfl rfl
@[simp ↓] theorem qKv:run P Γ .skip Q s=Q .normal s:=Eq.trans rfl rfl
@[simp ↓] theorem qKw {i:Nat}:run P Γ (.exit i) Q s=Q (.exit i) s:=Eq.trans rfl rfl
@[simp ↓] theorem qLj:run P Γ .ret Q s=Q .ret s:=Eq.trans rfl rfl
@[simp ↓] theorem qKx:run P Γ .dead Q s=False:=Eq.trans rfl rfl
@[simp ↓] theorem qJu {c:Prop} {r:AV} {K:AV->St->Prop}:Dx (some (c,r,s)) K ⟨⟩=(c/\K r s):=Eq.trans rfl rfl
@[simp ↓] theorem qJv {K:AV->St->Prop}:Dx none K ⟨⟩=False:=Eq.trans rfl rfl
@[simp ↓] theorem qKy {as:List AV} {K:List AV->Prop}:asK (some as) K ⟨⟩=K as:=Eq.trans rfl rfl
@[simp ↓] theorem qKz {f:FuncId} {cs:List AV} {K:FuncId->List AV->Prop}:fnK (some (f,cs)) K ⟨⟩=K f cs:=Eq.trans rfl rfl
@[simp ↓,simp] theorem qIi {A B:Prop}:q5l (some (.t (.v (.bool true)))) A B ⟨⟩ ⟨⟩=A:=by simp[q5l]
@[simp ↓,simp] theorem qHn {A B:Prop}:q5l (some (.t (.v (.bool false)))) A B ⟨⟩ ⟨⟩=B:=by simp[q5l]
@[simp low] theorem qIj {t:Bool} {A B:Prop}:q5l (some (.t (.v (.bool t)))) A B ⟨⟩ ⟨⟩=((t=true->Bm A ⟨⟩)/\(t=false->Bm B ⟨⟩)):=Eq.trans rfl rfl
@[simp ↓] theorem qIk {A B:Prop}:q79 (some true) A B ⟨⟩ ⟨⟩=A:=Eq.trans rfl rfl
@[simp ↓] theorem qHo {A B:Prop}:q79 (some false) A B ⟨⟩ ⟨⟩=B:=Eq.trans rfl rfl
@[simp ↓,simp] theorem qIl {K:St->Prop}:Gt P Γ [] s K ⟨⟩=K s:=Eq.trans rfl rfl
@[simp ↓,simp] theorem qIm {d:Nat}  {io:Bt} {ros:List RO} {K:St->Prop} :
  Gt P Γ (⟨some d,io,none,none⟩::ros) s K ⟨⟩=B1 P Γ d io s fun q st1=>Gt P Γ ros ⟨(d,q)::st1.env,st1.hp⟩ K ⟨⟩:=Eq.trans rfl rfl
@[simp ↓,simp] theorem qIn {d:Nat}  {r:Nat} {io:Bt} {ros:List RO} {K:St->Prop} :
  Gt P Γ (⟨some d,io,none,some r⟩::ros) s K ⟨⟩=B1 P Γ r io s fun q st1=>Gt P Γ ros ⟨(d,q)::st1.env,st1.hp⟩ K ⟨⟩:=Eq.trans rfl rfl
@[simp ↓,simp] theorem qIo {d:Nat} {g:Nat} {b:Bool} {io:Bt} {ros:List RO} {K:St->Prop} :
  Gt P Γ (⟨some d,io,some (g,b),none⟩::ros) s K ⟨⟩=q79 (G7 s.env (some (g,b))) (B1 P Γ d io s fun q st1=>Gt P Γ ros ⟨(d,q)::st1.env,st1.hp⟩ K ⟨⟩) (Gt P Γ ros ⟨(d,.un)::s.env,s.hp⟩ K ⟨⟩) ⟨⟩ ⟨⟩:=Eq.trans rfl rfl
@[simp ↓,simp] theorem qIp {d:Nat} {g:Nat} {b:Bool} {r:Nat} {io:Bt} {ros:List RO} {K:St->Prop} :
  Gt P Γ (⟨some d,io,some (g,b),some r⟩::ros) s K ⟨⟩=q79 (G7 s.env (some (g,b))) (B1 P Γ r io s fun q st1=>Gt P Γ ros ⟨(d,q)::st1.env,st1.hp⟩ K ⟨⟩) (Gt P Γ ros ⟨(d,.un)::s.env,s.hp⟩ K ⟨⟩) ⟨⟩ ⟨⟩:=Eq.trans rfl rfl
@[simp ↓,simp] theorem qIq   {io:Bt} {ros:List RO} {K:St->Prop} :
  Gt P Γ (⟨none,io,none,none⟩::ros) s K ⟨⟩=B1 P Γ 0 io s fun q st1=>Gt P Γ ros st1 K ⟨⟩:=Eq.trans rfl rfl
@[simp ↓,simp] theorem qIr  {g:Nat} {b:Bool} {io:Bt} {ros:List RO} {K:St->Prop} :
  Gt P Γ (⟨none,io,some (g,b),none⟩::ros) s K ⟨⟩=q79 (G7 s.env (some (g,b))) (B1 P Γ 0 io s fun q st1=>Gt P Γ ros st1 K ⟨⟩) (Gt P Γ ros s K ⟨⟩) ⟨⟩ ⟨⟩:=Eq.trans rfl rfl
@[simp ↓] theorem qH0 {n:St->Prop}:B0 n Q .normal s=n s:=Eq.trans rfl rfl
@[simp ↓] theorem qIs {n:St->Prop} {i:Nat}:B0 n Q (.exit i) s=Q (.exit i) s:=Eq.trans rfl rfl
@[simp ↓] theorem qJw {n:St->Prop}:B0 n Q .ret s=Q .ret s:=Eq.trans rfl rfl
@[simp ↓] theorem qGZ {id:Nat}:N5 id Q .normal s=Q .normal s:=Eq.trans rfl rfl
@[simp ↓] theorem qHp {id i:Nat}:N5 id Q (.exit i) s=if i=id then Q .normal s else Q (.exit i) s:=Eq.trans rfl rfl
@[simp ↓] theorem qIt {id:Nat}:N5 id Q .ret s=Q .ret s:=Eq.trans rfl rfl
@[simp ↓] theorem qLk:ghs [] s=s:=Eq.trans rfl rfl
theorem G5 {g:Gh} {gs:List Gh}:ghs (g::gs) s=ghs gs (g.run s):=rfl
@[simp ↓,simp] theorem qL0 {g:Gh} {gs:List Gh} {e:List (Nat×AV)} {h:List (Nat×Aw)}:ghs (g::gs) ⟨e,h⟩=ghs gs (g.run ⟨e,h⟩):=Eq.trans rfl rfl
@[simp] theorem q7A {α:Type} {l:List (Nat×α)}:Lg.keep [] l=[]:=Eq.trans rfl rfl
@[simp] theorem q5C {α:Type} {k:Nat} {ks:List Nat} {l:List (Nat×α)}:Lg.keep (k::ks) l=match A0 l k with|some v=>(k,v)::Lg.keep ks l|none=>Lg.keep ks l:=by
 unfold Lg.keep
 rw[List.filterMap_cons]
 cases A0 l k<;>rfl
@[simp ↓] theorem qMJ {d:Nat} {st:St} {x:Operand}:Ak Γ d (.mv x) st=(
   (ev Γ st.env x).map fun a=>(True,a,st)):=Eq.trans rfl rfl
@[simp ↓] theorem qL1 {d:Nat} {st:St} {K:AV->St->Prop} {x:Operand}:B1 P Γ d (.mv x) st K=Dx (Ak Γ d (.mv x) st) K ⟨⟩:=Eq.trans rfl rfl
@[simp ↓] theorem qL2 {d:Nat} {st:St} {c:Operand} {a:Operand} {b:Operand}:Ak Γ d (.pick c a b) st=(
   match ev Γ st.env c,ev Γ st.env a,ev Γ st.env b with
    | some (.t (.v (.bool p))),some a,some b=>some (True,q4p p a b,st)
    | _,_,_=>none):=Eq.trans rfl rfl
@[simp ↓] theorem qIu {d:Nat} {st:St} {K:AV->St->Prop} {c:Operand} {a:Operand} {b:Operand}:B1 P Γ d (.pick c a b) st K=Dx (Ak Γ d (.pick c a b) st) K ⟨⟩:=Eq.trans rfl rfl
@[simp ↓] theorem qJx {d:Nat} {st:St} {fz:Bool} {zs:List Value}:Ak Γ d (.alloc fz zs) st=(
  if fz then some (True,.t (.ip (zs.map C4) 0),st)
  else some (A0 st.hp d=none,.lp d 0 0,⟨st.env,(d,.bx (zs.map fun z=>.t (C4 z)))::st.hp⟩)):=Eq.trans rfl rfl
@[simp ↓] theorem qHq {d:Nat} {st:St} {K:AV->St->Prop} {fz:Bool} {zs:List Value}:B1 P Γ d (.alloc fz zs) st K=Dx (Ak Γ d (.alloc fz zs) st) K ⟨⟩:=Eq.trans rfl rfl
@[simp ↓] theorem qLl {d:Nat} {st:St} {fz:Bool} {x:Operand}:Ak Γ d (.box fz x) st=(
   (ev Γ st.env x).bind fun a =>
    if fz then(O2 a.cells).map fun ts=>(D9 ts=true,.t (.ip ts 0),st)
    else some (A0 st.hp d=none/\C7 a.cells=true,.lp d 0 0,⟨st.env,(d,.bx a.cells)::st.hp⟩)):=Eq.trans rfl rfl
@[simp ↓] theorem qJy {d:Nat} {st:St} {K:AV->St->Prop} {fz:Bool} {x:Operand}:B1 P Γ d (.box fz x) st K=Dx (Ak Γ d (.box fz x) st) K ⟨⟩:=Eq.trans rfl rfl
@[simp ↓] theorem qJz {d:Nat} {st:St} {parts:List (Nat×Operand)}:Ak Γ d (.build parts) st=(
   (Qi Γ st.env (parts.map (·.2))).map fun as=>(as.map (·.cells.length)=parts.map (·.1)/\C7 (as.flatMap AV.cells)=true,.ag (as.flatMap AV.cells),st)):=Eq.trans rfl rfl
@[simp ↓] theorem qHr {d:Nat} {st:St} {K:AV->St->Prop} {parts:List (Nat×Operand)}:B1 P Γ d (.build parts) st K=Dx (Ak Γ d (.build parts) st) K ⟨⟩:=Eq.trans rfl rfl
@[simp ↓] theorem qLm {d:Nat} {st:St} {fz:Bool} {ty:Nat} {s:Nat} {parts:List Operand}:Ak Γ d (.bsl fz ty s parts) st=(
   (Qi Γ st.env parts).bind fun as=>(Ag (as.map fun a=>O2 a.cells)).map fun es =>
    if fz then((∀ e∈es,e.length=s/\D9 e=true),.t (.sl es (some es.length) (some false)),st)
    else(A0 st.hp d=none/\(∀ e∈es,e.length=s/\D9 e=true),.ls d 0 es.length none,⟨st.env,(d,.sl ty s es)::st.hp⟩)):=Eq.trans rfl rfl
@[simp ↓] theorem qK0 {d:Nat} {st:St} {K:AV->St->Prop} {fz:Bool} {ty:Nat} {s:Nat} {parts:List Operand}:B1 P Γ d (.bsl fz ty s parts) st K=Dx (Ak Γ d (.bsl fz ty s parts) st) K ⟨⟩:=Eq.trans rfl rfl
@[simp ↓] theorem qL3 {d:Nat} {st:St} {n:Nat} {g:Bool} {a:Operand}:Ak Γ d (.load n g a) st=(
   match ev Γ st.env a with
    | some (.t (.ip cs k))=>some (k+n<=cs.length,.t (Jo g ((cs.drop k).take n)),st)
    | some (.lp id i k)=>match A0 st.hp id with
      | some (.sl _ s es)=>some (i<es.length/\k+n<=s,.t (Jo g (((es.getD i []).drop k).take n)),st)
      | some (.rs _ s es)=>some (i<es.length/\k+n<=s,M3 g (((es.getD i []).drop k).take n),st)
      | some (.bx cs)=>some (i=0/\k+n<=cs.length,M3 g ((cs.drop k).take n),st)
      | _=>none
    | _=>none):=Eq.trans rfl rfl
@[simp ↓] theorem qIv {d:Nat} {st:St} {K:AV->St->Prop} {n:Nat} {g:Bool} {a:Operand}:B1 P Γ d (.load n g a) st K=Dx (Ak Γ d (.load n g a) st) K ⟨⟩:=Eq.trans rfl rfl
@[simp ↓] theorem qK1 {d:Nat} {st:St} {n:Nat} {a:Operand} {x:Operand}:Ak Γ d (.store n a x) st=(
   (ev Γ st.env x).bind fun v=>match ev Γ st.env a with
    | some (.lp id i k)=>match A0 st.hp id with
      | some (.sl ty s es)=>(O2 v.cells).map fun ts =>
        (i<es.length/\k+n<=s/\ts.length=n/\D9 ts=true,.un,
          ⟨st.env,Dn id (.sl ty s (es.set i (if k=0/\n=s then ts else(es.getD i []).take k++ts++(es.getD i []).drop (k+n)))) st.hp⟩)
      | some (.rs ty s es)=>some (i<es.length/\k+n<=s/\v.cells.length=n/\C7 v.cells=true,.un,
          ⟨st.env,Dn id (.rs ty s (es.set i (if k=0/\n=s then v.cells else(es.getD i []).take k++v.cells++(es.getD i []).drop (k+n)))) st.hp⟩)
      | some (.bx cs)=>some (i=0/\k+n<=cs.length/\v.cells.length=n/\C7 v.cells=true,.un,⟨st.env,Dn id (.bx (cs.take k++v.cells++cs.drop (k+n))) st.hp⟩)
      | _=>none
    | _=>none):=Eq.trans rfl rfl
@[simp ↓] theorem qHs {d:Nat} {st:St} {K:AV->St->Prop} {n:Nat} {a:Operand} {x:Operand}:B1 P Γ d (.store n a x) st K=Dx (Ak Γ d (.store n a x) st) K ⟨⟩:=Eq.trans rfl rfl
@[simp ↓] theorem qL4 {d:Nat} {st:St} {off:Nat} {a:Operand}:Ak Γ d (.fadr off a) st=(
   match ev Γ st.env a with
    | some (.t (.ip cs k))=>some (True,.t (.ip cs (k+off)),st)
    | some (.lp id i k)=>some (True,.lp id i (k+off),st)
    | _=>none):=Eq.trans rfl rfl
@[simp ↓] theorem qIw {d:Nat} {st:St} {K:AV->St->Prop} {off:Nat} {a:Operand}:B1 P Γ d (.fadr off a) st K=Dx (Ak Γ d (.fadr off a) st) K ⟨⟩:=Eq.trans rfl rfl
@[simp ↓] theorem qLn {d:Nat} {st:St} {off:Nat} {n:Nat} {g:Bool} {x:Operand}:Ak Γ d (.fld off n g x) st=(
   (ev Γ st.env x).bind fun a=>match a with
    | .ag cs=>some (off+n<=cs.length,M3 g ((cs.drop off).take n),st)
    | .t (.agg ts)=>some (off+n<=ts.length,.t (Jo g ((ts.drop off).take n)),st)
    | _=>none):=Eq.trans rfl rfl
@[simp ↓] theorem qK2 {d:Nat} {st:St} {K:AV->St->Prop} {off:Nat} {n:Nat} {g:Bool} {x:Operand}:B1 P Γ d (.fld off n g x) st K=Dx (Ak Γ d (.fld off n g x) st) K ⟨⟩:=Eq.trans rfl rfl
@[simp ↓] theorem qL5 {d:Nat} {st:St} {s:Nat} {x:Operand} {i:Operand}:Ak Γ d (.iadr s x i) st=(
   match ev Γ st.env x,ev Γ st.env i with
    | some (.t (.sl es _ _)),some (.t (.v (.int _ n)))=>some (0<=n/\n<es.length/\Es s es,.t (.ip (es.getD n.toNat []) 0),st)
    | some (.ls id off len _),some (.t (.v (.int _ n)))=>match A0 st.hp id with
      | some (.sl _ q _)=>some (q=s/\0<=n/\n<len,.lp id (off+n.toNat) 0,st)
      | some (.rs _ q _)=>some (q=s/\0<=n/\n<len,.lp id (off+n.toNat) 0,st)
      | _=>none
    | some (.lb id m),some (.t (.v (.int _ n)))=>match A0 st.hp id with
      | some (.bx _)=>some (s=1/\0<=n/\n<m,.lp id 0 n.toNat,st)
      | _=>none
    | _,_=>none):=Eq.trans rfl rfl
@[simp ↓] theorem qIx {d:Nat} {st:St} {K:AV->St->Prop} {s:Nat} {x:Operand} {i:Operand}:B1 P Γ d (.iadr s x i) st K=Dx (Ak Γ d (.iadr s x i) st) K ⟨⟩:=Eq.trans rfl rfl
@[simp ↓] theorem qL6 {d:Nat} {st:St} {s:Nat} {x:Operand} {i:Operand}:Ak Γ d (.iadT s x i) st=(
   match ev Γ st.env x,ev Γ st.env i with
    | some (.t (.sl es _ _)),some (.t (.v (.int _ n)))=>some (0<=n/\n<es.length/\Es s es,.t (.ip (es.getD n.toNat []) 0),st)
    | _,_=>none):=Eq.trans rfl rfl
@[simp ↓] theorem qIy {d:Nat} {st:St} {K:AV->St->Prop} {s:Nat} {x:Operand} {i:Operand}:B1 P Γ d (.iadT s x i) st K=Dx (Ak Γ d (.iadT s x i) st) K ⟨⟩:=Eq.trans rfl rfl
@[simp ↓] theorem qK3 {d:Nat} {st:St} {len:Nat} {s:Nat} {x:Operand} {i:Operand}:Ak Γ d (.iadrA len s x i) st=(
   match ev Γ st.env x,ev Γ st.env i with
    | some (.t (.ip cs k)),some (.t (.v (.int _ n)))=>some (0<=n/\n<len,.t (.ip cs (k+n.toNat*s)),st)
    | some (.lp id j k),some (.t (.v (.int _ n)))=>some (0<=n/\n<len,.lp id j (k+n.toNat*s),st)
    | _,_=>none):=Eq.trans rfl rfl
@[simp ↓] theorem qHt {d:Nat} {st:St} {K:AV->St->Prop} {len:Nat} {s:Nat} {x:Operand} {i:Operand}:B1 P Γ d (.iadrA len s x i) st K=Dx (Ak Γ d (.iadrA len s x i) st) K ⟨⟩:=Eq.trans rfl rfl
@[simp ↓] theorem qL7 {d:Nat} {st:St} {x:Operand} {i:Operand}:Ak Γ d (.idxS x i) st=(
   match ev Γ st.env x,ev Γ st.env i with
    | some (.t (.v (.string s))),some (.t (.v (.int _ n)))=>some (0<=n/\n<s.size,.t (.v (.int .u8 (s.data.getD n.toNat 0).toNat)),st)
    | _,_=>none):=Eq.trans rfl rfl
@[simp ↓] theorem qIz {d:Nat} {st:St} {K:AV->St->Prop} {x:Operand} {i:Operand}:B1 P Γ d (.idxS x i) st K=Dx (Ak Γ d (.idxS x i) st) K ⟨⟩:=Eq.trans rfl rfl
@[simp ↓] theorem qL8 {d:Nat} {st:St} {len:Nat} {s:Nat} {g:Bool} {x:Operand} {i:Operand}:Ak Γ d (.idxA len s g x i) st=(
   match ev Γ st.env x,ev Γ st.env i with
    | some (.t (.agg ts)),some (.t (.v (.int _ n)))=>some (0<=n/\n<len/\n.toNat*s+s<=ts.length,.t (Jo g ((ts.drop (n.toNat*s)).take s)),st)
    | some (.ag cs),some (.t (.v (.int _ n)))=>some (0<=n/\n<len/\n.toNat*s+s<=cs.length,M3 g ((cs.drop (n.toNat*s)).take s),st)
    | _,_=>none):=Eq.trans rfl rfl
@[simp ↓] theorem qJ0 {d:Nat} {st:St} {K:AV->St->Prop} {len:Nat} {s:Nat} {g:Bool} {x:Operand} {i:Operand}:B1 P Γ d (.idxA len s g x i) st K=Dx (Ak Γ d (.idxA len s g x i) st) K ⟨⟩:=Eq.trans rfl rfl
@[simp ↓] theorem qLo {d:Nat} {st:St} {op:BinOp} {x:Operand} {y:Operand}:Ak Γ d (.bin op x y) st=(
   match ev Γ st.env x,ev Γ st.env y with
    | some (.t (.v a)),some (.t (.v b))=>(qDj op a b).map fun r=>(r.1,.t (.v r.2),st)
    | _,_=>none):=Eq.trans rfl rfl
@[simp ↓] theorem qK4 {d:Nat} {st:St} {K:AV->St->Prop} {op:BinOp} {x:Operand} {y:Operand}:B1 P Γ d (.bin op x y) st K=Dx (Ak Γ d (.bin op x y) st) K ⟨⟩:=Eq.trans rfl rfl
@[simp ↓] theorem qK5 {d:Nat} {st:St} {pos:Bool} {x:Operand}:Ak Γ d (.isNil pos x) st=(
   match ev Γ st.env x with
    | some (.t (.sl es _ nl))=>match nl with
      | some q=>some (True,.t (.v (.bool (q==pos))),st)
      | none=>some (es≠[],.t (.v (.bool (!pos))),st)
    | _=>none):=Eq.trans rfl rfl
@[simp ↓] theorem qHu {d:Nat} {st:St} {K:AV->St->Prop} {pos:Bool} {x:Operand}:B1 P Γ d (.isNil pos x) st K=Dx (Ak Γ d (.isNil pos x) st) K ⟨⟩:=Eq.trans rfl rfl
@[simp ↓] theorem qLp {d:Nat} {st:St} {pos:Bool} {x:Operand} {y:Operand}:Ak Γ d (.eqb pos x y) st=(
   match ev Γ st.env x,ev Γ st.env y with
    | some (.t (.v (.bool a))),some (.t (.v (.bool b)))=>some (True,.t (.v (.bool (if pos then a==b else a != b))),st)
    | _,_=>none):=Eq.trans rfl rfl
@[simp ↓] theorem qK6 {d:Nat} {st:St} {K:AV->St->Prop} {pos:Bool} {x:Operand} {y:Operand}:B1 P Γ d (.eqb pos x y) st K=Dx (Ak Γ d (.eqb pos x y) st) K ⟨⟩:=Eq.trans rfl rfl
@[simp ↓] theorem qLq {d:Nat} {st:St} {pos:Bool} {ks:List (Option IntKind)} {x:Operand} {y:Operand}:Ak Γ d (.eqg pos ks x y) st=(
   ((ev Γ st.env x).bind qBL).bind fun as=>((ev Γ st.env y).bind qBL).map fun bs=>(q19 ks as/\q19 ks bs,.t (.v (.bool (if pos then q2S as bs else !q2S as bs))),st)):=Eq.trans rfl rfl
@[simp ↓] theorem qK7 {d:Nat} {st:St} {K:AV->St->Prop} {pos:Bool} {ks:List (Option IntKind)} {x:Operand} {y:Operand}:B1 P Γ d (.eqg pos ks x y) st K=Dx (Ak Γ d (.eqg pos ks x y) st) K ⟨⟩:=Eq.trans rfl rfl
@[simp ↓] theorem qMK {d:Nat} {st:St} {op:UnOp} {x:Operand}:Ak Γ d (.un op x) st=(
   match ev Γ st.env x with
    | some (.t (.v a))=>(unV op a).map fun r=>(True,.t (.v r),st)
    | _=>none):=Eq.trans rfl rfl
@[simp ↓] theorem qL9 {d:Nat} {st:St} {K:AV->St->Prop} {op:UnOp} {x:Operand}:B1 P Γ d (.un op x) st K=Dx (Ak Γ d (.un op x) st) K ⟨⟩:=Eq.trans rfl rfl
@[simp ↓] theorem qLA {d:Nat} {st:St} {k:IntKind} {x:Operand}:Ak Γ d (.conv k x) st=(
   match ev Γ st.env x with
    | some (.t (.v (.int _ n)))=>some (True,.t (.v (.int k (k.wrap n))),st)
    | _=>none):=Eq.trans rfl rfl
@[simp ↓] theorem qJ1 {d:Nat} {st:St} {K:AV->St->Prop} {k:IntKind} {x:Operand}:B1 P Γ d (.conv k x) st K=Dx (Ak Γ d (.conv k x) st) K ⟨⟩:=Eq.trans rfl rfl
@[simp ↓] theorem qH1 {d:Nat} {st:St} {x:Operand}:Ak Γ d (.bytesStr x) st=(
   ((ev Γ st.env x).bind (C3 st.hp)).bind fun es=>(Ns es).map fun bs=>(True,.t (.v (.string ⟨bs.toArray⟩)),st)):=Eq.trans rfl rfl
@[simp ↓] theorem qFB {d:Nat} {st:St} {K:AV->St->Prop} {x:Operand}:B1 P Γ d (.bytesStr x) st K=Dx (Ak Γ d (.bytesStr x) st) K ⟨⟩:=Eq.trans rfl rfl
@[simp ↓] theorem qHv {d:Nat} {st:St} {x:Operand}:Ak Γ d (.runeStr x) st=(
   match ev Γ st.env x with
    | some (.t (.v (.int _ n)))=>some (True,.t (.v (.string (Utf8.encode n))),st)
    | _=>none):=Eq.trans rfl rfl
@[simp ↓] theorem qGa {d:Nat} {st:St} {K:AV->St->Prop} {x:Operand}:B1 P Γ d (.runeStr x) st K=Dx (Ak Γ d (.runeStr x) st) K ⟨⟩:=Eq.trans rfl rfl
@[simp ↓] theorem qLr {d:Nat} {st:St} {k:Nat} {x:Operand}:Ak Γ d (.len k x) st=(
   (ev Γ st.env x).bind fun a=>if qGe k a then(lenOf st.hp a).map fun(n:Nat)=>(True,.t (.v (.int .i64 (n:Int))),st)else none):=Eq.trans rfl rfl
@[simp ↓] theorem qK8 {d:Nat} {st:St} {K:AV->St->Prop} {k:Nat} {x:Operand}:B1 P Γ d (.len k x) st K=Dx (Ak Γ d (.len k x) st) K ⟨⟩:=Eq.trans rfl rfl
@[simp ↓] theorem qLs {d:Nat} {st:St} {x:Operand}:Ak Γ d (.cap x) st=(
   match ev Γ st.env x with
    | some (.t (.sl _ (some c) _))=>some (True,.t (.v (.int .i64 c)),st)
    | some (.ls _ _ _ (some c))=>some (True,.t (.v (.int .i64 c)),st)
    | _=>none):=Eq.trans rfl rfl
@[simp ↓] theorem qK9 {d:Nat} {st:St} {K:AV->St->Prop} {x:Operand}:B1 P Γ d (.cap x) st K=Dx (Ak Γ d (.cap x) st) K ⟨⟩:=Eq.trans rfl rfl
@[simp ↓] theorem qLt {d:Nat} {st:St} {mx:Bool} {xs:List Operand}:Ak Γ d (.mmx mx xs) st=(
   (Qi Γ st.env xs).bind fun as=>(Yv mx as none).map fun r=>(I4 r.1 as=true,.t (.v (.int r.1 r.2)),st)):=Eq.trans rfl rfl
@[simp ↓] theorem qKA {d:Nat} {st:St} {K:AV->St->Prop} {mx:Bool} {xs:List Operand}:B1 P Γ d (.mmx mx xs) st K=Dx (Ak Γ d (.mmx mx xs) st) K ⟨⟩:=Eq.trans rfl rfl
@[simp ↓] theorem qLu {d:Nat} {st:St} {fz:Bool} {ty:Nat} {s:Nat} {b:Operand} {x:Operand}:Ak Γ d (.app fz ty s b x) st=(
   ((ev Γ st.env x).bind (C3 st.hp)).bind fun news=>(ev Γ st.env b).bind fun a =>
    let fin (c0:Prop) (es:List (List T)) (st':St):Option (Prop×AV×St) :=
      let c:Prop:=Es s news/\c0
      if fz then some (c,.t (.sl es none none),st')
      else some (c/\A0 st'.hp d=none,.ls d 0 es.length none,⟨st'.env,(d,.sl ty s es)::st'.hp⟩)
    match a with
    | .t (.sl es (some c) _)=>fin (Es s es/\c=es.length/\es.length+news.length<=2147483648/\(fz=true\/news≠[]\/es=[])) (es++news) st
    | .ls id off len (some c)=>match A0 st.hp id with
      | some (.sl t q es)=>fin (t=ty/\q=s/\c=len/\len+news.length<=2147483648/\(news≠[]\/len=0)) ((es.drop off).take len++news) st
      | _=>none
    | .ls id 0 len none=>match A0 st.hp id with
      | some (.sl t q es)=>fin (t=ty/\q=s/\len+news.length<=2147483648) (es.take len++news) (st.kill id)
      | _=>none
    | _=>none):=Eq.trans rfl rfl
@[simp ↓] theorem qKB {d:Nat} {st:St} {K:AV->St->Prop} {fz:Bool} {ty:Nat} {s:Nat} {b:Operand} {x:Operand}:B1 P Γ d (.app fz ty s b x) st K=Dx (Ak Γ d (.app fz ty s b x) st) K ⟨⟩:=Eq.trans rfl rfl
@[simp ↓] theorem qLB {d:Nat} {st:St} {u0:Nat} {s:Nat} {b:Operand} {x:Operand}:Ak Γ d (.appT u0 s b x) st=(
   ((ev Γ st.env x).bind (C3 st.hp)).bind fun news=>match ev Γ st.env b with
    | some (.t (.sl es (some c) _))=>some (Es s news/\Es s es/\c=es.length/\es.length+news.length<=2147483648,.t (.sl (es++news) none none),st)
    | _=>none):=Eq.trans rfl rfl
@[simp ↓] theorem qJ2 {d:Nat} {st:St} {K:AV->St->Prop} {u0:Nat} {s:Nat} {b:Operand} {x:Operand}:B1 P Γ d (.appT u0 s b x) st K=Dx (Ak Γ d (.appT u0 s b x) st) K ⟨⟩:=Eq.trans rfl rfl
@[simp ↓] theorem qLC {d:Nat} {st:St} {b:Operand} {x:Operand}:Ak Γ d (.appB b x) st=(
   ((ev Γ st.env x).bind (C3 st.hp)).bind fun news=>match ev Γ st.env b with
    | some (.t (.sl es (some c) _))=>some (Es 1 news/\Es 1 es/\c=es.length/\es.length+news.length<=140737488355328,.t (.sl (es++news) none none),st)
    | _=>none):=Eq.trans rfl rfl
@[simp ↓] theorem qJ3 {d:Nat} {st:St} {K:AV->St->Prop} {b:Operand} {x:Operand}:B1 P Γ d (.appB b x) st K=Dx (Ak Γ d (.appB b x) st) K ⟨⟩:=Eq.trans rfl rfl
@[simp ↓] theorem qLD {d:Nat} {st:St} {fz:Bool} {i ty:Nat} {b:Operand} {x:Operand}:Ak Γ d (.appR fz i ty b x) st=(
   match ev Γ st.env x,ev Γ st.env b with
    | some (.t (.sl news _ _)),some (.ls id 0 len none)=>match A0 st.hp i with
      | some (.sl t q es) =>
        if fz then some (id=i/\Es 1 news/\t=ty/\q=1/\len+news.length<=140737488355328,.t (.sl (es.take len++news) none none),st.kill i)
        else some ((id=i/\Es 1 news/\t=ty/\q=1/\len+news.length<=140737488355328)/\A0 (st.kill i).hp d=none,.ls d 0 (es.take len++news).length none,⟨(st.kill i).env,(d,.sl ty 1 (es.take len++news))::(st.kill i).hp⟩)
      | _=>none
    | _,_=>none):=Eq.trans rfl rfl
@[simp ↓] theorem qJ4 {d:Nat} {st:St} {K:AV->St->Prop} {fz:Bool} {i ty:Nat} {b:Operand} {x:Operand}:B1 P Γ d (.appR fz i ty b x) st K=Dx (Ak Γ d (.appR fz i ty b x) st) K ⟨⟩:=Eq.trans rfl rfl
@[simp ↓] theorem qLE {d:Nat} {st:St} {ty:Nat} {s:Nat} {zs:List Value} {b:Operand} {n:Operand}:Ak Γ d (.appZ ty s zs b n) st=(
   match ev Γ st.env b,ev Γ st.env n with
    | some (.t (.sl es (some q) _)),some (.t (.v (.int _ m))) =>
      some (A0 st.hp d=none/\0<m/\(Es s es/\(q:Int)<es.length+m)/\es.length+m<=2147483648,.ls d 0 (es.length+m.toNat) none,⟨st.env,(d,.sl ty s (es++List.replicate m.toNat (zs.map C4)))::st.hp⟩)
    | _,_=>none):=Eq.trans rfl rfl
@[simp ↓] theorem qJ5 {d:Nat} {st:St} {K:AV->St->Prop} {ty:Nat} {s:Nat} {zs:List Value} {b:Operand} {n:Operand}:B1 P Γ d (.appZ ty s zs b n) st K=Dx (Ak Γ d (.appZ ty s zs b n) st) K ⟨⟩:=Eq.trans rfl rfl
@[simp ↓] theorem qLF {d:Nat} {st:St} {ty s:Nat} {x:Operand}:Ak Γ d (.appN ty s x) st=(
   match ev Γ st.env x with
    | some (.t (.sl es _ _))=>some (A0 st.hp d=none/\Es s es/\es.length<=2147483648,.ls d 0 es.length none,⟨st.env,(d,.sl ty s es)::st.hp⟩)
    | _=>none):=Eq.trans rfl rfl
@[simp ↓] theorem qJ6 {d:Nat} {st:St} {K:AV->St->Prop} {ty s:Nat} {x:Operand}:B1 P Γ d (.appN ty s x) st K=Dx (Ak Γ d (.appN ty s x) st) K ⟨⟩:=Eq.trans rfl rfl
@[simp ↓] theorem qLv {d:Nat} {st:St} {s:Nat} {x y:Operand}:Ak Γ d (.cpy s x y) st=(
   match ev Γ st.env x with
    | some (.ls id off len _)=>match A0 st.hp id with
      | some (.sl ty q es)=>((ev Γ st.env y).bind (C3 st.hp)).map fun news =>
        (q=s/\Es s news,.t (.v (.int .i64 (min len news.length:Nat))),⟨st.env,Dn id (.sl ty s (es.take off++news.take (min len news.length)++es.drop (off+min len news.length))) st.hp⟩)
      | _=>none
    | _=>none):=Eq.trans rfl rfl
@[simp ↓] theorem qKC {d:Nat} {st:St} {K:AV->St->Prop} {s:Nat} {x y:Operand}:B1 P Γ d (.cpy s x y) st K=Dx (Ak Γ d (.cpy s x y) st) K ⟨⟩:=Eq.trans rfl rfl
@[simp ↓] theorem qKD {d:Nat} {st:St} {s:Nat} {x:Operand} {lo:Option Operand} {hi:Option Operand} {mx:Option Operand}:Ak Γ d (.slice s x lo hi mx) st=(
   (ev Γ st.env x).bind fun a =>
    match a with
    | .t (.v (.string b))=>(Jb Γ st.env lo 0).bind fun l=>(Jb Γ st.env hi b.size).map fun h=>(s=0/\l.1/\h.1/\l.2<=h.2/\h.2<=b.size,.t (.v (.string (b.extract l.2 h.2))),st)
    | .t (.sl es cap nl)=>(Jb Γ st.env lo 0).bind fun l=>(Jb Γ st.env hi es.length).bind fun h=>match mx with
      | none=>some (s≠0/\Es s es/\l.1/\h.1/\l.2<=h.2/\h.2<=es.length,.t (.sl ((es.drop l.2).take (h.2-l.2)) (cap.map (· - l.2)) nl),st)
      | some _=>(Jb Γ st.env mx 0).map fun m=>(s≠0/\Es s es/\l.1/\h.1/\m.1/\l.2<=h.2/\h.2<=m.2/\m.2<=es.length,.t (.sl ((es.drop l.2).take (h.2-l.2)) (some (m.2-l.2)) nl),st)
    | .ls id off len cap=>(Jb Γ st.env lo 0).bind fun l=>(Jb Γ st.env hi len).bind fun h=>match A0 st.hp id with
     | some (.sl _ q _)=>match mx with
      | none=>some (s≠0/\q=s/\l.1/\h.1/\l.2<=h.2/\h.2<=len,.ls id (off+l.2) (h.2-l.2) (cap.map (· - l.2)),st)
      | some _=>(Jb Γ st.env mx 0).map fun m=>(s≠0/\q=s/\l.1/\h.1/\m.1/\l.2<=h.2/\h.2<=m.2/\m.2<=len,.ls id (off+l.2) (h.2-l.2) (some (m.2-l.2)),st)
     | _=>none
    | _=>none):=Eq.trans rfl rfl
@[simp ↓] theorem qHw {d:Nat} {st:St} {K:AV->St->Prop} {s:Nat} {x:Operand} {lo:Option Operand} {hi:Option Operand} {mx:Option Operand}:B1 P Γ d (.slice s x lo hi mx) st K=Dx (Ak Γ d (.slice s x lo hi mx) st) K ⟨⟩:=Eq.trans rfl rfl
@[simp ↓] theorem qML {d:Nat} {st:St} {ty:Nat} {s:Nat} {zs:List Value} {l:Operand} {c:Operand}:Ak Γ d (.mk ty s zs l c) st=(
   match ev Γ st.env l,ev Γ st.env c with
    | some (.t (.v (.int _ n))),some (.t (.v (.int _ m))) =>
      some (A0 st.hp d=none/\0<=n/\n<=m/\m<=2147483648,.ls d 0 n.toNat none,⟨st.env,(d,.sl ty s (List.replicate n.toNat (zs.map C4)))::st.hp⟩)
    | _,_=>none):=Eq.trans rfl rfl
@[simp ↓] theorem qLG {d:Nat} {st:St} {K:AV->St->Prop} {ty:Nat} {s:Nat} {zs:List Value} {l:Operand} {c:Operand}:B1 P Γ d (.mk ty s zs l c) st K=Dx (Ak Γ d (.mk ty s zs l c) st) K ⟨⟩:=Eq.trans rfl rfl
@[simp ↓] theorem qLw {d:Nat} {st:St} {f:FuncId} {caps:List Operand}:Ak Γ d (.mkf f caps) st=(
   (Qi Γ st.env caps).map fun as=>(C7 as=true,(match O2 as with|some ts=>.t (.fn f ts)|none=>.fn f as),st)):=Eq.trans rfl rfl
@[simp ↓] theorem qKE {d:Nat} {st:St} {K:AV->St->Prop} {f:FuncId} {caps:List Operand}:B1 P Γ d (.mkf f caps) st K=Dx (Ak Γ d (.mkf f caps) st) K ⟨⟩:=Eq.trans rfl rfl
@[simp ↓] theorem qLH {d:Nat} {st:St} {f:FuncId} {caps:List Operand}:Ak Γ d (.mkfB f caps) st=(
   (Qi Γ st.env caps).map fun as=>(C7 as=true,.fn (f+1000000000) as,st)):=Eq.trans rfl rfl
@[simp ↓] theorem qJ7 {d:Nat} {st:St} {K:AV->St->Prop} {f:FuncId} {caps:List Operand}:B1 P Γ d (.mkfB f caps) st K=Dx (Ak Γ d (.mkfB f caps) st) K ⟨⟩:=Eq.trans rfl rfl
@[simp ↓] theorem qLx {d:Nat} {st:St} {x:Operand} {i:Nat}:Ak Γ d (.ext x i) st=(
   match ev Γ st.env x with
    | some (.t (.tup vs))=>(vs[i]?).map fun t=>(True,.t t,st)
    | some (.tu vs)=>(vs[i]?).map fun t=>(True,t,st)
    | _=>none):=Eq.trans rfl rfl
@[simp ↓] theorem qKF {d:Nat} {st:St} {K:AV->St->Prop} {x:Operand} {i:Nat}:B1 P Γ d (.ext x i) st K=Dx (Ak Γ d (.ext x i) st) K ⟨⟩:=Eq.trans rfl rfl
@[simp ↓] theorem qLy {d:Nat} {st:St} {x:Operand}:Ak Γ d (.nck x) st=(
   match ev Γ st.env x with
    | some (.t (.ip cs k))=>some (True,.t (.ip cs k),st)
    | some (.lp id i k)=>some (True,.lp id i k,st)
    | some (.t (.fn f cs))=>some (True,.t (.fn f cs),st)
    | some (.fn f cs)=>some (True,.fn f cs,st)
    | _=>none):=Eq.trans rfl rfl
@[simp ↓] theorem qKG {d:Nat} {st:St} {K:AV->St->Prop} {x:Operand}:B1 P Γ d (.nck x) st K=Dx (Ak Γ d (.nck x) st) K ⟨⟩:=Eq.trans rfl rfl
@[simp ↓] theorem qKH {d:Nat} {st:St}  : Ak Γ d (.mkmap ) st=(
   some (A0 st.hp d=none,.lm d,⟨st.env,(d,.mp [])::st.hp⟩)):=Eq.trans rfl rfl
@[simp ↓] theorem qHx {d:Nat} {st:St} {K:AV->St->Prop}  : B1 P Γ d (.mkmap ) st K=Dx (Ak Γ d (.mkmap ) st) K ⟨⟩:=Eq.trans rfl rfl
@[simp ↓] theorem qLz {d:Nat} {st:St} {u0:Nat} {zs:List Value} {l:Operand} {c:Operand}:Ak Γ d (.mkB u0 zs l c) st=(
   match ev Γ st.env l,ev Γ st.env c with
    | some (.t (.v (.int _ n))),some (.t (.v (.int _ m))) =>
      some (A0 st.hp d=none/\0<=n/\n=m/\m<=2147483648,.lb d n.toNat,⟨st.env,(d,.bx (List.replicate n.toNat (.t (C4 (zs.headD undef)))))::st.hp⟩)
    | _,_=>none):=Eq.trans rfl rfl
@[simp ↓] theorem qKI {d:Nat} {st:St} {K:AV->St->Prop} {u0:Nat} {zs:List Value} {l:Operand} {c:Operand}:B1 P Γ d (.mkB u0 zs l c) st K=Dx (Ak Γ d (.mkB u0 zs l c) st) K ⟨⟩:=Eq.trans rfl rfl
@[simp ↓] theorem qM0 {d:Nat} {st:St} {ty:Nat} {s:Nat} {zs:List Value} {l:Operand} {c:Operand}:Ak Γ d (.mkE ty s zs l c) st=(
   match ev Γ st.env l,ev Γ st.env c with
    | some (.t (.v (.int _ n))),some (.t (.v (.int _ m))) =>
      some (A0 st.hp d=none/\0<=n/\n<=m/\m<=2147483648,.ls d 0 n.toNat (some m.toNat),⟨st.env,(d,.sl ty s (List.replicate n.toNat (zs.map C4)))::st.hp⟩)
    | _,_=>none):=Eq.trans rfl rfl
@[simp ↓] theorem qKJ {d:Nat} {st:St} {K:AV->St->Prop} {ty:Nat} {s:Nat} {zs:List Value} {l:Operand} {c:Operand}:B1 P Γ d (.mkE ty s zs l c) st K=Dx (Ak Γ d (.mkE ty s zs l c) st) K ⟨⟩:=Eq.trans rfl rfl
@[simp ↓] theorem qM1 {d:Nat} {st:St} {x:Operand}:Ak Γ d (.rng x) st=(
   match ev Γ st.env x with
    | some (.t (.v (.string s)))=>some (A0 st.hp d=none,.li d,⟨st.env,(d,.it s 0)::st.hp⟩)
    | _=>none):=Eq.trans rfl rfl
@[simp ↓] theorem qKK {d:Nat} {st:St} {K:AV->St->Prop} {x:Operand}:B1 P Γ d (.rng x) st K=Dx (Ak Γ d (.rng x) st) K ⟨⟩:=Eq.trans rfl rfl
@[simp ↓] theorem qM2 {d:Nat} {st:St} {x:Operand}:Ak Γ d (.nxt x) st=(
   match ev Γ st.env x with
    | some (.li id)=>match A0 st.hp id with
      | some (.it s pos)=>if pos<s.size then some (True,.t (.tup [.v (.bool true),.v (.int .i64 pos),.v (.int .i32 (Utf8.decode s pos).1)]),⟨st.env,Dn id (.it s (pos+(Utf8.decode s pos).2)) st.hp⟩)
        else some (True,.t (.tup [.v (.bool false)]),st)
      | _=>none
    | _=>none):=Eq.trans rfl rfl
@[simp ↓] theorem qKL {d:Nat} {st:St} {K:AV->St->Prop} {x:Operand}:B1 P Γ d (.nxt x) st K=Dx (Ak Γ d (.nxt x) st) K ⟨⟩:=Eq.trans rfl rfl
@[simp ↓] theorem qLI {d:Nat} {st:St} {kt:KT} {zv:Value} {ok:Bool} {m:Operand} {k:Operand}:Ak Γ d (.lkup kt zv ok m k) st=(
   match ev Γ st.env k with
    | some (.t (.v kv)) =>
      let out (es:List (Value×T)):Prop×AV×St :=
        (kt.fits kv=true/\Nu kt es,if ok then .t (.tup [(G6 kv es).getD (Iq zv),.v (.bool (G6 kv es).isSome)])else .t ((G6 kv es).getD (Iq zv)),st)
      match ev Γ st.env m with
      | some (.t (.mp es))=>some (out es)
      | some (.lm id)=>match A0 st.hp id with
        | some (.mp es)=>some (out es)
        | _=>none
      | _=>none
    | _=>none):=Eq.trans rfl rfl
@[simp ↓] theorem qJ8 {d:Nat} {st:St} {K:AV->St->Prop} {kt:KT} {zv:Value} {ok:Bool} {m:Operand} {k:Operand}:B1 P Γ d (.lkup kt zv ok m k) st K=Dx (Ak Γ d (.lkup kt zv ok m k) st) K ⟨⟩:=Eq.trans rfl rfl
@[simp ↓] theorem qM3 {d:Nat} {st:St} {kt:KT} {m:Operand} {k:Operand} {x:Operand}:Ak Γ d (.mup kt m k x) st=(
   match ev Γ st.env k,ev Γ st.env m with
    | some (.t (.v kv)),some (.lm id)=>match A0 st.hp id with
      | some (.mp es)=>((ev Γ st.env x).bind toT).map fun t=>(kt.fits kv=true/\Nu kt es,.un,⟨st.env,Dn id (.mp (q4q kv t es)) st.hp⟩)
      | _=>none
    | _,_=>none):=Eq.trans rfl rfl
@[simp ↓] theorem qKM {d:Nat} {st:St} {K:AV->St->Prop} {kt:KT} {m:Operand} {k:Operand} {x:Operand}:B1 P Γ d (.mup kt m k x) st K=Dx (Ak Γ d (.mup kt m k x) st) K ⟨⟩:=Eq.trans rfl rfl
@[simp ↓] theorem qKN {d:Nat} {st:St} {kt:KT} {zv:Value} {m:Operand} {k:Operand}:Ak Γ d (.lkupA kt zv m k) st=(
   match ev Γ st.env k,ev Γ st.env m with
    | some (.t (.v kv)),some (.lm id)=>match A0 st.hp id with
      | some (.mr es)=>some (kt.fits kv=true/\Ja kt es,(Ph kv es).getD (Vj zv),st)
      | _=>none
    | _,_=>none):=Eq.trans rfl rfl
@[simp ↓] theorem qHy {d:Nat} {st:St} {K:AV->St->Prop} {kt:KT} {zv:Value} {m:Operand} {k:Operand}:B1 P Γ d (.lkupA kt zv m k) st K=Dx (Ak Γ d (.lkupA kt zv m k) st) K ⟨⟩:=Eq.trans rfl rfl
@[simp ↓] theorem qLJ {d:Nat} {st:St} {kt:KT} {m:Operand} {k:Operand} {x:Operand}:Ak Γ d (.mupA kt m k x) st=(
   match ev Γ st.env k,ev Γ st.env m with
    | some (.t (.v kv)),some (.lm id)=>match A0 st.hp id with
      | some (.mr es)=>(ev Γ st.env x).map fun a=>(kt.fits kv=true/\Ja kt es,.un,⟨st.env,Dn id (.mr (q3F kv a es)) st.hp⟩)
      | _=>none
    | _,_=>none):=Eq.trans rfl rfl
@[simp ↓] theorem qJ9 {d:Nat} {st:St} {K:AV->St->Prop} {kt:KT} {m:Operand} {k:Operand} {x:Operand}:B1 P Γ d (.mupA kt m k x) st K=Dx (Ak Γ d (.mupA kt m k x) st) K ⟨⟩:=Eq.trans rfl rfl
@[simp ↓] theorem qLK {d:Nat} {st:St} {kt:KT} {m:Operand} {k:Operand}:Ak Γ d (.mdel kt m k) st=(
   match ev Γ st.env k,ev Γ st.env m with
    | some (.t (.v kv)),some (.lm id)=>match A0 st.hp id with
      | some (.mr es)=>some (kt.fits kv=true/\Ja kt es,.t (.tup []),⟨st.env,Dn id (.mr (q3v kv es)) st.hp⟩)
      | _=>none
    | _,_=>none):=Eq.trans rfl rfl
@[simp ↓] theorem qJA {d:Nat} {st:St} {K:AV->St->Prop} {kt:KT} {m:Operand} {k:Operand}:B1 P Γ d (.mdel kt m k) st K=Dx (Ak Γ d (.mdel kt m k) st) K ⟨⟩:=Eq.trans rfl rfl
@[simp ↓] theorem qJB {d:Nat} {st:St} {pos:Bool} {x:Operand}:Ak Γ d (.isNilP pos x) st=(
   match ev Γ st.env x with
    | some (.lp _ _ _)=>some (True,.t (.v (.bool (!pos))),st)
    | some (.t (.ip _ _))=>some (True,.t (.v (.bool (!pos))),st)
    | some (.t (.v (.pointer none)))=>some (True,.t (.v (.bool pos)),st)
    | _=>none):=Eq.trans rfl rfl
@[simp ↓] theorem qH2 {d:Nat} {st:St} {K:AV->St->Prop} {pos:Bool} {x:Operand}:B1 P Γ d (.isNilP pos x) st K=Dx (Ak Γ d (.isNilP pos x) st) K ⟨⟩:=Eq.trans rfl rfl
@[simp ↓] theorem qM4 {d:Nat} {st:St} {x:Operand}:Ak Γ d (.mvP x) st=(
   (ev Γ st.env x).bind fun a=>if Kv st.hp a then some (True,a,st)else none):=Eq.trans rfl rfl
@[simp ↓] theorem qKO {d:Nat} {st:St} {K:AV->St->Prop} {x:Operand}:B1 P Γ d (.mvP x) st K=Dx (Ak Γ d (.mvP x) st) K ⟨⟩:=Eq.trans rfl rfl
@[simp ↓] theorem qLL {d:Nat} {st:St} {x:Operand}:Ak Γ d (.nckP x) st=(
   match ev Γ st.env x with
    | some (.lp id i k)=>if Kv st.hp (.lp id i k)then some (True,.lp id i k,st)else none
    | _=>none):=Eq.trans rfl rfl
@[simp ↓] theorem qJC {d:Nat} {st:St} {K:AV->St->Prop} {x:Operand}:B1 P Γ d (.nckP x) st K=Dx (Ak Γ d (.nckP x) st) K ⟨⟩:=Eq.trans rfl rfl
@[simp ↓] theorem qLM {d:Nat} {st:St} {off:Nat} {x:Operand}:Ak Γ d (.fadP off x) st=(
   match ev Γ st.env x with
    | some (.lp id i k)=>if Kv st.hp (.lp id i k)then some (True,.lp id i (k+off),st)else none
    | _=>none):=Eq.trans rfl rfl
@[simp ↓] theorem qJD {d:Nat} {st:St} {K:AV->St->Prop} {off:Nat} {x:Operand}:B1 P Γ d (.fadP off x) st K=Dx (Ak Γ d (.fadP off x) st) K ⟨⟩:=Eq.trans rfl rfl
@[simp ↓] theorem qM5 {d:Nat} {st:St} {n:Nat} {x:Operand}:Ak Γ d (.ldP n x) st=(
   match ev Γ st.env x with
    | some (.lp id i k)=>match A0 st.hp id with
      | some (.bx cs)=>if Kv st.hp (((cs.drop k).take n).headD .dead)then some (i=0/\k+n<=cs.length,((cs.drop k).take n).headD .dead,st)else none
      | _=>none
    | _=>none):=Eq.trans rfl rfl
@[simp ↓] theorem qKP {d:Nat} {st:St} {K:AV->St->Prop} {n:Nat} {x:Operand}:B1 P Γ d (.ldP n x) st K=Dx (Ak Γ d (.ldP n x) st) K ⟨⟩:=Eq.trans rfl rfl
@[simp ↓] theorem qM6 {d:Nat} {st:St} {id:Nat} {n:Nat} {a:Operand} {x:Operand}:Ak Γ d (.stR id n a x) st=(
   if E8 id (ev Γ st.env a) then((ev Γ st.env x).bind fun v=>match ev Γ st.env a with
      | some (.lp id i k)=>match A0 st.hp id with
        | some (.sl ty s es)=>(O2 v.cells).map fun ts =>
          (i<es.length/\k+n<=s/\ts.length=n/\D9 ts=true,.un,
            ⟨st.env,Dn id (.sl ty s (es.set i (if k=0/\n=s then ts else(es.getD i []).take k++ts++(es.getD i []).drop (k+n)))) st.hp⟩)
        | some (.rs ty s es)=>some (i<es.length/\k+n<=s/\v.cells.length=n/\C7 v.cells=true,.un,
            ⟨st.env,Dn id (.rs ty s (es.set i (if k=0/\n=s then v.cells else(es.getD i []).take k++v.cells++(es.getD i []).drop (k+n)))) st.hp⟩)
        | some (.bx cs)=>some (i=0/\k+n<=cs.length/\v.cells.length=n/\C7 v.cells=true,.un,⟨st.env,Dn id (.bx (cs.take k++v.cells++cs.drop (k+n))) st.hp⟩)
        | _=>none
      | _=>none)else none):=Eq.trans rfl rfl
@[simp ↓] theorem qKQ {d:Nat} {st:St} {K:AV->St->Prop} {id:Nat} {n:Nat} {a:Operand} {x:Operand}:B1 P Γ d (.stR id n a x) st K=Dx (Ak Γ d (.stR id n a x) st) K ⟨⟩:=Eq.trans rfl rfl
@[simp ↓] theorem qM7 {d:Nat} {st:St} {id:Nat} {n:Nat} {g:Bool} {a:Operand}:Ak Γ d (.ldR id n g a) st=(
   if E8 id (ev Γ st.env a) then(match ev Γ st.env a with
      | some (.t (.ip cs k))=>some (k+n<=cs.length,.t (Jo g ((cs.drop k).take n)),st)
      | some (.lp id i k)=>match A0 st.hp id with
        | some (.sl _ s es)=>some (i<es.length/\k+n<=s,.t (Jo g (((es.getD i []).drop k).take n)),st)
        | some (.rs _ s es)=>some (i<es.length/\k+n<=s,M3 g (((es.getD i []).drop k).take n),st)
        | some (.bx cs)=>some (i=0/\k+n<=cs.length,M3 g ((cs.drop k).take n),st)
        | _=>none
      | _=>none)else none):=Eq.trans rfl rfl
@[simp ↓] theorem qKR {d:Nat} {st:St} {K:AV->St->Prop} {id:Nat} {n:Nat} {g:Bool} {a:Operand}:B1 P Γ d (.ldR id n g a) st K=Dx (Ak Γ d (.ldR id n g a) st) K ⟨⟩:=Eq.trans rfl rfl
@[simp ↓] theorem qM8 {d:Nat} {st:St} {n:Nat} {g:Bool} {a:Operand}:Ak Γ d (.ldT n g a) st=(
   match ev Γ st.env a with
    | some (.t (.ip cs k))=>some (k+n<=cs.length,.t (Jo g ((cs.drop k).take n)),st)
    | _=>none):=Eq.trans rfl rfl
@[simp ↓] theorem qKS {d:Nat} {st:St} {K:AV->St->Prop} {n:Nat} {g:Bool} {a:Operand}:B1 P Γ d (.ldT n g a) st K=Dx (Ak Γ d (.ldT n g a) st) K ⟨⟩:=Eq.trans rfl rfl
@[simp ↓] theorem qM9 {d:Nat} {st:St} {kt:KT} {zv:Value} {ok:Bool} {m:Operand} {k:Operand}:Ak Γ d (.lkT kt zv ok m k) st=(
   match ev Γ st.env k,ev Γ st.env m with
    | some (.t (.v kv)),some (.t (.mp es))=>some (kt.fits kv=true/\Nu kt es,if ok then .t (.tup [(G6 kv es).getD (Iq zv),.v (.bool (G6 kv es).isSome)])else .t ((G6 kv es).getD (Iq zv)),st)
    | _,_=>none):=Eq.trans rfl rfl
@[simp ↓] theorem qKT {d:Nat} {st:St} {K:AV->St->Prop} {kt:KT} {zv:Value} {ok:Bool} {m:Operand} {k:Operand}:B1 P Γ d (.lkT kt zv ok m k) st K=Dx (Ak Γ d (.lkT kt zv ok m k) st) K ⟨⟩:=Eq.trans rfl rfl
@[simp ↓] theorem qJE {d:Nat} {st:St} {K:AV->St->Prop} {f:FuncId} {args:List Operand}:B1 P Γ d (.call f args) st K=asK (Qi Γ st.env args) (fun as=>q5m P Γ st.hp f as (fun res=>K (.t res) st) ⟨⟩) ⟨⟩:=Eq.trans rfl rfl
@[simp ↓] theorem qHz {d:Nat} {st:St} {K:AV->St->Prop} {x:Operand} {args:List Operand}:B1 P Γ d (.callv x args) st K=fnK ((ev Γ st.env x).bind q68) (fun f cs=>asK (Qi Γ st.env args) (fun as=>q5m P Γ st.hp f (as++cs) (fun res=>K (.t res) st) ⟨⟩) ⟨⟩) ⟨⟩:=Eq.trans rfl rfl
@[simp ↓] theorem qI0 {d:Nat} {st:St} {K:AV->St->Prop} {f:FuncId} {args:List Operand} {rs:List Nat} {base:Nat}:B1 P Γ d (.hcall f args rs base) st K=asK (Qi Γ st.env args) (fun as=>rs.Nodup/\Wg P Γ st f rs base (Bv rs st.hp) (as.map (A8 (Qh rs))) K ⟨⟩) ⟨⟩:=Eq.trans rfl rfl
@[simp ↓] theorem qH3 {d:Nat} {st:St} {K:AV->St->Prop} {x:Operand} {args:List Operand} {rs:List Nat} {base:Nat}:B1 P Γ d (.hcallv x args rs base) st K=fnK ((ev Γ st.env x).bind q68) (fun f cs=>asK (Qi Γ st.env args) (fun as=>rs.Nodup/\Wg P Γ st f rs base (Bv rs st.hp) ((as++cs).map (A8 (Qh rs))) K ⟨⟩) ⟨⟩) ⟨⟩:=Eq.trans rfl rfl
@[simp ↓] theorem qH4 {d:Nat} {st:St} {K:AV->St->Prop} {f:FuncId} {args:List Operand} {base:Nat}:B1 P Γ d (.hcallW f args base) st K=asK (Qi Γ st.env args) (fun as=>∃ rs,rs.Nodup/\Wg P Γ st f rs base (Bv rs st.hp) (as.map (A8 (Qh rs))) K ⟨⟩) ⟨⟩:=Eq.trans rfl rfl
@[simp ↓] theorem qGb {d:Nat} {st:St} {K:AV->St->Prop} {x:Operand} {args:List Operand} {base:Nat}:B1 P Γ d (.hcallvW x args base) st K=fnK ((ev Γ st.env x).bind q68) (fun f cs=>asK (Qi Γ st.env args) (fun as=>∃ rs,rs.Nodup/\Wg P Γ st f rs base (Bv rs st.hp) ((as++cs).map (A8 (Qh rs))) K ⟨⟩) ⟨⟩) ⟨⟩:=Eq.trans rfl rfl
@[simp ↓] theorem qH5 {d:Nat} {st:St} {K:AV->St->Prop} {x:Operand} {args:List Operand} {base:Nat}:B1 P Γ d (.hcallB x args base) st K=fnK ((ev Γ st.env x).bind q8j) (fun f cs=>asK (Qi Γ st.env args) (fun as=>∃ rs,rs.Nodup/\Wg P Γ st f rs base (Bv rs st.hp) ((cs++as).map (A8 (Qh rs))) K ⟨⟩) ⟨⟩) ⟨⟩:=Eq.trans rfl rfl
@[simp ↓] theorem qI1 {d:Nat} {st:St} {K:AV->St->Prop} {f:FuncId} {args:List Operand} {base:Nat}:B1 P Γ d (.ncall f args base) st K=asK (Qi Γ st.env args) (fun as=>qF8 P Γ st f base (as.map (A8 (Qh []))) K ⟨⟩) ⟨⟩:=Eq.trans rfl rfl
@[simp ↓] theorem qI2 {d:Nat} {st:St} {K:AV->St->Prop} {f:FuncId} {args:List Operand}:B1 P Γ d (.callT f args) st K=asK (Qi Γ st.env args) (fun as=>q9g P Γ f as (fun res=>K (.t res) st) ⟨⟩) ⟨⟩:=Eq.trans rfl rfl
@[simp ↓] theorem qI3 {d:Nat} {st:St} {K:AV->St->Prop} {f:FuncId} {args:List Operand} {rs:List Nat}:B1 P Γ d (.rcall f args rs) st K=asK (Qi Γ st.env args) (fun as=>rs.Nodup/\(∀ i∈rs,∃ ty s es,A0 st.hp i=some (.sl ty s es))/\qF9 P Γ st f rs (Bv rs st.hp) (as.map (A8 (Qh rs))) K ⟨⟩) ⟨⟩:=Eq.trans rfl rfl
@[simp] theorem qMM {e:List (Nat×AV)} {t:Nat}:ev Γ e (.tmp t)=A0 e t:=Eq.trans rfl rfl
@[simp] theorem qLN {e:List (Nat×AV)} {v:Value}:ev Γ e (.const v)=some (Vj v):=Eq.trans rfl rfl
@[simp] theorem qKU {e:List (Nat×AV)} {g:Nat}:ev Γ e (.global g)=(Γ g).map fun cs=>.t (.ip cs 0):=Eq.trans rfl rfl
@[simp] theorem qMA {e:List (Nat×AV)} {f:FuncId}:ev Γ e (.func f)=some (.t (.fn f [])):=Eq.trans rfl rfl
@[simp] theorem qMN {e:List (Nat×AV)} {xs:List Operand}:Qi Γ e xs=Ag (xs.map (ev Γ e)):=Eq.trans rfl rfl
@[simp] theorem qJF {e:List (Nat×AV)}:G7 e none=some true:=Eq.trans rfl rfl
@[simp] theorem qJG {e:List (Nat×AV)} {g:Nat} {b:Bool}:G7 e (some (g,b))=match A0 e g with
  | some (.t (.v (.bool p)))=>some (p==b)
  | some .un=>some false
  | _=>none:=Eq.trans rfl rfl
end
attribute [simp] RO.d St.put Ag A0 params Gh.run qCr Ho q69 q59 q0g Aj Vj Iq C4 qDj unV Yv I4 Kv Ph q3F q3v lenOf qGe Jo M3 AV.cells O2 toT q01 q4p C3 Jb Dn q68 q8j St.kill Ae kill1 no0 Bd del E8 q6A q5A Bv Qh Us Jp N3 q2g Ea Uk A8 ren1 ren0 Au Cf qGx tri toN Aq Jd qBu Aw.sh xzu
end Go.Lg
namespace Go.Lg
open Go
abbrev tm (n:Nat):Operand:=.tmp n
abbrev ki (n:Int):Operand:=.const (.int .i64 n)
abbrev ku (n:Int):Operand:=.const (.int .u8 n)
abbrev kT:Operand:=.const (.bool true)
abbrev kF:Operand:=.const (.bool false)
abbrev kN:Operand:=.const (.slice none 0 0)
abbrev od (d:Nat) (io:Bt):RO:=⟨some d,io,none,none⟩
abbrev on (io:Bt):RO:=⟨none,io,none,none⟩
abbrev oz (d:Nat) (io:Bt) (r:Nat):RO:=⟨some d,io,none,some r⟩
abbrev oT (d:Nat) (io:Bt) (g:Nat):RO:=⟨some d,io,some (g,true),none⟩
abbrev oF (d:Nat) (io:Bt) (g:Nat):RO:=⟨some d,io,some (g,false),none⟩
abbrev om (d x:Nat):RO:=⟨some d,.mv (.tmp x),none,none⟩
abbrev ld (n x:Nat):Bt:=.load n false (.tmp x)
abbrev lG (n x:Nat):Bt:=.load n true (.tmp x)
abbrev ia (s x i:Nat):Bt:=.iadr s (.tmp x) (.tmp i)
abbrev fa (k x:Nat):Bt:=.fadr k (.tmp x)
abbrev le (k x:Nat):Bt:=.len k (.tmp x)
abbrev ex (x i:Nat):Bt:=.ext (.tmp x) i
abbrev kp (ks rs:List Nat):Gh:=.keep ks rs
end Go.Lg
namespace Go.Lg
open Go Go.RowKit
def Old (w:World) (b:Nat):Prop:=b<w.heap.size
def Rd (P:Program) (t:TypeId) (S:List T->Prop):Prop :=
 ∀ (H:Type) (enc:TypeId×Value->H) (w:World) (held:Bool) (fuel:Nat) (cs:List Value) (x:DataW H×List MemPlace),DataW.trod enc P w 0 (fun _=>true) held fuel t cs=some x->∃ ts,S ts/\Fp w (Old w) ts cs/\∀ u∈ts,u.one=true
theorem qCv {w:World} {a:Addr} {v:Value} (h:w.cell? a=some v):a.block<w.heap.size:=by
 unfold World.cell? at h
 split at h
 ·rename_i hb
  have:=Array.getElem?_eq_some_iff.1 hb
  exact this.1
 ·simp at h
variable {P:Program} {t e:TypeId}
theorem Fp.one1 {w:World} {X:Nat->Prop} {u:T} {v:Value} (h:TR w X u v):Fp w X [u] [v]:=Fp.cons h (Fp.nil w X)
theorem Rd.mono {S S':List T->Prop} (h:Rd P t S) (hs:∀ ts,S ts->S' ts):Rd P t S':=fun H enc w held fuel cs x hx=>by
 obtain⟨ts,h1,h2,h3⟩:=h H enc w held fuel cs x hx
 exact⟨ts,hs ts h1,h2,h3⟩
theorem qJH {k:IntKind} (ht:P.underlying t=some (.int k)):Rd P t fun ts=>∃ n,ts=[.v (.int k n)]/\(Lit.int k n).wf=true:=by
 intro H enc w held fuel cs x h
 obtain⟨n,rfl,_,hw⟩:=DataW.trod_int ht h
 exact⟨[.v (.int k n)],⟨n,rfl,hw⟩,Fp.one1 (.v _),by intro u hu;simp at hu;subst hu;rfl⟩
theorem qCw (ht:P.underlying t=some .bool):Rd P t fun ts=>∃ b,ts=[.v (.bool b)]:=by
 intro H enc w held fuel cs x h
 obtain⟨b,rfl,_⟩:=DataW.trod_bool ht h
 exact⟨[.v (.bool b)],⟨b,rfl⟩,Fp.one1 (.v _),by intro u hu;simp at hu;subst hu;rfl⟩
theorem q8s {α:Type} {Q:Nat->α->Prop}:∀ (n:Nat),(∀ i,i<n->∃ a,Q i a)->∃ l:List α,l.length=n/\∀ i a,l[i]? = some a->Q i a
 | 0,_=>⟨[],rfl,fun i a h=>by simp at h⟩
 | n+1,h=>by
  obtain⟨l,hl,hq⟩:=q8s n fun i hi=>h i (by omega)
  obtain⟨a,ha⟩:=h n (by omega)
  refine⟨l++[a],by simp[hl],fun i b hb=>?_⟩
  by_cases hi:i<n
  ·rw[xzd (by omega)]at hb;exact hq i b hb
  ·have:i=n:=by
    have:=(xqi.1 hb).1
    simp at this;omega
   subst this
   rw[xze (by omega),hl]at hb
   simp at hb;subst hb;exact ha
theorem q7B {s:Nat} {S:List T->Prop} (ht:P.underlying t=some (.slice e)) (hc:P.cellsOf e=s) (hs:0<s) (he:Rd P e S) :
  Rd P t fun ts=>∃ es cap nl,ts=[.sl es cap nl]/\es.length<=maxLen/\∀ x∈es,S x/\x.length=s:=by
 intro H enc w held fuel cs x h
 rcases DataW.trod_slice ht h with⟨rfl,_⟩|⟨a,len,cap,qLS,rest,n,rfl,rfl,_,_,hlc,hcm,hel,hat,_,_⟩
 ·exact⟨[.sl [] (some 0) (some true)],⟨[],_,_,rfl,by simp,by simp⟩,Fp.one1 (.nil _ _ none 0 (by rintro n ⟨⟩;rfl) (by rintro b ⟨⟩;rfl) (fun _=>rfl)),by intro u hu;simp at hu;subst hu;rfl⟩
 by_cases h0:len=0
 ·subst h0
  exact⟨[.sl [] none none],⟨[],_,_,rfl,by simp,by simp⟩,Fp.one1 (.nil _ _ (some a) cap (fun _ h=>by cases h) (fun _ h=>by cases h) (fun h=>by cases h)),by intro u hu;simp at hu;subst hu;rfl⟩
 obtain⟨b,off,spot⟩:=a
 obtain⟨hsp,hb⟩:spot=none/\b<w.heap.size:=by
  have h1:=hat 0 (by omega)
  rw[xqg (by omega),xqk]at h1
  obtain⟨cs',h2,h3⟩:=h1
  unfold World.cells? at h2
  rw[if_pos (Nat.zero_le _)]at h2
  have hl:=mapM_some_length h2
  simp only[List.length_range,hc]at hl
  have h4:=mapM_some_get h2 0 0 (by simp[hc,hs])
  rw[xqg (by omega)]at h4
  simp[Addr.add]at h4
  exact⟨World.cell?_spot h4,qCv h4⟩
 subst hsp
 have hadd:∀ k,(Addr.mk b off none).add k=⟨b,off+k,none⟩:=fun k=>by
  unfold Addr.add
  split
  ·rename_i h;subst h;rfl
  ·rfl
 have hadd2:∀ o k,(Addr.mk b o none).add k=⟨b,o+k,none⟩:=fun o k=>by
  unfold Addr.add
  split
  ·rename_i h;subst h;rfl
  ·rfl
 have hone:∀ i,i<len->∃ el:List T,S el/\el.length=s/\(∀ u∈el,u.one=true)/\∀ k,k<s->∃ v,w.cell? ⟨b,off+i*s+k,none⟩=some v/\∀ u,el[k]? = some u->TR w (Old w) u v:=fun i hi=>by
  have h1:=hat i hi
  rw[xqg (by omega),xqk]at h1
  obtain⟨cs',h2,h3⟩:=h1
  obtain⟨el,hS,htr,ho⟩:=he H enc w held n cs' _ h3
  unfold World.cells? at h2
  rw[if_pos (Nat.zero_le _)]at h2
  have hl:=mapM_some_length h2
  simp only[List.length_range,hc]at hl
  refine⟨el,hS,by rw[htr.1,hl],ho,fun k hk=>?_⟩
  have h4:=mapM_some_get h2 k k (by simp[hc,hk])
  rw[xqg (by omega),hadd,hadd2,hc]at h4
  exact⟨cs'[k],h4,fun u hu=>htr.2 k u _ hu (xqg (by omega))⟩
 obtain⟨es,hlen,hes⟩:=q8s len hone
 have hget:∀ i (hi:i<es.length),es[i]? = some es[i]:=fun i hi=>xqg hi
 refine⟨[.sl es none none],⟨es,none,none,rfl,by omega,fun x hx=>?_⟩,?_,by intro u hu;simp at hu;subst hu;rfl⟩
 ·obtain⟨i,hi,rfl⟩:=xqt hx
  have:=hes i _ (hget i hi)
  exact⟨this.1,this.2.1⟩
 ·rw[<- hlen]
  refine Fp.one1 (.sl es none none s b off cap (fun i k=>(w.cell? ⟨b,off+i*s+k,none⟩).getD .nilFunc) ?_ ?_ ?_ ?_ hb (by omega) (fun _ h=>by cases h) (fun _ h=>by cases h))
  ·intro i k hi hk
   obtain⟨v,hv,_⟩:=(hes i _ (hget i hi)).2.2.2 k hk
   simp[hv]
  ·intro i el hi
   exact(hes i _ hi).2.1
  ·intro i k el u hi hu
   have hq:=hes i _ hi
   have hk:k<s:=by rw[<- hq.2.1];exact(xqi.1 hu).1
   obtain⟨v,hv,hr⟩:=hq.2.2.2 k hk
   simp only[hv,xzy]
   exact hr u hu
  ·intro i k el u hi hu
   exact(hes i _ hi).2.2.1 u (xqp hu)
def q5n:List (Nat×(List T->Prop))->List T->Prop
 | [],ts=>ts=[]
 | (_,S)::l,ts=>∃ a b,ts=a++b/\S a/\q5n l b
inductive qFC (P:Program):Nat->List Field->List (Nat×(List T->Prop))->Prop
 | nil (o:Nat):qFC P o [] []
 | cons {o n:Nat} {f:Field} {S:List T->Prop} {fl:List Field} {l:List (Nat×(List T->Prop))} (h1:f.offset=o) (h2:P.cellsOf f.type=n) (h3:Rd P f.type S) (h:qFC P (o+n) fl l):qFC P o (f::fl) ((n,S)::l)
def qAc:List (Nat×(List T->Prop))->Nat
 | []=>0
 | (n,_)::l=>n+qAc l
theorem q8t {H:Type} {enc:TypeId×Value->H} {w:World} {held:Bool} {m:Nat} {cs:List Value}:∀ {fl:List Field} {l:List (Nat×(List T->Prop))} {o:Nat},qFC P o fl l->(∀ f∈fl,∃ x,DataW.trod enc P w 0 (fun _=>true) held m f.type ((cs.drop f.offset).take (P.cellsOf f.type))=some x)->cs.length=o+qAc l ->
  ∃ ts,q5n l ts/\Fp w (Old w) ts (cs.drop o)/\∀ u∈ts,u.one=true
 | _,_,o,.nil _,_,hl=>⟨[],rfl,by rw[xq2 (by simp[qAc]at hl;omega)];exact Fp.nil w _,by simp⟩
 | _,_,o,.cons (n:=n) (f:=f) (S:=S) (l:=l) h1 h2 h3 h,hx,hl=>by
  obtain⟨x,hx0⟩:=hx f xqh
  rw[h1,h2]at hx0
  obtain⟨a,ha,hta,hoa⟩:=h3 H enc w held m _ _ hx0
  obtain⟨b,hb,htb,hob⟩:=q8t h (fun g hg=>hx g (xqf _ hg)) (by simp only[qAc]at hl;omega)
  refine⟨a++b,⟨a,b,rfl,ha,hb⟩,?_,fun u hu=>?_⟩
  ·have:=hta.append htb
   rwa [<- List.drop_drop,List.take_append_drop]at this
  ·rcases xzg.1 hu with hu|hu
   ·exact hoa u hu
   ·exact hob u hu
theorem q5D {fs:Array Field} {l:List (Nat×(List T->Prop))} (ht:P.underlying t=some (.struct fs)) (hc:P.cellsOf t=qAc l) (hf:qFC P 0 fs.toList l):Rd P t (q5n l):=by
 intro H enc w held fuel cs x h
 obtain⟨xs,m,rfl,rfl,hcl,hn,hat⟩:=DataW.trod_struct ht h
 have:=q8t (enc:=enc) (w:=w) (held:=held) (m:=m) (cs:=cs) hf (fun f hf'=>by
  obtain⟨i,hi,rfl⟩:=xqt hf'
  have:=hat i fs.toList[i] (by simp at hi;simp[hi])
  rw[xqg (by simp at hi;omega)]at this
  exact⟨_,this⟩) (by omega)
 simpa using this
theorem qAd {H:Type} {enc:TypeId×Value->H} {w:World} {held:Bool} {m s:Nat} {S:List T->Prop} (he:Rd P e S) (hs:P.cellsOf e=s):∀ (n:Nat) (cs:List Value),(∀ i,i<n->∃ x,DataW.trod enc P w 0 (fun _=>true) held m e ((cs.drop (i*s)).take s)=some x)->cs.length=n*s ->
  ∃ ts,q5n (List.replicate n (s,S)) ts/\Fp w (Old w) ts cs/\∀ u∈ts,u.one=true
 | 0,cs,_,hl=>⟨[],rfl,by have h0:cs=[]:=xqo (by simpa using hl);rw[h0];exact Fp.nil w _,by simp⟩
 | n+1,cs,hx,hl=>by
  obtain⟨x,hx0⟩:=hx 0 (by omega)
  simp only[Nat.zero_mul,xzt]at hx0
  obtain⟨a,ha,hta,hoa⟩:=he H enc w held m _ _ hx0
  have hl':cs.length=n*s+s:=by rw[hl,Nat.add_mul,Nat.one_mul]
  obtain⟨b,hb,htb,hob⟩:=qAd he hs n (cs.drop s) (fun i hi=>by
   obtain⟨x,hx1⟩:=hx (i+1) (by omega)
   rw[Nat.add_mul,Nat.one_mul,Nat.add_comm (i*s)]at hx1
   exact⟨x,by rw[List.drop_drop];exact hx1⟩) (by simp;omega)
  refine⟨a++b,⟨a,b,rfl,ha,hb⟩,?_,fun u hu=>?_⟩
  ·have:=hta.append htb
   rwa [List.take_append_drop]at this
  ·rcases xzg.1 hu with hu|hu
   ·exact hoa u hu
   ·exact hob u hu
theorem q7C {n s:Nat} {S:List T->Prop} (ht:P.underlying t=some (.array n e)) (hs:P.cellsOf e=s) (hc:P.cellsOf t=n*s) (he:Rd P e S):Rd P t (q5n (List.replicate n (s,S))):=by
 intro H enc w held fuel cs x h
 obtain⟨xs,m,rfl,rfl,hcl,hn,hat⟩:=DataW.trod_array ht h
 refine qAd (enc:=enc) (held:=held) (m:=m) he hs n cs (fun i hi=>?_) (by omega)
 have:=hat i hi
 rw[hs,xqg (by omega)]at this
 exact⟨_,this⟩
theorem qFD {w:World} {X:Nat->Prop} {ts:List T} {cs:Array Value} (h:Fp w X ts cs.toList) (ho:∀ u∈ts,u.one=true):TR w X (.agg ts) (.agg cs):=by
 have:cs=cs.toList.toArray:=by simp
 rw[this]
 exact .agg ts cs.toList h.1 (fun k u hk=>ho u (xqp hk)) h.2
theorem qBw {H:Type} {enc:TypeId×Value->H} {w:World} {base:Nat} {sp:Nat->Bool} {held:Bool} {fuel:Nat} {n:Nat} {q:TypeId} {k:IntKind} {cs:List Value} {l:List (Int×Int)} {p:List MemPlace}
  (ht:P.underlying t=some (.array n e)) (he:P.underlying e=some (.array 2 q)) (hq:P.underlying q=some (.int k)) (hcq:P.cellsOf q=1) (hce:P.cellsOf e=2) (hct:P.cellsOf t=n*2)
  (h:DataW.trod enc P w base sp held fuel t cs=some (.agg (l.map fun x=>.agg [.lit (.int k x.1),.lit (.int k x.2)]),p)):cs=l.flatMap fun x=>[.int k x.1,.int k x.2]:=by
 obtain⟨xs,m,rfl,hx,hcl,hn,hat⟩:=DataW.trod_array ht h
 simp only[xqd,DataW.agg.injEq]at hx
 have hxs:=hx.1
 have hl:l.length=n:=by have:=congrArg List.length hxs;simp at this;omega
 have hi:∀ i (h:i<l.length),(cs.drop (i*2)).take 2=[.int k l[i].1,.int k l[i].2]:=fun i hi=>by
  have h1:=hat i (by omega)
  rw[hce,xqg (by omega)]at h1
  have h2:xs[i].1=.agg [.lit (.int k l[i].1),.lit (.int k l[i].2)]:=by
   have:=congrArg (fun z=>z[i]?) hxs
   simp only[xqr,xqg hi,xqg (show i<xs.length by omega),xql,xqa]at this
   exact this.symm
  have h3:xs[i]=(.agg [.lit (.int k l[i].1),.lit (.int k l[i].2)],xs[i].2):=by rw[<- h2]
  rw[h3]at h1
  exact Lib.cells_of_tab (zs:=[l[i].1,l[i].2]) he hq hcq hce h1
 have hcl':cs.length=l.length*2:=by omega
 clear h hat hx hxs hcl hn hct ht hl
 induction l generalizing cs with
 | nil=>exact xqo (by simpa using hcl')
 | cons x l ih =>
  have h0:=hi 0 (by simp)
  simp only[Nat.zero_mul,xzt,List.getElem_cons_zero]at h0
  have hr:=ih (cs:=cs.drop 2) (fun i h=>by
   have:=hi (i+1) (by simpa using h)
   rw[Nat.add_mul,Nat.one_mul,Nat.add_comm (i*2)]at this
   simpa[List.drop_drop]using this) (by simp at hcl' ⊢;omega)
  rw[List.flatMap_cons,<- h0,<- hr,List.take_append_drop]
theorem q2i {H:Type} {enc:TypeId×Value->H} {W W':World} (hl:laidOutB P=true) (hb:Below W.heap.size W W'):∀ {ts:List TypeId} {vs:List Value} {ds:List (DataW H)} {p:List MemPlace},(∀ t∈ts,P.readableRec t=true/\t<P.types.size)->DataW.TrodAll enc P W 0 (fun _=>true) true ts vs ds p->(∀ x∈p,x.block<W.heap.size)->DataW.TrodAll enc P W' 0 (fun b=>decide (b<W.heap.size)) true ts vs ds p
 | [],[],[],_,_,h,_=>h
 | [],[],_::_,_,_,h,_=>h.elim
 | [],_::_,_,_,_,h,_=>by cases h
 | _::_,[],_,_,_,h,_=>by cases h
 | _::_,_::_,[],_,_,h,_=>by cases h
 | t::ts,v::vs,d::ds,_,hr,h,hlt=>by
  obtain⟨p1,q1,h1,h2,rfl⟩:=h
  have hr0:=hr t xqh
  exact⟨p1,q1,Below.trod hl hr0.1 hr0.2 h1 hb (fun x hx=>hlt x (List.mem_append_left _ hx)),q2i hl hb (fun t' ht=>hr t' (xqf _ ht)) h2 (fun x hx=>hlt x (List.mem_append_right _ hx)),rfl⟩
theorem qLO {H:Type} {enc:TypeId×Value->H} {f:Func} {s:ChangeSpec} {W W':World} {args:Array Value} {ds gs:List (DataW H)} {before:List MemPlace} {tb:TypeId}
  (hl:laidOutB P=true) (hr:∀ t∈f.params.toList,P.readableRec t=true/\t<P.types.size) (hv:s.vars=[]) (hres:f.resultTypes=#[tb]) (htb:P.underlying tb=some .bool)
  (hW:DataW.Whole enc P f.params.toList s.vars false W args.toList ds gs before) (hfn:(s.fn H (ds++gs)).results=[.lit (.bool true)]) (hfa:(s.fn H (ds++gs)).args=ds) (hfv:(s.fn H (ds++gs)).vars=[]) (hb:Below W.heap.size W W') :
  s.post enc P f false true false false W args (.bool true) W':=by
 have hW':=hW
 obtain⟨p,q,hA,hV,rfl,_,_⟩:=hW
 have hlt:∀ x∈p++q,x.block<W.heap.size:=fun x hx=>by simpa using hW'.lt x hx
 have hargs:=q2i hl hb hr hA (fun x hx=>hlt x (List.mem_append_left _ hx))
 rw[hv]at hV
 obtain⟨rfl,rfl⟩:=ChangeShapes.trodVars_none hV
 refine⟨ds,[],p++[],[],p,[],hW',?_,?_,?_,hb.frame _,fun h=>by cases h⟩
 ·rw[hfn,hres]
  exact ChangeShapes.trodAll_mk1 (RowKit.shut_bool htb _)
 ·rw[hfa];exact hargs
 ·rw[hv,hfv];rfl
theorem qKV {Γ:Tables} {f:FuncId} {N n:Nat} {ic:IC} {rvs:List RV} {args:List T} {W:World} {vs:List Value} (hc:Bc P f ic N n rvs=true) (h:B9 P Γ f args (.v (.bool true))) (hg:Gl Γ W (Old W)) (ha:Fp W (Old W) args vs) :
  Calls P f vs.toArray W fun e W'=>e=.returned (.bool true)/\Below W.heap.size W W':=by
 rcases h W (Old W) vs hg (fun b hb=>hb) ha with⟨_,h2⟩|⟨v,h1,_⟩
 ·refine h2.mono fun e W' ⟨v,he,hb,hr⟩=>?_
  cases hr
  exact⟨he,hb⟩
 ·rw[q1M hc]at h1
  cases h1
end Go.Lg
