/- THE LOGIC, part 22: regions in the order of the text are sound. Conditions: none. -/
import Derived.Test.YtjhbkddcmcfpaaaGreatDoorPkB
import Derived.Orders
import Derived.Scope
import Derived.RangeFuncCalls
import Derived.OrdersIn
import Derived.TacticsIn
set_option linter.unusedSimpArgs false
set_option linter.unusedVariables false
namespace Go.Lg
open Go
def Zg (P:Program) (Γ:Tables) (hp:List (Nat×Aj)) (f:FuncId) (as:List AV) (res:T):Prop :=
 (∃ ts,Ac (as.map toT)=some ts/\An P Γ f ts res)\/∃ ts,Ac (as.map (Aq hp 4))=some ts/\A6 P Γ f ts res
def q0n:AV->Option (FuncId×List AV)
 | .t (.fn f cs)=>some (f,cs.map .t)
 | .fn f cs=>if f<1000000000 then some (f,cs)else none
 | _=>none
def q75:AV->Option (FuncId×List AV)
 | .fn f cs=>if f<1000000000 then none else some (f-1000000000,cs)
 | _=>none
def C9 (P:Program) (Γ:Tables) (d:Nat) (io:B6) (st:St) (r:AV) (st1:St):Prop :=
 match io with
 | .call f args=>∃ as res,Ip Γ st.env args=some as/\Zg P Γ st.hp f as res/\r=.t res/\st1=st
 | .callv x args=>∃ a f cs as res,ev Γ st.env x=some a/\q0n a=some (f,cs)/\Ip Γ st.env args=some as/\Zg P Γ st.hp f (as++cs) res/\r=.t res/\st1=st
 | .hcall f args rs base=>∃ as res hp',Ip Γ st.env args=some as/\rs.Nodup/\Bl P Γ f (Ba rs st.hp) (as.map (Ag (Uc rs))) res hp'/\Qf rs base st.hp hp'/\r=Ag (fun i=>some (P2 rs base i)) res/\st1=C6 rs base hp' st
 | .hcallv x args rs base=>∃ a f cs as res hp',ev Γ st.env x=some a/\q0n a=some (f,cs)/\Ip Γ st.env args=some as/\rs.Nodup/\Bl P Γ f (Ba rs st.hp) ((as++cs).map (Ag (Uc rs))) res hp'/\Qf rs base st.hp hp'/\r=Ag (fun i=>some (P2 rs base i)) res/\st1=C6 rs base hp' st
 | .hcallW f args base=>∃ rs as res hp',Ip Γ st.env args=some as/\rs.Nodup/\Bl P Γ f (Ba rs st.hp) (as.map (Ag (Uc rs))) res hp'/\Qf rs base st.hp hp'/\r=Ag (fun i=>some (P2 rs base i)) res/\st1=C6 rs base hp' st
 | .hcallvW x args base=>∃ rs a f cs as res hp',ev Γ st.env x=some a/\q0n a=some (f,cs)/\Ip Γ st.env args=some as/\rs.Nodup/\Bl P Γ f (Ba rs st.hp) ((as++cs).map (Ag (Uc rs))) res hp'/\Qf rs base st.hp hp'/\r=Ag (fun i=>some (P2 rs base i)) res/\st1=C6 rs base hp' st
 | .hcallB x args base=>∃ rs a f cs as res hp',ev Γ st.env x=some a/\q75 a=some (f,cs)/\Ip Γ st.env args=some as/\rs.Nodup/\Bl P Γ f (Ba rs st.hp) ((cs++as).map (Ag (Uc rs))) res hp'/\Qf rs base st.hp hp'/\r=Ag (fun i=>some (P2 rs base i)) res/\st1=C6 rs base hp' st
 | .ncall f args base=>∃ as res hp',Ip Γ st.env args=some as/\Bl P Γ f [] (as.map (Ag (Uc []))) res hp'/\Qf [] base st.hp hp'/\r=Ag (fun i=>some (P2 [] base i)) res/\st1=⟨st.env,Fo [] base hp'++st.hp⟩
 | .callT f args=>∃ as ts res,Ip Γ st.env args=some as/\Ac (as.map toT)=some ts/\(An P Γ f ts res\/A6 P Γ f ts res)/\r=.t res/\st1=st
 | .rcall f args rs=>∃ as res,Ip Γ st.env args=some as/\rs.Nodup/\(∀ i∈rs,∃ ty s es,A2 st.hp i=some (.sl ty s es))/\Bl P Γ f (Ba rs st.hp) (as.map (Ag (Uc rs))) res (Ba rs st.hp)/\r=Ag (fun i=>some (P2 rs 0 i)) res/\st1=st
 | io=>∃ c,A7 Γ d io st=some (c,r,st1)/\c
def D4 (env:List (Nat×AV)):Option (Nat×Bool)->Option Bool
 | none=>some true
 | some (g,b)=>match A2 env g with
  | some (.t (.v (.bool p)))=>some (p==b)
  | some .un=>some false
  | _=>none
def Bt (P:Program) (Γ:Tables) (ro:RO) (st st2:St):Prop :=
 (D4 st.env ro.guard=some true/\∃ r st1,C9 P Γ ro.d ro.op st r st1/\st2=st1.put ro.dst r)\/(D4 st.env ro.guard=some false/\st2=st.put ro.dst .un)
def Lx (P:Program) (Γ:Tables):List RO->St->St->Prop
 | [],st,st2=>st2=st
 | ro::ros,st,st2=>∃ st1,Bt P Γ ro st st1/\Lx P Γ ros st1 st2
def q3B (P:Program) (N:Nat) (ops:List Oper) (ro:RO) (o:Oper):Bool :=
 decide (ro.dst=o.dst)&&Iy P ro.op o.op&&ro.op.opds.all A9&&(match ro.dst with|some d=>decide (d<N)|none=>true)&&decide (ro.d<1000000) &&
 match ro.guard,o.guard with
 | none,none=>true
 | some (g,b),some (j,b')=>b==b' && decide ((ops[j]?).bind (·.dst)=some g)
 | _,_=>false
def dfr (tm:Array Value) (t:Nat):Deferred:=if 1000000000<=t then⟨.collected (t-1000000000),#[]⟩else match tm.getD t undef with
 | .func fn first cap=>⟨.fn fn cap,first⟩
 | _=>⟨.nil,#[]⟩
def noD (L:List Nat) (ros:List RO):Bool:=ros.all fun ro=>match ro.dst with|some d=>!L.contains d|none=>true
def G3 (L:List Nat) (Γ:Tables) (w0:World) (B:Nat) (κ:Be) (X0:Nat->Prop) (N:Nat) (st:St) (a:Act) (w:World):Prop :=
 ∃ X μ,B0 w0 B κ X μ st a.tmps w/\Gl Γ w X/\(∀ b,X0 b->X b)/\(∀ b,X b->X0 b\/B<=b\/∃ id n,κ id=some (b,n))/\a.tmps.size=N/\a.defers=L.map (dfr a.tmps)
abbrev Inv:=G3 []
theorem q7u {ros:List RO}:noD [] ros=true:=by
 unfold noD;rw[List.all_eq_true];intro ro _;cases ro.dst<;>rfl
theorem qFU {L:List Nat} {ros:List RO} (h:noD L ros=true) {ro:RO} (hr:ro∈ros):∀ t,ro.dst=some t->t∉L:=fun t ht=>by
 have:=List.all_eq_true.1 h ro hr
 rw[ht]at this;simpa using this
section
variable {P:Program} {Γ:Tables} {w0:World} {B:Nat} {κ:Be} {X0 X:Nat->Prop} {μ:Be} {st st1:St} {tm:Array Value} {w:World} {N:Nat} {a:Act} {o:Oper} {K:Act->World->Prop} {Q:Exit->Act->World->Prop} {L:List Nat}
theorem q2C (a:Act):a.eval=Act.eval ⟨a.tmps,[]⟩:=by funext x;cases x<;>rfl
theorem q3C (h:B0 w0 B κ X μ st a.tmps w) (hsz:a.tmps.size=N) (hds:a.defers=L.map (dfr a.tmps)) {d:Option Nat} (hd:∀ t,d=some t->t<N/\t∉L) {r:AV} {v:Value} (hv:AR w X μ st.sh r v):B0 w0 B κ X μ (st.put d r) (a.put d v).tmps w/\(a.put d v).tmps.size=N/\(a.put d v).defers=L.map (dfr (a.put d v).tmps):=by
 cases d with
 | none=>exact⟨h,hsz,hds⟩
 | some t =>
  refine⟨h.put (by rw[hsz];exact(hd t rfl).1) hv,by simp[Act.put,hsz],?_⟩
  show a.defers=_
  rw[hds]
  refine List.map_congr_left fun q hq=>?_
  have hne:¬ t=q:=fun e=>(hd t rfl).2 (e ▸ hq)
  show dfr a.tmps q=dfr (a.tmps.setIfInBounds t v) q
  simp only[dfr,Array.getD_eq_getD_getElem?,Array.getElem?_setIfInBounds,hne,if_false]
theorem Xs {hp:List (Nat×Aj)}:∀ {as:List AV} {xs:List Value} {ts:List T},Gf w X μ st.sh as xs->Ac (as.map toT)=some ts->Ds w X ts xs
 | [],xs,ts,h,ho=>by
  simp only[List.map_nil,Ac,Option.some.injEq]at ho
  subst ho;rw[h.nil_inv];exact Ds.nil _ _
 | c::cs,xs,ts,h,ho=>by
  obtain⟨x,ys,rfl,hx,hs⟩:=h.cons_inv
  simp only[List.map_cons]at ho
  cases hc:toT c with
  | none=>rw[hc]at ho;simp[Ac]at ho
  | some t =>
   rw[hc]at ho
   simp only[Ac,Option.map_eq_some_iff]at ho
   obtain⟨ts',ho',rfl⟩:=ho
   exact Ds.cons (q51 hx hc) (Xs (hp:=hp) hs ho')
theorem q76 {f:FuncId} {as:List AV} {xs:List Value} {res:T} (h:B0 w0 B κ X μ st tm w) (hg:Gl Γ w X) (has:Gf w X μ st.sh as xs) (hc:Zg P Γ st.hp f as res) :
  Vh P f xs.toArray w fun v w'=>RowKit.Below w.heap.size w w'/\TR w' (fun b=>X b\/(w.heap.size<=b/\b<w'.heap.size)) res v:=by
 rcases hc with⟨ts,hts,hp⟩|⟨ts,hts,hp⟩
 ·exact hp w X xs hg h.xlt (Xs (hp:=st.hp) has hts)
 ·have h1:=Lu has (fun c _ t x hc hf=>q5A h 4 hc hf) hts
  refine(hp w (fun b=>X b\/q7t st μ b) xs (hg.mono (fun _ _=>rfl) (fun _ hb=>.inl hb)) (fun b hb=>?_) h1).mono fun v w' ⟨hb,ht⟩=>⟨hb,ht.mono (fun _ _=>rfl) (fun _ hb=>.inr hb)⟩
  rcases hb with hb|⟨id,n,hi,hm⟩
  ·exact h.xlt b hb
  ·exact(h.loc id b n hi hm).2.1
theorem qAB {f:FuncId} {as:List AV} {ts:List T} {xs:List Value} {res:T} (h:B0 w0 B κ X μ st tm w) (hg:Gl Γ w X) (has:Gf w X μ st.sh as xs) (hts:Ac (as.map toT)=some ts) (hc:An P Γ f ts res\/A6 P Γ f ts res) :
  Vh P f xs.toArray w fun v w'=>RowKit.Below w.heap.size w w'/\TR w' (fun b=>X b\/(w.heap.size<=b/\b<w'.heap.size)) res v:=by
 rcases hc with hp|hp
 ·exact hp w X xs hg h.xlt (Xs (hp:=st.hp) has hts)
 ·exact(hp w X xs hg h.xlt (Xs (hp:=st.hp) has hts)).mono fun v w' ⟨hb,ht⟩=>⟨hb,ht.mono (fun _ _=>rfl) (fun _ hb=>.inr hb)⟩
theorem qAC {f:FuncId} {xs:List Value} {res:T} (hsim:B0 w0 B κ X μ st a.tmps w) (hg:Gl Γ w X) (h0:∀ b,X0 b->X b) (hbd:∀ b,X b->X0 b\/B<=b\/∃ id n,κ id=some (b,n)) (hsz:a.tmps.size=N) (hds:a.defers=L.map (dfr a.tmps)) (hd:∀ t,o.dst=some t->t<N/\t∉L)
  (hrun:(execOp a.eval o).run P w=(callFunc f xs.toArray).run P w)
  (hr:Vh P f xs.toArray w fun v w'=>RowKit.Below w.heap.size w w'/\TR w' (fun b=>X b\/(w.heap.size<=b/\b<w'.heap.size)) res v)
  (hK:∀ a' w',G3 L Γ w0 B κ X0 N (st.put o.dst (.t res)) a' w'->K a' w'):o.wp P a w K Q:=by
 have fin:∀ v w',RowKit.Below w.heap.size w w'->TR w' (fun b=>X b\/(w.heap.size<=b/\b<w'.heap.size)) res v->K (a.put o.dst v) w':=by
  intro v w' hb ht
  have hs2:=hsim.grow (X':=fun b=>X b\/(w.heap.size<=b/\b<w'.heap.size)) hb (fun _ hx=>.inl hx) (fun _ hx=>hx)
  obtain⟨h1,h2,h3⟩:=q3C hs2 hsz hds hd (AR.t _ _ ht)
  refine hK _ _ ⟨_,_,h1,hg.mono (fun b hx=>hb.block b (hsim.xlt b hx)) (fun _ hx=>.inl hx),fun b hx=>.inl (h0 b hx),fun b hx=>?_,h2,h3⟩
  rcases hx with hx|hx
  ·exact hbd b hx
  ·exact .inr (.inl (Nat.le_trans hsim.size hx.1))
 unfold Oper.wp
 rcases hr with⟨hr1,hr2⟩|⟨v,hr1,hb,ht⟩
 ·rw[hrun,hr1,Oper.upon_enter]
  exact hr2.mono fun e w' ⟨v,he,hb,ht⟩=>by subst he;exact fin v w' hb ht
 ·rw[hrun,hr1,Oper.upon_value]
  exact fin v w hb ht
theorem S1 {f:FuncId} {as:List AV} {xs:List Value} {rs:List Nat} {base:Nat} {res:AV} {hp':List (Nat×Aj)} (hsim:B0 w0 B κ X μ st a.tmps w) (hg:Gl Γ w X) (h0:∀ b,X0 b->X b) (hbd:∀ b,X b->X0 b\/B<=b\/∃ id n,κ id=some (b,n)) (hsz:a.tmps.size=N) (hds:a.defers=L.map (dfr a.tmps)) (hd:∀ t,o.dst=some t->t<N/\t∉L)
  (hars:Gf w X μ st.sh as xs) (hnd:rs.Nodup) (hcall:Bl P Γ f (Ba rs st.hp) (as.map (Ag (Uc rs))) res hp') (hokB:Qf rs base st.hp hp') (hrun:(execOp a.eval o).run P w=(callFunc f xs.toArray).run P w)
  (hK:∀ a' w',G3 L Γ w0 B κ X0 N ((C6 rs base hp' st).put o.dst (Ag (fun i=>some (P2 rs base i)) res)) a' w'->K a' w'):o.wp P a w K Q:=by
 have hr:=hcall w X (Gm μ st rs) xs hg (fun id hi=>by
  cases hk:Gm μ st rs id with
  | none=>exact absurd hk hi
  | some l =>
   unfold Gm at hk
   split at hk
   ·rename_i hc
    have e0:=q2B hc.2.1
    have hm:rs.getD (id-1000000) 0∈rs:=by rw[e0];exact List.getElem_mem _
    have hidx:rs.idxOf (rs.getD (id-1000000) 0)=id-1000000:=by rw[e0,hnd.idxOf_getElem]
    obtain⟨q,hq⟩:∃ q,st.sh (rs.getD (id-1000000) 0)=some q:=by
     cases he:st.sh (rs.getD (id-1000000) 0) with
     | none=>exact absurd he hc.2.2
     | some q=>exact⟨q,rfl⟩
    have:=Uj hm hq
    rw[hidx]at this
    have e:1000000+(id-1000000)=id:=by have:=hc.1;omega
    rw[e]at this
    intro hn
    simp only[St.sh,hn,Option.map_none,reduceCtorEq]at this
   ·cases hk) (hsim.hand rs) (W5 hsim hars)
 have fin:∀ v w',(∃ X' μ',B0 w w.heap.size (Gm μ st rs) X' μ' ⟨[],hp'⟩ #[] w'/\AR w' X' μ' (St.sh ⟨[],hp'⟩) res v/\(∀ b,X b->X' b)/\(∀ b,X' b->X b\/w.heap.size<=b\/∃ id n,Gm μ st rs id=some (b,n)))->K (a.put o.dst v) w':=by
  rintro v w' ⟨X',μ',hs',hav,hX,hX'⟩
  obtain⟨hs2,hsame,hbw⟩:=hsim.back hnd hs' hokB hX hX'
  obtain⟨h1,h2,h3⟩:=q3C hs2 hsz hds hd (hav.ren (φ:=fun i=>some (P2 rs base i)) fun i j q hj hs=>by simp only[Option.some.injEq]at hj;subst hj;exact hbw i q hs)
  refine hK _ _ ⟨X',_,h1,hg.mono hsame hX,fun b hb=>hX b (h0 b hb),fun b hb=>?_,h2,h3⟩
  rcases hX' b hb with hb|hb|⟨id,n,hk⟩
  ·exact hbd b hb
  ·exact .inr (.inl (Nat.le_trans hsim.size hb))
  ·obtain⟨t',h8,h9,h10⟩:=D2 hk
   rcases Nat.lt_or_ge b B with hlt|hge
   ·obtain⟨id',n',hq⟩:=(hsim.loc t' b n h9 h10).2.2 hlt
    exact .inr (.inr ⟨id',n',hq⟩)
   ·exact .inr (.inl hge)
 unfold Oper.wp
 rcases hr with⟨hr1,hr2⟩|⟨v,hr1,hp⟩
 ·rw[hrun,hr1,Oper.upon_enter]
  exact hr2.mono fun e w' ⟨v,he,hp⟩=>by subst he;exact fin v w' hp
 ·rw[hrun,hr1,Oper.upon_value]
  exact fin v w hp
theorem q7v {av:AV} {f:FuncId} {cs:List AV} {v:Value} (hfn:q0n av=some (f,cs)) (harx:AR w X μ st.sh av v):∃ ys:List Value,v=.func (.func f) #[] ys.toArray/\Gf w X μ st.sh cs ys:=by
 unfold q0n at hfn
 split at hfn
 ·simp only[Option.some.injEq,Prod.mk.injEq]at hfn
  obtain⟨rfl,rfl⟩:=hfn
  cases harx.t_inv with
  | fn f cs xs hlen hrel=>exact⟨xs,rfl,Gf.ofT ⟨hlen,hrel⟩⟩
 ·split at hfn
  case isFalse=>cases hfn
  rename_i hlt
  simp only[Option.some.injEq,Prod.mk.injEq]at hfn
  obtain⟨rfl,rfl⟩:=hfn
  cases harx with
  | fn f cs xs hlen hrel=>exact⟨xs,q31 hlt,hlen,hrel⟩
 ·cases hfn
theorem qFV {av:AV} {f:FuncId} {cs:List AV} {v:Value} (hfn:q75 av=some (f,cs)) (harx:AR w X μ st.sh av v):∃ ys:List Value,v=.func (.func f) ys.toArray #[]/\Gf w X μ st.sh cs ys:=by
 unfold q75 at hfn
 split at hfn
 ·split at hfn
  case isTrue=>cases hfn
  rename_i hlt
  simp only[Option.some.injEq,Prod.mk.injEq]at hfn
  obtain⟨rfl,rfl⟩:=hfn
  cases harx with
  | fn f cs xs hlen hrel=>exact⟨xs,if_neg hlt,hlen,hrel⟩
 ·cases hfn
theorem q5D {f:FuncId} {args:List Operand} (hds:a.defers=L.map (dfr a.tmps)) (hch:(match o.op with | .call c=>(match c.callee with | .value (.func f')=>f==f' && Mc args c.args.toList|_=>false)|_=>false)=true) :
  (execOp a.eval o).run P w=(callFunc f (args.map (Act.eval ⟨a.tmps,[]⟩)).toArray).run P w:=by
 have hae:a.eval=Act.eval ⟨a.tmps,[]⟩:=q2C a
 generalize hoo:o.op=op at hch
 split at hch
 case h_2=>cases hch
 split at hch
 case h_2=>cases hch
 rename_i c f' hcal
 simp only[Bool.and_eq_true]at hch
 have hf:f=f':=by simpa using hch.1
 subst hf
 have:=Ib hch.2;subst this
 rw[hae]
 rw[<- Array.toList_map,Array.toArray_toList]
 simp[execOp,hoo,resolve,hcal,Deferred.ofValue,Act.eval,invoke]
theorem q77 {f:FuncId} {x:Operand} {args:List Operand} {ys:List Value} (hds:a.defers=L.map (dfr a.tmps)) (hy:Act.eval ⟨a.tmps,[]⟩ x=.func (.func f) #[] ys.toArray) (hch:(match o.op with | .call c=>(match c.callee with | .value y=>Av x y&&Mc args c.args.toList|_=>false)|_=>false)=true) :
  (execOp a.eval o).run P w=(callFunc f (args.map (Act.eval ⟨a.tmps,[]⟩)++ys).toArray).run P w:=by
 have hae:a.eval=Act.eval ⟨a.tmps,[]⟩:=q2C a
 generalize hoo:o.op=op at hch
 split at hch
 case h_2=>cases hch
 split at hch
 case h_2=>cases hch
 rename_i cc c y hcal
 simp only[Bool.and_eq_true]at hch
 have:=A8 hch.1;subst this
 have:=Ib hch.2;subst this
 rw[hae]
 rw[show(List.map (Act.eval ⟨a.tmps,[]⟩) cc.args.toList++ys).toArray=cc.args.map (Act.eval ⟨a.tmps,[]⟩)++ys.toArray from by simp]
 simp[execOp,hoo,resolve,hcal,Deferred.ofValue,hy,invoke]
theorem qAD {f:FuncId} {x:Operand} {args:List Operand} {ys:List Value} (hds:a.defers=L.map (dfr a.tmps)) (hy:Act.eval ⟨a.tmps,[]⟩ x=.func (.func f) ys.toArray #[]) (hch:(match o.op with | .call c=>(match c.callee with | .value y=>Av x y&&Mc args c.args.toList|_=>false)|_=>false)=true) :
  (execOp a.eval o).run P w=(callFunc f (ys++args.map (Act.eval ⟨a.tmps,[]⟩)).toArray).run P w:=by
 have hae:a.eval=Act.eval ⟨a.tmps,[]⟩:=q2C a
 generalize hoo:o.op=op at hch
 split at hch
 case h_2=>cases hch
 split at hch
 case h_2=>cases hch
 rename_i cc c y hcal
 simp only[Bool.and_eq_true]at hch
 have:=A8 hch.1;subst this
 have:=Ib hch.2;subst this
 rw[hae]
 rw[show(ys++List.map (Act.eval ⟨a.tmps,[]⟩) cc.args.toList).toArray=ys.toArray++cc.args.map (Act.eval ⟨a.tmps,[]⟩) from by simp]
 simp[execOp,hoo,resolve,hcal,Deferred.ofValue,hy,invoke]
theorem qAE {ro:RO} {ops:List Oper} {r:AV} (hI:G3 L Γ w0 B κ X0 N st a w) (hN:N<=1000000) (hchk:q3B P N ops ro o=true) (hx:C9 P Γ ro.d ro.op st r st1) (hK:∀ a' w',G3 L Γ w0 B κ X0 N (st1.put ro.dst r) a' w'->K a' w') (hL:∀ t,ro.dst=some t->t∉L:=by simp):o.wp P a w K Q:=by
 obtain⟨X,μ,hsim,hg,h0,hbd,hsz,hds⟩:=hI
 simp only[q3B,Bool.and_eq_true,decide_eq_true_eq]at hchk
 obtain⟨⟨⟨⟨⟨hdst,hch⟩,hok⟩,hdn⟩,hd1⟩,_⟩:=hchk
 have hd:∀ t,o.dst=some t->t<N/\t∉L:=fun t ht=>by
  rw[<- hdst]at ht
  refine⟨?_,hL t ht⟩
  rw[ht]at hdn
  simpa using hdn
 have hae:a.eval=Act.eval ⟨a.tmps,[]⟩:=q2C a
 have plain:(∃ c,A7 Γ ro.d ro.op st=some (c,r,st1)/\c)->o.wp P a w K Q:=by
  rintro⟨c,hs,hc⟩
  obtain⟨nx,v,w',μ',X',hrun,hnx,hsim',har,hX,hsame,hX'⟩:=qCY (ds:=[]) hsim hg hch hok hd1 hs hc
  unfold Oper.wp
  rw[hae,hrun]
  obtain⟨h1,h2,h3⟩:=q3C hsim' hsz hds hd har
  have hfin:K (a.put o.dst v) w':=hK _ _ ⟨X',μ',by rw[hdst];exact h1,hg.mono hsame hX,fun b hb=>hX b (h0 b hb),fun b hb=>by
   rcases hX' b hb with hb|hb
   ·exact hbd b hb
   ·exact .inr hb,h2,h3⟩
  rcases hnx with rfl|⟨rfl,rfl⟩
  ·exact hfin
  ·exact hfin
 have callee:∀ (f:FuncId) (xs:List Value) (res:T),(execOp a.eval o).run P w=(callFunc f xs.toArray).run P w->r=.t res->st1=st ->
   Vh P f xs.toArray w (fun v w'=>RowKit.Below w.heap.size w w'/\TR w' (fun b=>X b\/(w.heap.size<=b/\b<w'.heap.size)) res v)->o.wp P a w K Q:=by
  rintro f xs res hrun rfl rfl hr
  exact qAC hsim hg h0 hbd hsz hds hd hrun hr (by rw[<- hdst];exact hK)
 cases hop:ro.op with
 | hcall f args rs base =>
  rw[hop]at hx hch hok
  obtain⟨as,res,hp',has,hnd,hcall,hokB,rfl,rfl⟩:=hx
  exact S1 hsim hg h0 hbd hsz hds hd (Ft (ds:=[]) hsim hg has (by simpa[B6.opds]using hok)) hnd hcall hokB (q5D hds (by simp only[Iy]at hch;exact hch)) (by rw[<- hdst];exact hK)
 | hcallW f args base =>
  rw[hop]at hx hch hok
  obtain⟨rs,as,res,hp',has,hnd,hcall,hokB,rfl,rfl⟩:=hx
  exact S1 hsim hg h0 hbd hsz hds hd (Ft (ds:=[]) hsim hg has (by simpa[B6.opds]using hok)) hnd hcall hokB (q5D hds (by simp only[Iy]at hch;exact hch)) (by rw[<- hdst];exact hK)
 | hcallv x args rs base =>
  rw[hop]at hx hch hok
  obtain⟨av,f,cs,as,res,hp',hxv,hfn,has,hnd,hcall,hokB,rfl,rfl⟩:=hx
  simp only[B6.opds,List.all_cons,Bool.and_eq_true]at hok
  obtain⟨ys,hy,hys⟩:=q7v hfn (Ah (ds:=[]) hsim hg hxv hok.1)
  exact S1 hsim hg h0 hbd hsz hds hd ((Ft (ds:=[]) hsim hg has hok.2).append hys) hnd hcall hokB (q77 hds hy (by simp only[Iy]at hch;exact hch)) (by rw[<- hdst];exact hK)
 | hcallvW x args base =>
  rw[hop]at hx hch hok
  obtain⟨rs,av,f,cs,as,res,hp',hxv,hfn,has,hnd,hcall,hokB,rfl,rfl⟩:=hx
  simp only[B6.opds,List.all_cons,Bool.and_eq_true]at hok
  obtain⟨ys,hy,hys⟩:=q7v hfn (Ah (ds:=[]) hsim hg hxv hok.1)
  exact S1 hsim hg h0 hbd hsz hds hd ((Ft (ds:=[]) hsim hg has hok.2).append hys) hnd hcall hokB (q77 hds hy (by simp only[Iy]at hch;exact hch)) (by rw[<- hdst];exact hK)
 | hcallB x args base =>
  rw[hop]at hx hch hok
  obtain⟨rs,av,f,cs,as,res,hp',hxv,hfn,has,hnd,hcall,hokB,rfl,rfl⟩:=hx
  simp only[B6.opds,List.all_cons,Bool.and_eq_true]at hok
  obtain⟨ys,hy,hys⟩:=qFV hfn (Ah (ds:=[]) hsim hg hxv hok.1)
  exact S1 hsim hg h0 hbd hsz hds hd (hys.append (Ft (ds:=[]) hsim hg has hok.2)) hnd hcall hokB (qAD hds hy (by simp only[Iy]at hch;exact hch)) (by rw[<- hdst];exact hK)
 | ncall f args base =>
  rw[hop]at hx hch hok
  obtain⟨as,res,hp',has,hcall,hokB,rfl,rfl⟩:=hx
  have hars:=Ft (ds:=[]) hsim hg has (by simpa[B6.opds]using hok)
  have hrun:(execOp a.eval o).run P w=(callFunc f (args.map (Act.eval ⟨a.tmps,[]⟩)).toArray).run P w:=by
   generalize hoo:o.op=op at hch
   simp only[Iy]at hch
   split at hch
   case h_2=>cases hch
   split at hch
   case h_2=>cases hch
   rename_i c f' hcal
   simp only[Bool.and_eq_true]at hch
   have hf:f=f':=by simpa using hch.1
   subst hf
   have:=Ib hch.2;subst this
   rw[hae]
   rw[<- Array.toList_map,Array.toArray_toList]
   simp[execOp,hoo,resolve,hcal,Deferred.ofValue,Act.eval,invoke]
  have hk0:∀ id,Gm μ st [] id=none:=fun id=>by
   unfold Gm
   rw[if_neg]
   rintro⟨_,hlt,_⟩
   simp at hlt
  have hr:=hcall w X (Gm μ st []) (args.map (Act.eval ⟨a.tmps,[]⟩)) hg (fun id hi=>absurd (hk0 id) hi) (hsim.hand []) (W5 hsim hars)
  have fin:∀ v w',(∃ X' μ',B0 w w.heap.size (Gm μ st []) X' μ' ⟨[],hp'⟩ #[] w'/\AR w' X' μ' (St.sh ⟨[],hp'⟩) res v/\(∀ b,X b->X' b)/\(∀ b,X' b->X b\/w.heap.size<=b\/∃ id n,Gm μ st [] id=some (b,n)))->K (a.put o.dst v) w':=by
   rintro v w' ⟨X',μ',hs',hav,hX,hX'⟩
   obtain⟨hs2,hsame,hbw⟩:=hsim.news hs' hokB hX hX'
   obtain⟨h1,h2,h3⟩:=q3C hs2 hsz hds hd (hav.ren (φ:=fun i=>some (P2 [] base i)) fun i j q hj hs=>by simp only[Option.some.injEq]at hj;subst hj;exact hbw i q hs)
   refine hK _ _ ⟨X',_,by rw[hdst];exact h1,hg.mono hsame hX,fun b hb=>hX b (h0 b hb),fun b hb=>?_,h2,h3⟩
   rcases hX' b hb with hb|hb|⟨id,n,hk⟩
   ·exact hbd b hb
   ·exact .inr (.inl (Nat.le_trans hsim.size hb))
   ·rw[hk0]at hk;cases hk
  unfold Oper.wp
  rcases hr with⟨hr1,hr2⟩|⟨v,hr1,hp⟩
  ·rw[hrun,hr1,Oper.upon_enter]
   exact hr2.mono fun e w' ⟨v,he,hp⟩=>by subst he;exact fin v w' hp
  ·rw[hrun,hr1,Oper.upon_value]
   exact fin v w hp
 | rcall f args rs =>
  rw[hop]at hx hch hok
  obtain⟨as,res,has,hnd,hsl,hcall,rfl,hst⟩:=hx
  have hst:=hst.symm
  subst hst
  have hars:=Ft (ds:=[]) hsim hg has (by simpa[B6.opds]using hok)
  have hrun:(execOp a.eval o).run P w=(callFunc f (args.map (Act.eval ⟨a.tmps,[]⟩)).toArray).run P w:=by
   generalize hoo:o.op=op at hch
   simp only[Iy]at hch
   split at hch
   case h_2=>cases hch
   split at hch
   case h_2=>cases hch
   rename_i c f' hcal
   simp only[Bool.and_eq_true]at hch
   have hf:f=f':=by simpa using hch.1
   subst hf
   have:=Ib hch.2;subst this
   rw[hae]
   rw[<- Array.toList_map,Array.toArray_toList]
   simp[execOp,hoo,resolve,hcal,Deferred.ofValue,Act.eval,invoke]
  have hr:=hcall w X (Gm μ st rs) (args.map (Act.eval ⟨a.tmps,[]⟩)) hg (fun id hi=>by
   cases hk:Gm μ st rs id with
   | none=>exact absurd hk hi
   | some l =>
    unfold Gm at hk
    split at hk
    ·rename_i hc
     have e0:=q2B hc.2.1
     have hm:rs.getD (id-1000000) 0∈rs:=by rw[e0];exact List.getElem_mem _
     have hidx:rs.idxOf (rs.getD (id-1000000) 0)=id-1000000:=by rw[e0,hnd.idxOf_getElem]
     obtain⟨q,hq⟩:∃ q,st.sh (rs.getD (id-1000000) 0)=some q:=by
      cases he:st.sh (rs.getD (id-1000000) 0) with
      | none=>exact absurd he hc.2.2
      | some q=>exact⟨q,rfl⟩
     have:=Uj hm hq
     rw[hidx]at this
     have e:1000000+(id-1000000)=id:=by have:=hc.1;omega
     rw[e]at this
     intro hn
     simp only[St.sh,hn,Option.map_none,reduceCtorEq]at this
    ·cases hk) (hsim.hand rs) (W5 hsim hars)
  have fin:∀ v w',(∃ X' μ',B0 w w.heap.size (Gm μ st rs) X' μ' ⟨[],Ba rs st.hp⟩ #[] w'/\AR w' X' μ' (St.sh ⟨[],Ba rs st.hp⟩) res v/\(∀ b,X b->X' b)/\(∀ b,X' b->X b\/w.heap.size<=b\/∃ id n,Gm μ st rs id=some (b,n)))->K (a.put o.dst v) w':=by
   rintro v w' ⟨X',μ',hs',hav,hX,hX'⟩
   obtain⟨hs2,hsame,hbw⟩:=hsim.looked hnd hsl hs' hX hX'
   obtain⟨h1,h2,h3⟩:=q3C hs2 hsz hds hd (hav.ren (φ:=fun i=>some (P2 rs 0 i)) fun i j q hj hs=>by simp only[Option.some.injEq]at hj;subst hj;exact hbw i q hs)
   refine hK _ _ ⟨X',_,by rw[hdst];exact h1,hg.mono hsame hX,fun b hb=>hX b (h0 b hb),fun b hb=>?_,h2,h3⟩
   rcases hX' b hb with hb|hb|⟨id,n,hk⟩
   ·exact hbd b hb
   ·exact .inr (.inl (Nat.le_trans hsim.size hb))
   ·obtain⟨t',h8,h9,h10⟩:=D2 hk
    rcases Nat.lt_or_ge b B with hlt|hge
    ·obtain⟨id',n',hq⟩:=(hsim.loc t' b n h9 h10).2.2 hlt
     exact .inr (.inr ⟨id',n',hq⟩)
    ·exact .inr (.inl hge)
  unfold Oper.wp
  rcases hr with⟨hr1,hr2⟩|⟨v,hr1,hp⟩
  ·rw[hrun,hr1,Oper.upon_enter]
   exact hr2.mono fun e w' ⟨v,he,hp⟩=>by subst he;exact fin v w' hp
  ·rw[hrun,hr1,Oper.upon_value]
   exact fin v w hp
 | callT f args =>
  rw[hop]at hx hch hok
  obtain⟨as,ts,res,has,hts,hcall,hr,hst⟩:=hx
  have hars:=Ft (ds:=[]) hsim hg has (by simpa[B6.opds]using hok)
  refine callee f (args.map (Act.eval ⟨a.tmps,[]⟩)) res ?_ hr hst (qAB hsim hg hars hts hcall)
  generalize hoo:o.op=op at hch
  simp only[Iy]at hch
  split at hch
  case h_2=>cases hch
  split at hch
  case h_2=>cases hch
  rename_i c f' hcal
  simp only[Bool.and_eq_true]at hch
  have hf:f=f':=by simpa using hch.1
  subst hf
  have:=Ib hch.2;subst this
  rw[hae]
  rw[<- Array.toList_map,Array.toArray_toList]
  simp[execOp,hoo,resolve,hcal,Deferred.ofValue,Act.eval,invoke]
 | call f args =>
  rw[hop]at hx hch hok
  obtain⟨as,res,has,hcall,hr,hst⟩:=hx
  have hars:=Ft (ds:=[]) hsim hg has (by simpa[B6.opds]using hok)
  refine callee f (args.map (Act.eval ⟨a.tmps,[]⟩)) res ?_ hr hst (q76 hsim hg hars hcall)
  generalize hoo:o.op=op at hch
  simp only[Iy]at hch
  split at hch
  case h_2=>cases hch
  split at hch
  case h_2=>cases hch
  rename_i c f' hcal
  simp only[Bool.and_eq_true]at hch
  have hf:f=f':=by simpa using hch.1
  subst hf
  have:=Ib hch.2;subst this
  rw[hae]
  rw[<- Array.toList_map,Array.toArray_toList]
  simp[execOp,hoo,resolve,hcal,Deferred.ofValue,Act.eval,invoke]
 | callv x args =>
  rw[hop]at hx hch hok
  obtain⟨av,f,cs,as,res,hxv,hfn,has,hcall,hr,hst⟩:=hx
  simp only[B6.opds,List.all_cons,Bool.and_eq_true]at hok
  have hars:=Ft (ds:=[]) hsim hg has hok.2
  have harx:=Ah (ds:=[]) hsim hg hxv hok.1
  have hfv:=q7v hfn harx
  obtain⟨ys,hy,hys⟩:=hfv
  refine callee f (args.map (Act.eval ⟨a.tmps,[]⟩)++ys) res ?_ hr hst (q76 hsim hg (hars.append hys) hcall)
  generalize hoo:o.op=op at hch
  simp only[Iy]at hch
  split at hch
  case h_2=>cases hch
  split at hch
  case h_2=>cases hch
  rename_i cc c y hcal
  simp only[Bool.and_eq_true]at hch
  have:=A8 hch.1;subst this
  have:=Ib hch.2;subst this
  rw[hae]
  rw[show(List.map (Act.eval ⟨a.tmps,[]⟩) cc.args.toList++ys).toArray=cc.args.map (Act.eval ⟨a.tmps,[]⟩)++ys.toArray from by simp]
  simp[execOp,hoo,resolve,hcal,Deferred.ofValue,hy,invoke]
 | _=>exact plain (by simpa only[C9,hop]using hx)
theorem qFW {tm:Array Value} {g:Nat} {p:Bool} (h:tm.getD g undef=.bool p):tm[g]? = some (.bool p):=by
 rw[Array.getD_eq_getD_getElem?]at h
 cases hg:tm[g]? with
 | none=>rw[hg]at h;simp[undef]at h
 | some v=>rw[hg]at h;simp at h;rw[h]
theorem qBP {ops:List Oper} {ro:RO} {q:Bool} (hsim:B0 w0 B κ X μ st a.tmps w) (hchk:q3B P N ops ro o=true) (hw:D4 st.env ro.guard=some q):Region.wanted o (yielded ops.toArray a.tmps)=q:=by
 simp only[q3B,Bool.and_eq_true]at hchk
 have hgd:=hchk.2
 cases hr:ro.guard with
 | none =>
  rw[hr]at hw hgd
  simp only[D4,Option.some.injEq]at hw;subst hw
  cases ho:o.guard with
  | none=>simp[Region.wanted,ho]
  | some x=>rw[ho]at hgd;cases hgd
 | some gb =>
  obtain⟨g,b⟩:=gb
  rw[hr]at hw hgd
  cases ho:o.guard with
  | none=>rw[ho]at hgd;cases hgd
  | some jb =>
   obtain⟨j,b'⟩:=jb
   rw[ho]at hgd
   simp only[Bool.and_eq_true,decide_eq_true_eq]at hgd
   obtain⟨hb,hj⟩:=hgd
   have hb:b=b':=by simpa using hb
   subst hb
   have hy:yielded ops.toArray a.tmps j=match a.tmps[g]? with|some (.bool b)=>some b|_=>none:=by
    simp only[yielded,List.getElem?_toArray,hj,Option.bind_some]
    rfl
   simp only[D4]at hw
   split at hw
   ·rename_i p hl
    simp only[Option.some.injEq]at hw;subst hw
    have hv:=(hsim.env g _ hl).t_inv.v_inv
    have hv:a.tmps.getD g undef=.bool p:=hv
    simp only[Region.wanted,ho,hy,qFW hv]
    cases p<;>cases b<;>rfl
   ·rename_i hl
    simp only[Option.some.injEq]at hw;subst hw
    have hu:=hsim.env g _ hl
    have hv:a.tmps.getD g undef=undef:=by
     generalize a.tmps.getD g undef=v at hu
     cases hu;rfl
    have:(match a.tmps[g]? with|some (.bool b)=>some b|_=>none)=(none:Option Bool):=by
     rw[Array.getD_eq_getD_getElem?]at hv
     cases hg:a.tmps[g]? with
     | none=>rfl
     | some v=>rw[hg]at hv;simp[undef]at hv;subst hv;rfl
    simp only[Region.wanted,ho,hy,this]
    cases b<;>rfl
   ·cases hw
theorem q1S {ro:RO} {ops:List Oper} {st2:St} (hI:G3 L Γ w0 B κ X0 N st a w) (hN:N<=1000000) (hchk:q3B P N ops ro o=true) (hx:Bt P Γ ro st st2) (hK:∀ a' w',G3 L Γ w0 B κ X0 N st2 a' w'->K a' w') (hL:∀ t,ro.dst=some t->t∉L:=by simp) :
  if Region.wanted o (yielded ops.toArray a.tmps)then o.wp P a w K Q\/(o.asks P a w/\LetsOut Q)else K (a.put o.dst undef) w:=by
 obtain⟨X,μ,hsim,hrest⟩:=id hI
 rcases hx with⟨hw,r,st1,hex,rfl⟩|⟨hw,rfl⟩
 ·rw[qBP hsim hchk hw,if_pos rfl]
  exact .inl (qAE hI hN hchk hex hK hL)
 ·rw[qBP hsim hchk hw,if_neg (by simp)]
  obtain⟨hg,h0,hbd,hsz,hds⟩:=hrest
  simp only[q3B,Bool.and_eq_true,decide_eq_true_eq]at hchk
  obtain⟨⟨⟨⟨⟨hdst,hch⟩,hok⟩,hdn⟩,_⟩,_⟩:=hchk
  have hd:∀ t,ro.dst=some t->t<N/\t∉L:=fun t ht=>⟨by rw[ht]at hdn;simpa using hdn,hL t ht⟩
  obtain⟨h1,h2,h3⟩:=q3C hsim hsz hds hd AR.un
  rw[<- hdst]
  exact hK _ _ ⟨X,μ,h1,hg,h0,hbd,h2,h3⟩
def Oh (P:Program) (N:Nat) (ops:List Oper):List RO->List Oper->Bool
 | [],[]=>true
 | ro::ros,o::os=>q3B P N ops ro o&&Oh P N ops ros os
 | _,_=>false
theorem Zh {ops:List Oper} (hN:N<=1000000):∀ {ros:List RO} {os:List Oper} {st st2:St} {a:Act} {w:World},G3 L Γ w0 B κ X0 N st a w->Oh P N ops ros os=true->Lx P Γ ros st st2->(∀ a' w',G3 L Γ w0 B κ X0 N st2 a' w'->Q .normal a' w')->noD L ros=true->wpList P ops.toArray Q os a w
 | [],[],st,st2,a,w,hI,hc,hs,hQ,_=>by
  simp only[Lx]at hs;subst hs
  exact hQ a w hI
 | [],_::_,_,_,_,_,_,hc,_,_,_=>by simp[Oh]at hc
 | _::_,[],_,_,_,_,_,hc,_,_,_=>by simp[Oh]at hc
 | ro::ros,o::os,st,st2,a,w,hI,hc,hs,hQ,hL=>by
  simp only[Oh,Bool.and_eq_true]at hc
  obtain⟨st1,h1,h2⟩:=hs
  unfold wpList
  simp only[noD,List.all_cons,Bool.and_eq_true]at hL
  exact q1S hI hN hc.1 h1 (fun a' w' hI'=>Zh hN hI' hc.2 h2 hQ hL.2) (fun t ht=>by have:=hL.1;rw[ht]at this;simpa using this)
end
end Go.Lg
namespace Go.Lg
open Go
def B6.kd:B6->Nat
 | .alloc fz _ | .box fz _ | .bsl fz _ _ _=>if fz then 0 else 2
 | .app _ _ _ _ _ | .appA _ _ _ _ | .appS _ _ _ | .appR _ _ _ _ _ | .hcall _ _ _ _ | .hcallv _ _ _ _ | .hcallW _ _ _ | .hcallvW _ _ _ | .hcallB _ _ _=>3
 | .allocR _ _ | .cpy _ _ _ | .clr _ _ _ | .bslA _ _ _ | .ncall _ _ _ | .mk _ _ _ _ _ | .mkE _ _ _ _ _ | .mkB _ _ _ _ | .appZ _ _ _ _ _ | .appN _ _ _ | .mkmap | .rng _ | .nxt _ | .store _ _ _ | .stR _ _ _ _ | .stF _ _ _ _ | .mup _ _ _ _ | .mupA _ _ _ _ | .mdel _ _ _=>2
 | .load _ _ _ | .ldR _ _ _ _ | .bytesStr _ | .len _ _ | .iadr _ _ _ | .iaR _ _ _ _ | .slice _ _ _ _ _ | .appT _ _ _ _ | .appB _ _ | .lkup _ _ _ _ _ | .lkupA _ _ _ _ | .mvP _ | .nckP _ | .fadP _ _ | .ldP _ _ | .call _ _ | .callv _ _ | .rcall _ _ _=>1
 | _=>0
section
variable {P:Program} {Γ:Tables} {d:Nat} {io:B6} {e e':List (Nat×AV)} {h h':List (Nat×Aj)} {c:Prop} {r:AV} {s st st1:St}
theorem Es:∀ {xs:List Operand},(∀ o∈xs,ev Γ e' o=ev Γ e o)->Ip Γ e' xs=Ip Γ e xs
 | [],_=>rfl
 | x::xs,hx=>by
  have h1:=Es (xs:=xs) (fun o ho=>hx o (List.mem_cons_of_mem _ ho))
  unfold Ip at h1 ⊢
  simp only[List.map_cons,hx x List.mem_cons_self]
  cases ev Γ e x<;>simp[Ac,h1]
theorem q1T {o:Option Operand} {n:Nat} (hx:∀ x∈o.toList,ev Γ e' x=ev Γ e x):Eo Γ e' o n=Eo Γ e o n:=by
 cases o with
 | none=>rfl
 | some x=>simp only[Eo,hx x (by simp)]
theorem q2D (hk:io.kd<=2) (hx:∀ o∈io.opds,ev Γ e' o=ev Γ e o):A7 Γ d io ⟨e',h⟩=(A7 Γ d io ⟨e,h⟩).map fun q=>(q.1,q.2.1,⟨e',q.2.2.hp⟩):=by
 cases io
 case app=>simp[B6.kd]at hk
 case appR=>simp[B6.kd]at hk
 case appA=>simp[B6.kd]at hk
 case appS=>simp[B6.kd]at hk
 case hcall=>simp[B6.kd]at hk
 case hcallv=>simp[B6.kd]at hk
 case hcallW=>simp[B6.kd]at hk
 case hcallvW=>simp[B6.kd]at hk
 case hcallB=>simp[B6.kd]at hk
 case call=>simp[A7]
 case callv=>simp[A7]
 case slice s0 x lo hi mx =>
  have h1:=hx x (by simp[B6.opds])
  have h2:∀ n,Eo Γ e' lo n=Eo Γ e lo n:=fun n=>q1T fun y hy=>hx y (by simp[B6.opds];simp at hy;simp[hy])
  have h3:∀ n,Eo Γ e' hi n=Eo Γ e hi n:=fun n=>q1T fun y hy=>hx y (by simp[B6.opds];simp at hy;simp[hy])
  have h4:∀ n,Eo Γ e' mx n=Eo Γ e mx n:=fun n=>q1T fun y hy=>hx y (by simp[B6.opds];simp at hy;simp[hy])
  simp only[A7,h1,h2,h3,h4]
  cases ev Γ e x with
  | none=>simp
  | some a =>
   simp only[Option.bind_some]
   split
   ·cases Eo Γ e lo 0<;>simp only[Option.bind_none,Option.bind_some,Option.map_none,Option.map_map,Function.comp_def]
   ·cases Eo Γ e lo 0<;>simp only[Option.bind_none,Option.bind_some,Option.map_none]
    cases Eo Γ e hi _<;>simp only[Option.bind_none,Option.bind_some,Option.map_none]
    cases mx<;>simp only[Option.map_some,Option.map_map,Function.comp_def]
   ·cases Eo Γ e lo 0<;>simp only[Option.bind_none,Option.bind_some,Option.map_none]
    cases Eo Γ e hi _<;>simp only[Option.bind_none,Option.bind_some,Option.map_none]
    split<;>try rfl
    cases mx<;>simp only[Option.map_some,Option.map_map,Function.comp_def]
   ·rfl
 case appZ ty s0 zs b n =>
  have h1:=hx b (by simp[B6.opds])
  have h2:=hx n (by simp[B6.opds])
  simp only[A7,h1,h2]
  split<;>rfl
 all_goals
  try simp only[B6.opds,List.mem_cons,List.not_mem_nil,or_false,false_or,forall_eq_or_imp,forall_eq]at hx
  try have hxs:=Es hx
  simp only[A7]
  try simp only[hx]
  try simp only[hxs]
  try rfl
  try simp only[Option.map_map,Option.map_bind,Function.comp_def]
  repeat' (first|rfl|split|(refine congrArg _ (funext fun _=>?_))|simp only[Option.map_map,Option.map_bind,Function.comp_def])
theorem qDO (hk:io.kd<=1):A7 Γ d io ⟨e,h⟩=(A7 Γ d io ⟨e,h⟩).map fun q=>(q.1,q.2.1,⟨e,h⟩):=by
 cases io
 all_goals try (simp[B6.kd]at hk;done)
 case alloc fz zs=>cases fz;(simp[B6.kd]at hk);rfl
 case box fz zs=>cases fz;(simp[B6.kd]at hk);(simp[A7,Option.map_bind,Option.map_map,Function.comp_def])
 case bsl fz ty s zs=>cases fz;(simp[B6.kd]at hk);(simp[A7,Option.map_bind,Option.map_map,Function.comp_def])
 case slice s0 x lo hi mx =>
  simp only[A7]
  cases ev Γ e x with
  | none=>simp
  | some a =>
   simp only[Option.bind_some]
   split
   ·cases Eo Γ e lo 0<;>simp only[Option.bind_none,Option.bind_some,Option.map_none,Option.map_map,Function.comp_def]
   ·cases Eo Γ e lo 0<;>simp only[Option.bind_none,Option.bind_some,Option.map_none]
    cases Eo Γ e hi _<;>simp only[Option.bind_none,Option.bind_some,Option.map_none]
    cases mx<;>simp only[Option.map_some,Option.map_map,Function.comp_def]
   ·cases Eo Γ e lo 0<;>simp only[Option.bind_none,Option.bind_some,Option.map_none]
    cases Eo Γ e hi _<;>simp only[Option.bind_none,Option.bind_some,Option.map_none]
    split<;>try rfl
    cases mx<;>simp only[Option.map_some,Option.map_map,Function.comp_def]
   ·rfl
 all_goals
  simp only[A7]
  try rfl
  try simp only[Option.map_map,Option.map_bind,Function.comp_def]
  repeat' (first|rfl|split|(refine congrArg _ (funext fun _=>?_))|simp only[Option.map_map,Option.map_bind,Function.comp_def])
theorem qDP (hk:io.kd=0):A7 Γ d io ⟨e,h'⟩=(A7 Γ d io ⟨e,h⟩).map fun q=>(q.1,q.2.1,⟨e,h'⟩):=by
 cases io
 all_goals try (simp[B6.kd]at hk;done)
 case alloc fz zs=>cases fz;(simp[B6.kd]at hk);rfl
 case box fz zs=>cases fz;(simp[B6.kd]at hk);(simp[A7,Option.map_bind,Option.map_map,Function.comp_def])
 case bsl fz ty s zs=>cases fz;(simp[B6.kd]at hk);(simp[A7,Option.map_bind,Option.map_map,Function.comp_def])
 all_goals
  simp only[A7]
  try rfl
  try simp only[Option.map_map,Option.map_bind,Function.comp_def]
  repeat' (first|rfl|split|(refine congrArg _ (funext fun _=>?_))|simp only[Option.map_map,Option.map_bind,Function.comp_def])
def B6.isNew:B6->Bool
 | .alloc _ _ | .allocR _ _ | .box _ _ | .bsl _ _ _ _ | .bslA _ _ _ | .mk _ _ _ _ _ | .mkE _ _ _ _ _ | .mkB _ _ _ _ | .appZ _ _ _ _ _ | .appN _ _ _ | .mkmap | .rng _=>true
 | _=>false
theorem qFX (hn:io.isNew=true) (hs:A7 Γ d io ⟨e,h⟩=some (c,r,s)) (hc:c):s.hp=h\/∃ q,s.hp=(d,q)::h/\A2 h d=none:=by
 cases io
 all_goals try (simp[B6.isNew]at hn;done)
 case alloc fz zs =>
  cases fz<;>simp[A7]at hs
  ·obtain⟨hcc,rfl,rfl⟩:=hs;exact .inr ⟨_,rfl,hcc.2 hc⟩
  ·obtain⟨_,rfl,rfl⟩:=hs;exact .inl rfl
 case allocR ty zs =>
  simp only[A7,Option.some.injEq,Prod.mk.injEq]at hs
  obtain⟨rfl,rfl,rfl⟩:=hs
  exact .inr ⟨_,rfl,hc⟩
 case box fz x =>
  simp only[A7,Option.bind_eq_some_iff]at hs
  obtain⟨a,ha,hs⟩:=hs
  cases fz<;>simp at hs
  ·obtain⟨hcc,rfl,rfl⟩:=hs;exact .inr ⟨_,rfl,(hcc.2 hc).1⟩
  ·obtain⟨_,_,_,_,rfl⟩:=hs;exact .inl rfl
 case bslA ty s0 parts =>
  simp only[A7,Option.map_eq_some_iff,Prod.mk.injEq]at hs
  obtain⟨as,ha,rfl,rfl,rfl⟩:=hs
  exact .inr ⟨_,rfl,hc.1⟩
 case bsl fz ty s0 parts =>
  simp only[A7,Option.bind_eq_some_iff,Option.map_eq_some_iff]at hs
  obtain⟨as,ha,es,he,hs⟩:=hs
  cases fz<;>simp at hs
  ·obtain⟨hcc,rfl,rfl⟩:=hs;exact .inr ⟨_,rfl,(hcc.2 hc).1⟩
  ·obtain⟨_,_,rfl⟩:=hs;exact .inl rfl
 case mk ty s0 zs l cc =>
  simp only[A7]at hs
  split at hs
  ·simp only[Option.some.injEq,Prod.mk.injEq]at hs
   obtain⟨rfl,rfl,rfl⟩:=hs;exact .inr ⟨_,rfl,hc.1⟩
  ·cases hs
 case mkE ty s0 zs l cc =>
  simp only[A7]at hs
  split at hs
  ·simp only[Option.some.injEq,Prod.mk.injEq]at hs
   obtain⟨rfl,rfl,rfl⟩:=hs;exact .inr ⟨_,rfl,hc.1⟩
  ·cases hs
 case appZ ty s0 zs l cc =>
  simp only[A7]at hs
  split at hs
  ·simp only[Option.some.injEq,Prod.mk.injEq]at hs
   obtain⟨rfl,rfl,rfl⟩:=hs;exact .inr ⟨_,rfl,hc.1⟩
  ·cases hs
 case appN ty s0 x =>
  simp only[A7]at hs
  split at hs
  ·simp only[Option.some.injEq,Prod.mk.injEq]at hs
   obtain⟨rfl,rfl,rfl⟩:=hs;exact .inr ⟨_,rfl,hc.1⟩
  ·cases hs
 case mkB ty zs l cc =>
  simp only[A7]at hs
  split at hs
  ·simp only[Option.some.injEq,Prod.mk.injEq]at hs
   obtain⟨rfl,rfl,rfl⟩:=hs;exact .inr ⟨_,rfl,hc.1⟩
  ·cases hs
 case rng x =>
  simp only[A7]at hs
  split at hs
  ·simp only[Option.some.injEq,Prod.mk.injEq]at hs
   obtain⟨rfl,rfl,rfl⟩:=hs;exact .inr ⟨_,rfl,hc⟩
  ·cases hs
 case mkmap =>
  simp only[A7,Option.some.injEq,Prod.mk.injEq]at hs
  obtain⟨rfl,rfl,rfl⟩:=hs;exact .inr ⟨_,rfl,hc⟩
theorem Zi (hl:∀ id x,A2 h id=some x->A2 h' id=some x) {a:AV} {es:List (List T)} (hs:B7 h a=some es):B7 h' a=some es:=by
 unfold B7 at hs ⊢
 split at hs
 ·exact hs
 ·split at hs
  ·rename_i hq;rw[hl _ _ hq];exact hs
  ·cases hs
 ·cases hs
theorem qCZ (hl:∀ id x,A2 h id=some x->A2 h' id=some x) {a:AV} {n:Nat} (hs:lenOf h a=some n):lenOf h' a=some n:=by
 unfold lenOf at hs ⊢
 split at hs
 ·exact hs
 ·exact hs
 ·exact hs
 ·exact hs
 ·exact hs
 ·split at hs
  ·rename_i hq;rw[hl _ _ hq];exact hs
  ·rename_i hq;rw[hl _ _ hq];exact hs
  ·cases hs
 ·cases hs
theorem q0Z (hl:∀ id x,A2 h id=some x->A2 h' id=some x) {a:AV} (hs:Jf h a=true):Jf h' a=true:=by
 unfold Jf at hs ⊢
 split at hs
 ·rfl
 ·split at hs
  ·rename_i hq;simp only[hl _ _ hq]
  ·cases hs
 ·split at hs
  ·rename_i hq;simp only[hl _ _ hq]
  ·rename_i hq;simp only[hl _ _ hq]
  ·cases hs
 ·split at hs
  ·rename_i hq;simp only[hl _ _ hq]
  ·cases hs
 ·cases hs
theorem qFY (hk:io.kd<=1) (hl:∀ id x,A2 h id=some x->A2 h' id=some x) (hs:A7 Γ d io ⟨e,h⟩=some (c,r,s)):A7 Γ d io ⟨e,h'⟩=some (c,r,⟨e,h'⟩):=by
 by_cases h0:io.kd=0
 ·rw[qDP (h:=h) h0,hs];rfl
 cases io
 all_goals try (simp[B6.kd]at hk h0;done)
 case alloc fz zs=>cases fz<;>simp[B6.kd]at hk h0
 case box fz zs=>cases fz<;>simp[B6.kd]at hk h0
 case bsl fz ty s zs=>cases fz<;>simp[B6.kd]at hk h0
 case rcall=>simp[A7]at hs
 case call=>simp[A7]at hs
 case callv=>simp[A7]at hs
 case load n g a =>
  simp only[A7]at hs ⊢
  split at hs
  ·simp only[Option.some.injEq,Prod.mk.injEq]at hs
   obtain⟨rfl,rfl,rfl⟩:=hs;rfl
  ·split at hs
   ·rename_i hq;rw[hl _ _ hq]
    simp only[Option.some.injEq,Prod.mk.injEq]at hs
    obtain⟨rfl,rfl,rfl⟩:=hs;rfl
   ·rename_i hq;rw[hl _ _ hq]
    simp only[Option.some.injEq,Prod.mk.injEq]at hs
    obtain⟨rfl,rfl,rfl⟩:=hs;rfl
   ·rename_i hq;rw[hl _ _ hq]
    simp only[Option.some.injEq,Prod.mk.injEq]at hs
    obtain⟨rfl,rfl,rfl⟩:=hs;rfl
   ·cases hs
  ·cases hs
 case ldR id n g a =>
  simp only[A7]at hs ⊢
  split at hs
  case isFalse=>cases hs
  rename_i hp
  rw[if_pos hp]
  split at hs
  ·simp only[Option.some.injEq,Prod.mk.injEq]at hs
   obtain⟨rfl,rfl,rfl⟩:=hs;rfl
  ·split at hs
   ·rename_i hq;rw[hl _ _ hq]
    simp only[Option.some.injEq,Prod.mk.injEq]at hs
    obtain⟨rfl,rfl,rfl⟩:=hs;rfl
   ·rename_i hq;rw[hl _ _ hq]
    simp only[Option.some.injEq,Prod.mk.injEq]at hs
    obtain⟨rfl,rfl,rfl⟩:=hs;rfl
   ·rename_i hq;rw[hl _ _ hq]
    simp only[Option.some.injEq,Prod.mk.injEq]at hs
    obtain⟨rfl,rfl,rfl⟩:=hs;rfl
   ·cases hs
  ·cases hs
 case iadr s0 x i =>
  simp only[A7]at hs ⊢
  split at hs
  ·simp only[Option.some.injEq,Prod.mk.injEq]at hs
   obtain⟨rfl,rfl,rfl⟩:=hs;rfl
  ·split at hs
   ·rename_i hq;rw[hl _ _ hq]
    simp only[Option.some.injEq,Prod.mk.injEq]at hs
    obtain⟨rfl,rfl,rfl⟩:=hs;rfl
   ·rename_i hq;rw[hl _ _ hq]
    simp only[Option.some.injEq,Prod.mk.injEq]at hs
    obtain⟨rfl,rfl,rfl⟩:=hs;rfl
   ·cases hs
  ·split at hs
   ·rename_i hq;rw[hl _ _ hq]
    simp only[Option.some.injEq,Prod.mk.injEq]at hs
    obtain⟨rfl,rfl,rfl⟩:=hs;rfl
   ·cases hs
  ·cases hs
 case iaR id0 s0 x i =>
  simp only[A7]at hs ⊢
  split at hs
  ·split at hs
   ·rename_i hj
    rw[if_pos hj]
    split at hs
    ·rename_i hq;rw[hl _ _ hq]
     simp only[Option.some.injEq,Prod.mk.injEq]at hs
     obtain⟨rfl,rfl,rfl⟩:=hs;rfl
    ·rename_i hq;rw[hl _ _ hq]
     simp only[Option.some.injEq,Prod.mk.injEq]at hs
     obtain⟨rfl,rfl,rfl⟩:=hs;rfl
    ·cases hs
   ·cases hs
  ·cases hs
 case bytesStr x =>
  simp only[A7,Option.bind_eq_some_iff,Option.map_eq_some_iff,Prod.mk.injEq]at hs ⊢
  obtain⟨es,⟨a,ha,he⟩,bs,hb,rfl,rfl,rfl⟩:=hs
  exact⟨es,⟨a,ha,Zi hl he⟩,bs,hb,rfl,rfl,trivial⟩
 case appT ty s0 b x =>
  simp only[A7,Option.bind_eq_some_iff]at hs ⊢
  obtain⟨es,⟨a,ha,he⟩,hs⟩:=hs
  refine⟨es,⟨a,ha,Zi hl he⟩,?_⟩
  split at hs
  ·simp only[Option.some.injEq,Prod.mk.injEq]at hs ⊢
   obtain⟨rfl,rfl,rfl⟩:=hs;exact⟨rfl,rfl,trivial⟩
  ·cases hs
 case appB b x =>
  simp only[A7,Option.bind_eq_some_iff]at hs ⊢
  obtain⟨es,⟨a,ha,he⟩,hs⟩:=hs
  refine⟨es,⟨a,ha,Zi hl he⟩,?_⟩
  split at hs
  ·simp only[Option.some.injEq,Prod.mk.injEq]at hs ⊢
   obtain⟨rfl,rfl,rfl⟩:=hs;exact⟨rfl,rfl,trivial⟩
  ·cases hs
 case len k x =>
  simp only[A7,Option.bind_eq_some_iff]at hs ⊢
  obtain⟨a,ha,hs⟩:=hs
  refine⟨a,ha,?_⟩
  split at hs
  ·rename_i hq
   rw[if_pos hq]
   simp only[Option.map_eq_some_iff,Prod.mk.injEq]at hs ⊢
   obtain⟨n,hn,rfl,rfl,rfl⟩:=hs
   exact⟨n,qCZ hl hn,rfl,rfl,trivial⟩
  ·cases hs
 case mvP x =>
  simp only[A7,Option.bind_eq_some_iff]at hs ⊢
  obtain⟨a,ha,hs⟩:=hs
  refine⟨a,ha,?_⟩
  split at hs
  ·rename_i hq
   rw[if_pos (q0Z hl hq)]
   simp only[Option.some.injEq,Prod.mk.injEq]at hs ⊢
   obtain⟨rfl,rfl,rfl⟩:=hs;exact⟨rfl,rfl,trivial⟩
  ·cases hs
 case nckP x =>
  simp only[A7]at hs ⊢
  split at hs
  ·split at hs
   ·rename_i hq
    rw[if_pos (q0Z hl hq)]
    simp only[Option.some.injEq,Prod.mk.injEq]at hs ⊢
    obtain⟨rfl,rfl,rfl⟩:=hs;exact⟨rfl,rfl,trivial⟩
   ·cases hs
  ·cases hs
 case fadP off x =>
  simp only[A7]at hs ⊢
  split at hs
  ·split at hs
   ·rename_i hq
    rw[if_pos (q0Z hl hq)]
    simp only[Option.some.injEq,Prod.mk.injEq]at hs ⊢
    obtain⟨rfl,rfl,rfl⟩:=hs;exact⟨rfl,rfl,trivial⟩
   ·cases hs
  ·cases hs
 case ldP n x =>
  simp only[A7]at hs ⊢
  split at hs
  ·split at hs
   ·rename_i hq0
    rw[hl _ _ hq0]
    split at hs
    ·rename_i hq
     simp only[if_pos (q0Z hl hq)]
     simp only[Option.some.injEq,Prod.mk.injEq]at hs ⊢
     obtain⟨rfl,rfl,rfl⟩:=hs;exact⟨rfl,rfl,trivial⟩
    ·cases hs
   ·cases hs
  ·cases hs
 case lkupA kt zv m k =>
  simp only[A7]at hs ⊢
  split at hs
  ·split at hs
   ·rename_i hq;rw[hl _ _ hq]
    simp only[Option.some.injEq,Prod.mk.injEq]at hs
    obtain⟨rfl,rfl,rfl⟩:=hs;rfl
   ·cases hs
  ·cases hs
 case lkup kt zv ok m k =>
  simp only[A7]at hs ⊢
  split at hs
  ·split at hs
   ·simp only[Option.some.injEq,Prod.mk.injEq]at hs
    obtain⟨rfl,rfl,rfl⟩:=hs;rfl
   ·split at hs
    ·rename_i hq;rw[hl _ _ hq]
     simp only[Option.some.injEq,Prod.mk.injEq]at hs
     obtain⟨rfl,rfl,rfl⟩:=hs;rfl
    ·cases hs
   ·cases hs
  ·cases hs
 case slice s0 x lo hi mx =>
  simp only[A7,Option.bind_eq_some_iff]at hs ⊢
  obtain⟨a,ha,hs⟩:=hs
  refine⟨a,ha,?_⟩
  split at hs
  ·simp only[Option.bind_eq_some_iff,Option.map_eq_some_iff,Prod.mk.injEq]at hs ⊢
   obtain⟨l,hl1,q,hq,rfl,rfl,rfl⟩:=hs
   exact⟨l,hl1,q,hq,rfl,rfl,trivial⟩
  ·simp only[Option.bind_eq_some_iff]at hs ⊢
   obtain⟨l,hl1,q,hq,hs⟩:=hs
   refine⟨l,hl1,q,hq,?_⟩
   cases mx
   ·simp only[Option.some.injEq,Prod.mk.injEq]at hs ⊢
    obtain⟨rfl,rfl,rfl⟩:=hs;exact⟨rfl,rfl,trivial⟩
   ·simp only[Option.map_eq_some_iff,Prod.mk.injEq]at hs ⊢
    obtain⟨m,hm,rfl,rfl,rfl⟩:=hs
    exact⟨m,hm,rfl,rfl,trivial⟩
  ·simp only[Option.bind_eq_some_iff]at hs ⊢
   obtain⟨l,hl1,q,hq,hs⟩:=hs
   refine⟨l,hl1,q,hq,?_⟩
   split at hs
   ·rename_i hz;rw[hl _ _ hz]
    cases mx
    ·simp only[Option.some.injEq,Prod.mk.injEq]at hs ⊢
     obtain⟨rfl,rfl,rfl⟩:=hs;exact⟨rfl,rfl,trivial⟩
    ·simp only[Option.map_eq_some_iff,Prod.mk.injEq]at hs ⊢
     obtain⟨m,hm,rfl,rfl,rfl⟩:=hs
     exact⟨m,hm,rfl,rfl,trivial⟩
   ·cases hs
  ·cases hs
theorem q8o (hn:io.isNew=true) (hs:A7 Γ d io ⟨e,h⟩=some (c,r,s)) (hc:c):(s.hp=h/\∀ h',∃ c',A7 Γ d io ⟨e,h'⟩=some (c',r,⟨e,h'⟩)/\c') \/
  ∃ q,A2 h d=none/\s.hp=(d,q)::h/\∀ h',A2 h' d=none->∃ c',A7 Γ d io ⟨e,h'⟩=some (c',r,⟨e,(d,q)::h'⟩)/\c':=by
 cases io
 all_goals try (simp[B6.isNew]at hn;done)
 case alloc fz zs =>
  cases fz<;>simp[A7]at hs
  ·obtain⟨hcc,rfl,rfl⟩:=hs;exact .inr ⟨_,hcc.2 hc,rfl,fun h' hh=>⟨A2 h' d=none,by simp[A7],hh⟩⟩
  ·obtain⟨_,rfl,rfl⟩:=hs;exact .inl ⟨rfl,fun h'=>⟨True,by simp[A7],trivial⟩⟩
 case allocR ty zs =>
  simp only[A7,Option.some.injEq,Prod.mk.injEq]at hs
  obtain⟨rfl,rfl,rfl⟩:=hs
  exact .inr ⟨_,hc,rfl,fun h' hh=>⟨A2 h' d=none,by simp[A7],hh⟩⟩
 case box fz x =>
  simp only[A7,Option.bind_eq_some_iff]at hs
  obtain⟨a,ha,hs⟩:=hs
  cases fz<;>simp only[Bool.false_eq_true,↓reduceIte,Option.map_eq_some_iff,Option.some.injEq,Prod.mk.injEq]at hs
  ·obtain⟨rfl,rfl,rfl⟩:=hs;exact .inr ⟨_,hc.1,rfl,fun h' hh=>⟨A2 h' d=none/\Aw a.cells=true,by simp[A7,ha],hh,hc.2⟩⟩
  ·obtain⟨ts,hts,rfl,rfl,rfl⟩:=hs;exact .inl ⟨rfl,fun h'=>⟨Bi ts=true,by simp[A7,ha,hts],hc⟩⟩
 case bslA ty s0 parts =>
  simp only[A7,Option.map_eq_some_iff,Prod.mk.injEq]at hs
  obtain⟨as,ha,rfl,rfl,rfl⟩:=hs
  exact .inr ⟨_,hc.1,rfl,fun h' hh=>⟨A2 h' d=none/\(∀ a∈as,a.cells.length=s0/\Aw a.cells=true),by simp[A7,ha],hh,hc.2⟩⟩
 case bsl fz ty s0 parts =>
  simp only[A7,Option.bind_eq_some_iff,Option.map_eq_some_iff]at hs
  obtain⟨as,ha,es,he,hs⟩:=hs
  cases fz<;>simp only[Bool.false_eq_true,↓reduceIte,Prod.mk.injEq]at hs
  ·obtain⟨rfl,rfl,rfl⟩:=hs;exact .inr ⟨_,hc.1,rfl,fun h' hh=>⟨A2 h' d=none/\∀ e∈es,e.length=s0/\Bi e=true,by simp[A7,ha,he],hh,hc.2⟩⟩
  ·obtain⟨rfl,rfl,rfl⟩:=hs;exact .inl ⟨rfl,fun h'=>⟨∀ e∈es,e.length=s0/\Bi e=true,by simp[A7,ha,he],hc⟩⟩
 case mk ty s0 zs l cc =>
  simp only[A7]at hs
  split at hs
  ·rename_i e1 e2
   simp only[Option.some.injEq,Prod.mk.injEq]at hs
   obtain⟨rfl,rfl,rfl⟩:=hs;exact .inr ⟨_,hc.1,rfl,fun h' hh=>⟨_,by simp only[A7,e1,e2];rfl,by exact⟨hh,hc.2⟩⟩⟩
  ·cases hs
 case mkE ty s0 zs l cc =>
  simp only[A7]at hs
  split at hs
  ·rename_i e1 e2
   simp only[Option.some.injEq,Prod.mk.injEq]at hs
   obtain⟨rfl,rfl,rfl⟩:=hs;exact .inr ⟨_,hc.1,rfl,fun h' hh=>⟨_,by simp only[A7,e1,e2];rfl,by exact⟨hh,hc.2⟩⟩⟩
  ·cases hs
 case appZ ty s0 zs l cc =>
  simp only[A7]at hs
  split at hs
  ·rename_i e1 e2
   simp only[Option.some.injEq,Prod.mk.injEq]at hs
   obtain⟨rfl,rfl,rfl⟩:=hs;exact .inr ⟨_,hc.1,rfl,fun h' hh=>⟨_,by simp only[A7,e1,e2];rfl,by exact⟨hh,hc.2⟩⟩⟩
  ·cases hs
 case appN ty s0 x =>
  simp only[A7]at hs
  split at hs
  ·rename_i e1
   simp only[Option.some.injEq,Prod.mk.injEq]at hs
   obtain⟨rfl,rfl,rfl⟩:=hs;exact .inr ⟨_,hc.1,rfl,fun h' hh=>⟨_,by simp only[A7,e1];rfl,by exact⟨hh,hc.2⟩⟩⟩
  ·cases hs
 case mkB ty zs l cc =>
  simp only[A7]at hs
  split at hs
  ·rename_i e1 e2
   simp only[Option.some.injEq,Prod.mk.injEq]at hs
   obtain⟨rfl,rfl,rfl⟩:=hs;exact .inr ⟨_,hc.1,rfl,fun h' hh=>⟨_,by simp only[A7,e1,e2];rfl,by exact⟨hh,hc.2⟩⟩⟩
  ·cases hs
 case mkmap =>
  simp only[A7,Option.some.injEq,Prod.mk.injEq]at hs
  obtain⟨rfl,rfl,rfl⟩:=hs;exact .inr ⟨_,hc,rfl,fun h' hh=>⟨_,by simp only[A7],hh⟩⟩
 case rng x =>
  simp only[A7]at hs
  split at hs
  ·rename_i e1
   simp only[Option.some.injEq,Prod.mk.injEq]at hs
   obtain⟨rfl,rfl,rfl⟩:=hs;exact .inr ⟨_,hc,rfl,fun h' hh=>⟨_,by simp only[A7,e1],hh⟩⟩
  ·cases hs
theorem qBQ {id n:Nat} {a x:Operand} (hs:A7 Γ d (.stR id n a x) ⟨e,h⟩=some (c,r,s)) (hc:c) :
  ∃ q q',A2 h id=some q/\q'.sh=q.sh/\s.hp=Bm id q' h/\∀ h',A2 h' id=some q->∃ c',A7 Γ d (.stR id n a x) ⟨e,h'⟩=some (c',r,⟨e,Bm id q' h'⟩)/\c':=by
 simp only[A7]at hs
 split at hs
 case isFalse=>cases hs
 rename_i hp
 simp only[Option.bind_eq_some_iff]at hs
 obtain⟨v,hv,hs⟩:=hs
 split at hs
 case h_2=>cases hs
 rename_i j i k ha
 have hj:j=id:=by rw[ha]at hp;simpa[D5]using hp
 subst hj
 split at hs
 ·rename_i ty s0 es hl
  simp only[Option.map_eq_some_iff,Prod.mk.injEq]at hs
  obtain⟨ts,hts,rfl,rfl,rfl⟩:=hs
  exact⟨_,_,hl,by simp[Aj.sh],rfl,fun h' hh=>⟨_,by simp only[A7,hv,ha,hh,hts,D5,beq_self_eq_true,↓reduceIte,Option.bind_some,Option.map_some],hc⟩⟩
 ·rename_i ty s0 es hl
  simp only[Option.some.injEq,Prod.mk.injEq]at hs
  obtain⟨rfl,rfl,rfl⟩:=hs
  exact⟨_,.rs ty s0 (es.set i (if k=0/\n=s0 then v.cells else(es.getD i []).take k++v.cells++(es.getD i []).drop (k+n))),hl,by simp[Aj.sh],rfl,fun h' hh=>⟨_,by simp only[A7,hv,ha,hh,D5,beq_self_eq_true,↓reduceIte,Option.bind_some,Option.map_some],hc⟩⟩
 ·rename_i cs hl
  simp only[Option.some.injEq,Prod.mk.injEq]at hs
  obtain⟨rfl,rfl,rfl⟩:=hs
  exact⟨_,.bx (cs.take k++v.cells++cs.drop (k+n)),hl,rfl,rfl,fun h' hh=>⟨_,by simp only[A7,hv,ha,hh,D5,beq_self_eq_true,↓reduceIte,Option.bind_some,Option.map_some],hc⟩⟩
 ·cases hs
theorem q8p {id f:Nat} {a x:Operand} (hs:A7 Γ d (.stF id f a x) ⟨e,h⟩=some (c,r,s)) (hc:c) :
  ∃ (ty s0 i:Nat) (v:AV) (es:List (List AV)),A2 h id=some (.rs ty s0 es)/\s.hp=Bm id (.rs ty s0 (es.set i ((es.getD i []).set f v))) h /\
   ∀ (h':List (Nat×Aj)) (es':List (List AV)),A2 h' id=some (.rs ty s0 es')->es'.length=es.length->(es'.getD i []).length=(es.getD i []).length ->
    ∃ c',A7 Γ d (.stF id f a x) ⟨e,h'⟩=some (c',r,⟨e,Bm id (.rs ty s0 (es'.set i ((es'.getD i []).set f v))) h'⟩)/\c':=by
 simp only[A7,Option.bind_eq_some_iff]at hs
 obtain⟨v,hv,hs⟩:=hs
 split at hs
 case h_2=>cases hs
 rename_i j i k ha
 split at hs
 case isFalse=>cases hs
 rename_i hjk
 obtain⟨rfl,rfl⟩:=hjk
 split at hs
 case h_2=>cases hs
 rename_i ty s0 es hl
 simp only[Option.some.injEq,Prod.mk.injEq]at hs
 obtain⟨rfl,rfl,rfl⟩:=hs
 refine⟨ty,s0,i,v,es,hl,rfl,fun h' es' hl' h1 h2=>⟨i<es'.length/\k+1<=s0/\v.one=true/\(es'.getD i []).length=s0,?_,by rw[h1,h2];exact hc⟩⟩
 simp only[A7,hv,ha,Option.bind_some,and_self,if_true,hl']
theorem qDQ {id s0:Nat} {x i:Operand} (hs:A7 Γ d (.iaR id s0 x i) ⟨e,h⟩=some (c,r,s)) (hh:(A2 h' id).map Aj.sh=(A2 h id).map Aj.sh):A7 Γ d (.iaR id s0 x i) ⟨e,h'⟩=some (c,r,⟨e,h'⟩):=by
 simp only[A7]at hs
 split at hs
 case h_2=>cases hs
 rename_i j off len cap k n e1 e2
 split at hs
 case isFalse=>cases hs
 rename_i hj
 subst hj
 split at hs
 ·rename_i ty q es hl
  simp only[Option.some.injEq,Prod.mk.injEq]at hs
  obtain⟨rfl,rfl,rfl⟩:=hs
  rw[hl]at hh
  simp only[Option.map_some,Aj.sh,Option.map_eq_some_iff]at hh
  obtain⟨q',h1,h2⟩:=hh
  cases q'<;>simp at h2
  all_goals (obtain⟨rfl,_⟩:=h2;simp only[A7,e1,e2,h1,if_true])
 ·rename_i ty q es hl
  simp only[Option.some.injEq,Prod.mk.injEq]at hs
  obtain⟨rfl,rfl,rfl⟩:=hs
  rw[hl]at hh
  simp only[Option.map_some,Aj.sh,Option.map_eq_some_iff]at hh
  obtain⟨q',h1,h2⟩:=hh
  cases q'<;>simp at h2
  all_goals (obtain⟨rfl,_⟩:=h2;simp only[A7,e1,e2,h1,if_true])
 ·cases hs
theorem qFZ {id n:Nat} {g:Bool} {a:Operand} (hs:A7 Γ d (.ldR id n g a) ⟨e,h⟩=some (c,r,s)) (hh:A2 h' id=A2 h id):A7 Γ d (.ldR id n g a) ⟨e,h'⟩=some (c,r,⟨e,h'⟩):=by
 simp only[A7]at hs
 split at hs
 case isFalse=>cases hs
 rename_i hp
 split at hs
 ·rename_i ha;rw[ha]at hp;simp[D5]at hp
 ·rename_i j i k ha
  have hj:j=id:=by rw[ha]at hp;simpa[D5]using hp
  subst hj
  split at hs
  ·rename_i hl
   simp only[Option.some.injEq,Prod.mk.injEq]at hs
   obtain⟨rfl,rfl,rfl⟩:=hs
   simp only[A7,ha,hh,hl,D5,beq_self_eq_true,↓reduceIte]
  ·rename_i hl
   simp only[Option.some.injEq,Prod.mk.injEq]at hs
   obtain⟨rfl,rfl,rfl⟩:=hs
   simp only[A7,ha,hh,hl,D5,beq_self_eq_true,↓reduceIte]
  ·rename_i hl
   simp only[Option.some.injEq,Prod.mk.injEq]at hs
   obtain⟨rfl,rfl,rfl⟩:=hs
   simp only[A7,ha,hh,hl,D5,beq_self_eq_true,↓reduceIte]
  ·cases hs
 ·cases hs
theorem qFa {s0:Nat} {x i:Operand} (hs:A7 Γ d (.iadr s0 x i) ⟨e,h⟩=some (c,r,s)) (hh:∀ k,(A2 h' k).map Aj.sh=(A2 h k).map Aj.sh):A7 Γ d (.iadr s0 x i) ⟨e,h'⟩=some (c,r,⟨e,h'⟩):=by
 simp only[A7]at hs
 split at hs
 ·rename_i e1 e2
  simp only[Option.some.injEq,Prod.mk.injEq]at hs
  obtain⟨rfl,rfl,rfl⟩:=hs
  simp only[A7,e1,e2]
 ·rename_i id off len cap k n e1 e2
  split at hs
  ·rename_i ty q es hl
   simp only[Option.some.injEq,Prod.mk.injEq]at hs
   obtain⟨rfl,rfl,rfl⟩:=hs
   have:=hh id
   rw[hl]at this
   simp only[Option.map_some,Aj.sh,Option.map_eq_some_iff]at this
   obtain⟨q',h1,h2⟩:=this
   cases q'<;>simp at h2
   all_goals (obtain⟨rfl,_⟩:=h2;simp only[A7,e1,e2,h1])
  ·rename_i ty q es hl
   simp only[Option.some.injEq,Prod.mk.injEq]at hs
   obtain⟨rfl,rfl,rfl⟩:=hs
   have:=hh id
   rw[hl]at this
   simp only[Option.map_some,Aj.sh,Option.map_eq_some_iff]at this
   obtain⟨q',h1,h2⟩:=this
   cases q'<;>simp at h2
   all_goals (obtain⟨rfl,_⟩:=h2;simp only[A7,e1,e2,h1])
  ·cases hs
 ·rename_i id m k n e1 e2
  split at hs
  ·rename_i cs hl
   simp only[Option.some.injEq,Prod.mk.injEq]at hs
   obtain⟨rfl,rfl,rfl⟩:=hs
   have:=hh id
   rw[hl]at this
   simp only[Option.map_some,Aj.sh,Option.map_eq_some_iff]at this
   obtain⟨q',h1,h2⟩:=this
   cases q'<;>simp at h2
   simp only[A7,e1,e2,h1]
  ·cases hs
 ·cases hs
end
end Go.Lg
namespace Go.Lg
open Go
def RO.reads (ro:RO):List Nat:=(ro.op.opds.filterMap fun | .tmp t=>some t|_=>none)++(ro.guard.map (·.1)).toList
def qDR (x y:RO):Bool:=match x.op,y.op with
 | .stR i _ _ _,.stR j _ _ _ | .stR i _ _ _,.ldR j _ _ _ | .ldR i _ _ _,.stR j _ _ _=>i != j
 | .stR _ _ _ _,.iadr _ _ _ | .iadr _ _ _,.stR _ _ _ _=>true
 | .stR i _ _ _,io=>io.isNew&&i != y.d
 | io,.stR j _ _ _=>io.isNew&&j != x.d
 | io,.ldR j _ _ _=>io.isNew&&j != x.d
 | io,jo=>io.isNew&&jo.isNew&&x.d != y.d
def qDS (x y:RO):Bool:=match x.op,y.op with
 | .ncall _ _ base,.ldR j _ _ _=>decide (j<base)
 | .ncall _ _ base,.iaR j _ _ _=>decide (j<base)
 | .ncall _ _ base,.stF j _ _ _=>decide (j<base)
 | .stF i f _ _,.stF j g _ _=>i != j||f != g
 | .stF _ _ _ _,.iaR _ _ _ _ | .iaR _ _ _ _,.stF _ _ _ _=>true
 | .stF _ _ _ _,.iadr _ _ _ | .iadr _ _ _,.stF _ _ _ _=>true
 | .stF i _ _ _,.ldR j _ _ _ | .ldR i _ _ _,.stF j _ _ _=>i != j
 | _,_=>false
def B6.isN:B6->Bool
 | .ncall _ _ _=>true
 | io=>io.isNew
def qDT (x y:RO):Bool:=match x.op,y.op,x.dst,y.dst with
 | .mv (.tmp a),.app _ _ _ b v,some dx,some dy=>x.guard.isNone&&y.guard.isNone&&(match b with | .tmp t=>t != dx|_=>true)&&(match v with | .tmp t=>t != dx|_=>true)&&dy != a&&dy != dx
 | .app _ _ _ b v,.mv (.tmp a),some dy,some dx=>x.guard.isNone&&y.guard.isNone&&(match b with | .tmp t=>t != dx|_=>true)&&(match v with | .tmp t=>t != dx|_=>true)&&dy != a&&dy != dx
 | _,_,_,_=>false
def nt (o:Operand) (d:Nat):Bool:=match o with | .tmp t=>t != d|_=>true
def qDU (x y:RO):Bool:=match x.op,y.op,x.dst,y.dst with
 | .appR true _ _ b v,.ldT _ _ (.tmp a),some dx,some dy=>x.guard.isNone&&y.guard.isNone&&nt b dy&&nt v dy&&a != dx&&dx != dy
 | .ldT _ _ (.tmp a),.appR true _ _ b v,some dy,some dx=>x.guard.isNone&&y.guard.isNone&&nt b dy&&nt v dy&&a != dx&&dx != dy
 | .appR true i _ b v,.alloc false _,some dx,some dy=>x.guard.isNone&&y.guard.isNone&&nt b dy&&nt v dy&&dx != dy&&y.d != i
 | .alloc false _,.appR true i _ b v,some dy,some dx=>x.guard.isNone&&y.guard.isNone&&nt b dy&&nt v dy&&dx != dy&&x.d != i
 | _,_,_,_=>false
def qDV (x y:RO):Bool:=match x.op,y.op,x.dst,y.dst with
 | .app false _ _ b v,.fadr _ (.tmp a),some dx,some dy=>x.guard.isNone&&y.guard.isNone&&nt b dy&&nt v dy&&a != dx&&dx != dy
 | .app false _ _ b v,.ldR j _ false (.tmp a),some dx,some dy=>x.guard.isNone&&y.guard.isNone&&nt b dy&&nt v dy&&a != dx&&dx != dy&&j != x.d
 | .app false _ _ b v,.bsl true _ _ ps,some dx,some dy=>x.guard.isNone&&y.guard.isNone&&nt b dy&&nt v dy&&ps.all (nt · dx)&&dx != dy
 | _,_,_,_=>false
def qDW (x y:RO):Bool:=match y.op,x.dst,y.dst with
 | .app false _ _ (.tmp b) v,some dx,some dy=>x.guard.isNone&&y.guard.isNone&&b != dx&&nt v dx&&dx != dy&&x.op.opds.all (nt · dy) &&
  (match x.op with | .mvP _ | .nckP _ | .fadP _ _ | .ldP _ _ | .iadT _ _ _ | .ldT _ _ _=>true|_=>false)
 | _,_,_=>false
def rdG (dx d:Nat):B6->Bool
 | .fadr _ (.tmp a)=>a != dx
 | .ldR j _ false (.tmp a)=>a != dx&&j != d
 | .bsl true _ _ ps=>ps.all (nt · dx)
 | .mv (.tmp a)=>a != dx
 | .iadT _ (.tmp a) (.tmp i)=>a != dx&&i != dx
 | .ldT _ _ (.tmp a)=>a != dx
 | _=>false
def qDX (x y:RO):Bool:=match x.op,x.dst,y.dst with
 | .appA _ _ b v,some dx,some dy=>x.guard.isNone&&y.guard.isNone&&nt b dy&&nt v dy&&dx != dy&&rdG dx x.d y.op
 | .app false _ _ b v,some dx,some dy=>x.guard.isNone&&y.guard.isNone&&nt b dy&&nt v dy&&dx != dy&&rdG dx x.d y.op
 | _,_,_=>false
def qDY (x y:RO):Bool:=match x.op,x.dst,y.op,y.dst with
 | .hcallv a args rs _,some dx,.alloc false _,some dy=>x.guard.isNone&&y.guard.isNone&&nt a dy&&args.all (nt · dy)&&dx != dy && !rs.contains y.d
 | _,_,_,_=>false
def qAF (x y:RO):Bool:=qDY x y||qDX x y||qDT x y||qDU x y||qDV x y||qDW x y ||
 (x.op.kd<=2&&y.op.kd<=2&&(x.op.kd==0||y.op.kd==0||(x.op.kd<=1&&y.op.kd<=1)||(x.op.kd<=1&&y.op.isN)||(x.op.isN&&y.op.isN)||qDR x y||qDS x y)) &&
 (match x.dst with|some d=>!y.reads.contains d&&y.dst != some d|none=>true) &&
 (match y.dst with|some d=>!x.reads.contains d|none=>true)
def Dh (a b:St):Prop:=(∀ k,A2 b.env k=A2 a.env k)/\∀ k,A2 b.hp k=A2 a.hp k
theorem Dh.rfl' {a:St}:Dh a a:=⟨fun _=>rfl,fun _=>rfl⟩
theorem Dh.trans {a b c:St} (h:Dh a b) (h':Dh b c):Dh a c:=⟨fun k=>(h'.1 k).trans (h.1 k),fun k=>(h'.2 k).trans (h.2 k)⟩
section
variable {P:Program} {Γ:Tables} {d:Nat} {io:B6} {e e':List (Nat×AV)} {h h' h1 h2:List (Nat×Aj)} {c:Prop} {r r1 r2:AV} {s st st' st1 st2 s2:St} {ro x y:RO}
theorem B0.alike {w0:World} {B:Nat} {κ:Be} {X:Nat->Prop} {μ:Be} {tm:Array Value} {w:World} (hs:B0 w0 B κ X μ st tm w) (ha:Dh st st'):B0 w0 B κ X μ st' tm w:=by
 have e:st'.sh=st.sh:=funext fun t=>by simp only[St.sh,ha.2]
 refine⟨fun t a ht=>?_,fun id r hr=>?_,?_,?_,?_,hs.kbig,hs.xlt,hs.os,hs.tape,hs.output,hs.size,hs.fr⟩
 ·rw[e];exact hs.env t a (by rw[<- ha.1 t];exact ht)
 ·rw[e];exact hs.reg id r (by rw[<- ha.2];exact hr)
 ·rw[e];exact hs.inj
 ·rw[e];exact hs.loc
 ·rw[e];exact hs.kap
theorem q3D (hk:io.kd<=2) (hx:∀ o∈io.opds,ev Γ e' o=ev Γ e o) (hs:C9 P Γ d io ⟨e,h⟩ r s):s.env=e/\C9 P Γ d io ⟨e',h⟩ r ⟨e',s.hp⟩:=by
 have gen:(∃ c,A7 Γ d io ⟨e,h⟩=some (c,r,s)/\c)->s.env=e/\∃ c,A7 Γ d io ⟨e',h⟩=some (c,r,⟨e',s.hp⟩)/\c:=by
  rintro⟨c,hs,hc⟩
  refine⟨?_,c,?_,hc⟩
  ·have:=q2D (Γ:=Γ) (d:=d) (e:=e) (e':=e) (h:=h) hk (fun _ _=>rfl)
   rw[hs]at this
   simp only[Option.map_some,Option.some.injEq,Prod.mk.injEq]at this
   rw[this.2.2]
  ·rw[q2D hk hx,hs];rfl
 cases io with
 | call f args =>
  obtain⟨as,res,h1,h2,h3,rfl⟩:=hs
  exact⟨rfl,as,res,(Es hx).trans h1,h2,h3,rfl⟩
 | callv a args =>
  obtain⟨b,f,cs,as,res,h0,h1,h2,h3,h4,rfl⟩:=hs
  simp only[B6.opds,List.mem_cons,forall_eq_or_imp]at hx
  exact⟨rfl,b,f,cs,as,res,hx.1.trans h0,h1,(Es hx.2).trans h2,h3,h4,rfl⟩
 | hcall f args rs base=>simp[B6.kd]at hk
 | hcallv x args rs base=>simp[B6.kd]at hk
 | hcallW f args base=>simp[B6.kd]at hk
 | hcallvW x args base=>simp[B6.kd]at hk
 | hcallB x args base=>simp[B6.kd]at hk
 | ncall f args base =>
  obtain⟨as,res,hp',h1,h2,h3,h4,rfl⟩:=hs
  exact⟨rfl,as,res,hp',(Es hx).trans h1,h2,h3,h4,rfl⟩
 | callT f args =>
  obtain⟨as,ts,res,h1,h2,h3,h4,rfl⟩:=hs
  exact⟨rfl,as,ts,res,(Es hx).trans h1,h2,h3,h4,rfl⟩
 | rcall f args rs =>
  obtain⟨as,res,h1,h2,h3,h4,h5,rfl⟩:=hs
  exact⟨rfl,as,res,(Es hx).trans h1,h2,h3,h4,h5,rfl⟩
 | _=>exact gen hs
theorem q1U (hk:io.kd<=1) (hs:C9 P Γ d io st r s):s=st:=by
 obtain⟨e,h⟩:=st
 have gen:(∃ c,A7 Γ d io ⟨e,h⟩=some (c,r,s)/\c)->s=⟨e,h⟩:=by
  rintro⟨c,hs,hc⟩
  have:=qDO (Γ:=Γ) (d:=d) (e:=e) (h:=h) hk
  rw[hs]at this
  simp only[Option.map_some,Option.some.injEq,Prod.mk.injEq]at this
  exact this.2.2
 cases io with
 | call f args=>obtain⟨as,res,h1,h2,h3,h4⟩:=hs;exact h4
 | callv a args=>obtain⟨b,f,cs,as,res,h0,h1,h2,h3,h4,h5⟩:=hs;exact h5
 | hcall f args rs base=>simp[B6.kd]at hk
 | hcallv x args rs base=>simp[B6.kd]at hk
 | hcallW f args base=>simp[B6.kd]at hk
 | hcallvW x args base=>simp[B6.kd]at hk
 | hcallB x args base=>simp[B6.kd]at hk
 | ncall f args base=>simp[B6.kd]at hk
 | callT f args=>obtain⟨as,ts,res,h1,h2,h3,h4,h5⟩:=hs;exact h5
 | rcall f args rs=>obtain⟨as,res,h1,h2,h3,h4,h5,h6⟩:=hs;exact h6
 | _=>exact gen hs
theorem qDZ (hk:io.kd=0) (hs:C9 P Γ d io ⟨e,h⟩ r s):C9 P Γ d io ⟨e,h'⟩ r ⟨e,h'⟩:=by
 have gen:(∃ c,A7 Γ d io ⟨e,h⟩=some (c,r,s)/\c)->∃ c,A7 Γ d io ⟨e,h'⟩=some (c,r,⟨e,h'⟩)/\c:=by
  rintro⟨c,hs,hc⟩
  refine⟨c,?_,hc⟩
  rw[qDP (h:=h) hk,hs];rfl
 cases io with
 | call f args=>simp[B6.kd]at hk
 | callv a args=>simp[B6.kd]at hk
 | hcall f args rs base=>simp[B6.kd]at hk
 | hcallv x args rs base=>simp[B6.kd]at hk
 | hcallW f args base=>simp[B6.kd]at hk
 | hcallvW x args base=>simp[B6.kd]at hk
 | hcallB x args base=>simp[B6.kd]at hk
 | ncall f args base=>simp[B6.kd]at hk
 | callT f args=>obtain⟨as,ts,res,h1,h2,h3,h4,h5⟩:=hs;exact⟨as,ts,res,h1,h2,h3,h4,rfl⟩
 | rcall f args rs=>simp[B6.kd]at hk
 | _=>exact gen hs
def Ao (P:Program) (Γ:Tables) (ro:RO) (st:St) (r:AV) (h1:List (Nat×Aj)):Prop :=
 (D4 st.env ro.guard=some true/\C9 P Γ ro.d ro.op st r ⟨st.env,h1⟩)\/(D4 st.env ro.guard=some false/\r=.un/\h1=st.hp)
theorem qBR (hk:ro.op.kd<=2) (hs:Bt P Γ ro st s):∃ r h1,Ao P Γ ro st r h1/\s=St.put ⟨st.env,h1⟩ ro.dst r:=by
 rcases hs with⟨hw,r,st1,hx,rfl⟩|⟨hw,rfl⟩
 ·have h1:=(q3D (e':=st.env) hk (fun _ _=>rfl) hx).1
  obtain⟨e1,hp1⟩:=st1
  simp only at h1;subst h1
  exact⟨r,hp1,.inl ⟨hw,hx⟩,rfl⟩
 ·exact⟨.un,st.hp,.inr ⟨hw,rfl,rfl⟩,rfl⟩
theorem Ao.step (hs:Ao P Γ ro st r h1):Bt P Γ ro st (St.put ⟨st.env,h1⟩ ro.dst r):=by
 rcases hs with⟨hw,hx⟩|⟨hw,rfl,rfl⟩
 ·exact .inl ⟨hw,r,_,hx,rfl⟩
 ·exact .inr ⟨hw,rfl⟩
theorem qDa (hx:∀ t∈ro.reads,A2 e' t=A2 e t):∀ o∈ro.op.opds,ev Γ e' o=ev Γ e o:=by
 intro o ho
 cases o with
 | tmp t=>exact hx t (List.mem_append_left _ (List.mem_filterMap.2 ⟨_,ho,rfl⟩))
 | _=>rfl
theorem qAG (hx:∀ t∈ro.reads,A2 e' t=A2 e t):D4 e' ro.guard=D4 e ro.guard:=by
 cases hg:ro.guard with
 | none=>rfl
 | some gb=>simp only[D4,hx gb.1 (List.mem_append_right _ (by simp[hg]))]
theorem Ao.env (hk:ro.op.kd<=2) (hx:∀ t∈ro.reads,A2 e' t=A2 e t) (hs:Ao P Γ ro ⟨e,h⟩ r h1):Ao P Γ ro ⟨e',h⟩ r h1:=by
 have hw:D4 e' ro.guard=D4 e ro.guard:=qAG hx
 rcases hs with⟨hw',ha⟩|⟨hw',rfl,rfl⟩
 ·exact .inl ⟨hw.trans hw',(q3D hk (qDa hx) ha).2⟩
 ·exact .inr ⟨hw.trans hw',rfl,rfl⟩
theorem Ao.same (hk:ro.op.kd<=1) (hs:Ao P Γ ro ⟨e,h⟩ r h1):h1=h:=by
 rcases hs with⟨hw',ha⟩|⟨hw',rfl,rfl⟩
 ·have:=q1U hk ha
  simpa using this
 ·rfl
theorem Ao.hp (hk:ro.op.kd=0) (hs:Ao P Γ ro ⟨e,h⟩ r h1):Ao P Γ ro ⟨e,h'⟩ r h':=by
 rcases hs with⟨hw',ha⟩|⟨hw',rfl,rfl⟩
 ·exact .inl ⟨hw',qDZ hk ha⟩
 ·exact .inr ⟨hw',rfl,rfl⟩
theorem Hk {α β:Type} {f g:α->Option β}:∀ {cs:List α} {ts:List β},(∀ c∈cs,∀ t,f c=some t->g c=some t)->Ac (cs.map f)=some ts->Ac (cs.map g)=some ts
 | [],ts,_,ho=>ho
 | c::cs,ts,hf,ho=>by
  simp only[List.map_cons]at ho ⊢
  cases hc:f c with
  | none=>rw[hc]at ho;simp[Ac]at ho
  | some t =>
   rw[hc]at ho;rw[hf c List.mem_cons_self t hc]
   simp only[Ac,Option.map_eq_some_iff]at ho ⊢
   obtain⟨ts',ho',rfl⟩:=ho
   exact⟨ts',Hk (fun c hm=>hf c (List.mem_cons_of_mem _ hm)) ho',rfl⟩
theorem qCa (hl:∀ id x,A2 h id=some x->A2 h' id=some x):∀ {n:Nat} {a:AV} {t:T},Aq h n a=some t->Aq h' n a=some t:=by
 intro n
 induction n with
 | zero=>intro a t hs;cases a<;>simp only[Aq]at hs ⊢<;>exact hs
 | succ n ih =>
  intro a t hs
  cases a with
  | t x=>simp only[Aq]at hs ⊢;exact hs
  | ag cs =>
   simp only[Aq,Option.map_eq_some_iff]at hs ⊢
   obtain⟨ts,h1,h2⟩:=hs
   exact⟨ts,Hk (fun c _ t hc=>ih hc) h1,h2⟩
  | fn f cs =>
   simp only[Aq]at hs ⊢
   split at hs
   case isFalse=>cases hs
   rename_i hlt
   rw[if_pos hlt]
   simp only[Option.map_eq_some_iff]at hs ⊢
   obtain⟨ts,h1,h2⟩:=hs
   exact⟨ts,Hk (fun c _ t hc=>ih hc) h1,h2⟩
  | ls id off len cap =>
   simp only[Aq]at hs ⊢
   split at hs
   ·rename_i hq;rw[hl _ _ hq];exact hs
   ·rename_i hq;rw[hl _ _ hq]
    simp only[Option.map_eq_some_iff]at hs ⊢
    obtain⟨ts,h1,h2⟩:=hs
    exact⟨ts,Hk (fun c _ t hc=>Hk (fun c _ t hc=>ih hc) hc) h1,h2⟩
   ·cases hs
  | lp id i k =>
   simp only[Aq]at hs ⊢
   split at hs
   ·rename_i hq;rw[hl _ _ hq];exact hs
   ·rename_i hq;rw[hl _ _ hq]
    simp only[Option.map_eq_some_iff]at hs ⊢
    obtain⟨ts,h1,h2⟩:=hs
    exact⟨ts,Hk (fun c _ t hc=>ih hc) h1,h2⟩
   ·rename_i hq;rw[hl _ _ hq]
    simp only[Option.map_eq_some_iff]at hs ⊢
    obtain⟨ts,h1,h2⟩:=hs
    exact⟨ts,Hk (fun c _ t hc=>ih hc) h1,h2⟩
   ·cases hs
  | li id=>simp[Aq]at hs
  | lb id m =>
   simp only[Aq]at hs ⊢
   split at hs
   ·rename_i hq;rw[hl _ _ hq]
    simp only[Option.map_eq_some_iff]at hs ⊢
    obtain⟨ts,h1,h2⟩:=hs
    exact⟨ts,Hk (fun c _ t hc=>ih hc) h1,h2⟩
   ·cases hs
  | lm id =>
   simp only[Aq]at hs ⊢
   split at hs
   ·rename_i hq;rw[hl _ _ hq];exact hs
   ·cases hs
  | dead=>simp[Aq]at hs
  | un=>simp[Aq]at hs
  | tu=>simp[Aq]at hs
theorem Zg.add {f:FuncId} {as:List AV} {res:T} (hl:∀ id x,A2 h id=some x->A2 h' id=some x) (hc:Zg P Γ h f as res):Zg P Γ h' f as res:=by
 rcases hc with hc|⟨ts,h1,h2⟩
 ·exact .inl hc
 ·exact .inr ⟨ts,Hk (fun c _ t hc=>qCa hl hc) h1,h2⟩
theorem q78 (hl:∀ id x,A2 h id=some x->A2 h' id=some x) (hk:io.kd<=1) (hs:C9 P Γ d io ⟨e,h⟩ r s):C9 P Γ d io ⟨e,h'⟩ r ⟨e,h'⟩:=by
 have gen:(∃ c,A7 Γ d io ⟨e,h⟩=some (c,r,s)/\c)->∃ c,A7 Γ d io ⟨e,h'⟩=some (c,r,⟨e,h'⟩)/\c:=by
  rintro⟨c,hs,hc⟩
  exact⟨c,qFY hk hl hs,hc⟩
 cases io with
 | call f args=>obtain⟨as,res,h1,h2,h3,h4⟩:=hs;exact⟨as,res,h1,h2.add hl,h3,rfl⟩
 | callv a args=>obtain⟨b,f,cs,as,res,h0,h1,h2,h3,h4,h5⟩:=hs;exact⟨b,f,cs,as,res,h0,h1,h2,h3.add hl,h4,rfl⟩
 | hcall f args rs base=>simp[B6.kd]at hk
 | hcallv x args rs base=>simp[B6.kd]at hk
 | hcallW f args base=>simp[B6.kd]at hk
 | hcallvW x args base=>simp[B6.kd]at hk
 | hcallB x args base=>simp[B6.kd]at hk
 | ncall f args base=>simp[B6.kd]at hk
 | callT f args=>obtain⟨as,ts,res,h1,h2,h3,h4,h5⟩:=hs;exact⟨as,ts,res,h1,h2,h3,h4,rfl⟩
 | rcall f args rs =>
  obtain⟨as,res,h1,h2,h3,h4,h5,h6⟩:=hs
  have he:Ba rs h'=Ba rs h:=by
   unfold Ba
   have:∀ l:List Nat,(∀ i∈l,i∈rs)->l.filterMap (fun i=>(A2 h' i).map fun r=>(1000000+rs.idxOf i,Bj (Uc rs) r))=l.filterMap (fun i=>(A2 h i).map fun r=>(1000000+rs.idxOf i,Bj (Uc rs) r)):=by
    intro l
    induction l with
    | nil=>intro _;rfl
    | cons i l ih =>
     intro hm
     obtain⟨ty,s,es,hl'⟩:=h3 i (hm i List.mem_cons_self)
     simp only at hl'
     simp only[List.filterMap_cons,hl',hl _ _ hl',ih fun j hj=>hm j (List.mem_cons_of_mem _ hj)]
   exact this rs fun i hi=>hi
  refine⟨as,res,h1,h2,fun i hi=>?_,by rw[he];exact h4,h5,rfl⟩
  obtain⟨ty,s,es,hl'⟩:=h3 i hi
  exact⟨ty,s,es,hl _ _ hl'⟩
 | _=>exact gen hs
theorem Ao.add (hl:∀ id x,A2 h id=some x->A2 h' id=some x) (hk:ro.op.kd<=1) (hs:Ao P Γ ro ⟨e,h⟩ r h1):Ao P Γ ro ⟨e,h'⟩ r h':=by
 rcases hs with⟨hw',ha⟩|⟨hw',rfl,rfl⟩
 ·exact .inl ⟨hw',q78 hl hk ha⟩
 ·exact .inr ⟨hw',rfl,rfl⟩
theorem Ao.new (hn:ro.op.isNew=true) (hs:Ao P Γ ro ⟨e,h⟩ r h1):∀ id x,A2 h id=some x->A2 h1 id=some x:=by
 rcases hs with⟨hw',ha⟩|⟨hw',rfl,rfl⟩
 ·have gen:(∃ c,A7 Γ ro.d ro.op ⟨e,h⟩=some (c,r,⟨e,h1⟩)/\c)->∀ id x,A2 h id=some x->A2 h1 id=some x:=by
   rintro⟨c,hs,hc⟩ id x hx
   rcases qFX hn hs hc with h2|⟨q,h2,h3⟩
   ·simp only at h2;rw[h2];exact hx
   ·simp only at h2;rw[h2]
    have:ro.d≠id:=fun e=>by rw[e,hx]at h3;cases h3
    simp[A2,this,hx]
  cases hop:ro.op with
  | call f args=>rw[hop]at hn;simp[B6.isNew]at hn
  | callv f args=>rw[hop]at hn;simp[B6.isNew]at hn
  | hcall=>rw[hop]at hn;simp[B6.isNew]at hn
  | hcallv=>rw[hop]at hn;simp[B6.isNew]at hn
  | hcallW=>rw[hop]at hn;simp[B6.isNew]at hn
  | hcallvW=>rw[hop]at hn;simp[B6.isNew]at hn
  | hcallB=>rw[hop]at hn;simp[B6.isNew]at hn
  | ncall=>rw[hop]at hn;simp[B6.isNew]at hn
  | callT=>rw[hop]at hn;simp[B6.isNew]at hn
  | rcall=>rw[hop]at hn;simp[B6.isNew]at hn
  | _=>exact gen (by simpa only[C9,hop]using ha)
 ·exact fun id x h=>h
theorem q8q {dst:Option Nat} {k:Nat} (hd:dst≠some k):A2 (St.put ⟨e,h⟩ dst r).env k=A2 e k:=by
 cases dst with
 | none=>rfl
 | some t =>
  have:t≠k:=fun e=>hd (e ▸ rfl)
  simp[St.put,A2,this]
theorem qHf {dst:Option Nat}:(St.put ⟨e,h⟩ dst r).hp=h:=by cases dst<;>rfl
theorem qBS {dst:Option Nat}:St.put ⟨e,h⟩ dst r=⟨(St.put ⟨e,h⟩ dst r).env,h⟩:=by cases dst<;>rfl
theorem Ao.newF (hn:ro.op.isNew=true) (hs:Ao P Γ ro ⟨e,h⟩ r h1):(h1=h/\∀ h',Ao P Γ ro ⟨e,h'⟩ r h')\/∃ q,A2 h ro.d=none/\h1=(ro.d,q)::h/\∀ h',A2 h' ro.d=none->Ao P Γ ro ⟨e,h'⟩ r ((ro.d,q)::h'):=by
 rcases hs with⟨hw,ha⟩|⟨hw,rfl,rfl⟩
 ·have gen:(∃ c,A7 Γ ro.d ro.op ⟨e,h⟩=some (c,r,⟨e,h1⟩)/\c)->(∀ h' h2,(∃ c,A7 Γ ro.d ro.op ⟨e,h'⟩=some (c,r,⟨e,h2⟩)/\c)->C9 P Γ ro.d ro.op ⟨e,h'⟩ r ⟨e,h2⟩) ->
    (h1=h/\∀ h',Ao P Γ ro ⟨e,h'⟩ r h')\/∃ q,A2 h ro.d=none/\h1=(ro.d,q)::h/\∀ h',A2 h' ro.d=none->Ao P Γ ro ⟨e,h'⟩ r ((ro.d,q)::h'):=by
   rintro⟨c,hs,hc⟩ back
   rcases q8o hn hs hc with⟨h2,h3⟩|⟨q,h2,h3,h4⟩
   ·exact .inl ⟨h2,fun h'=>.inl ⟨hw,back _ _ (h3 h')⟩⟩
   ·exact .inr ⟨q,h2,h3,fun h' hh=>.inl ⟨hw,back _ _ (h4 h' hh)⟩⟩
  cases hop:ro.op with
  | call f args=>rw[hop]at hn;simp[B6.isNew]at hn
  | callv f args=>rw[hop]at hn;simp[B6.isNew]at hn
  | hcall=>rw[hop]at hn;simp[B6.isNew]at hn
  | hcallv=>rw[hop]at hn;simp[B6.isNew]at hn
  | hcallW=>rw[hop]at hn;simp[B6.isNew]at hn
  | hcallvW=>rw[hop]at hn;simp[B6.isNew]at hn
  | hcallB=>rw[hop]at hn;simp[B6.isNew]at hn
  | ncall=>rw[hop]at hn;simp[B6.isNew]at hn
  | callT=>rw[hop]at hn;simp[B6.isNew]at hn
  | rcall=>rw[hop]at hn;simp[B6.isNew]at hn
  | _=>exact gen (by simpa only[C9,hop]using ha) (fun h' h2 hq=>by simpa only[C9,hop]using hq)
 ·exact .inl ⟨rfl,fun h'=>.inr ⟨hw,rfl,rfl⟩⟩
theorem q0a {base:Nat} {hp:List (Nat×Aj)}:∀ {hp':List (Nat×Aj)},Qf [] base hp hp'->∀ p∈Fo [] base hp',A2 hp p.1=none
 | [],_,p,hp'=>by cases hp'
 | (j,r)::l,ho,p,hm=>by
  simp only[Fo]at hm
  have h0:=ho.1
  split at hm
  ·rename_i hj
   rw[if_pos hj]at h0
   rcases List.mem_cons.1 hm with rfl|hm
   ·exact h0.1
   ·exact q0a ho.2 p hm
  ·exact q0a ho.2 p hm
theorem Xt {base:Nat} {hp hq:List (Nat×Aj)}:∀ {hp':List (Nat×Aj)},Qf [] base hp hp'->(∀ p∈Fo [] base hp',A2 hq p.1=none)->Qf [] base hq hp'
 | [],_,_=>trivial
 | (j,r)::l,ho,hf=>by
  have h0:=ho.1
  by_cases hj:j<1000000
  ·rw[if_pos hj]at h0
   refine⟨by rw[if_pos hj];exact⟨hf (base+j,Bj (fun i=>some (P2 [] base i)) r) (by simp only[Fo,hj,if_true];exact List.mem_cons_self),h0.2⟩,Xt ho.2 fun p hp=>hf p (by simp only[Fo,hj,if_true];exact List.mem_cons_of_mem _ hp)⟩
  ·rw[if_neg hj]at h0
   simp at h0
theorem Ao.newG (hn:ro.op.isN=true) (hs:Ao P Γ ro ⟨e,h⟩ r h1):∃ L,h1=L++h/\(∀ p∈L,A2 h p.1=none)/\∀ h',(∀ p∈L,A2 h' p.1=none)->Ao P Γ ro ⟨e,h'⟩ r (L++h'):=by
 by_cases ho:∃ f args base,ro.op=.ncall f args base
 ·obtain⟨f,args,base,ho⟩:=ho
  rcases hs with⟨hw,ha⟩|⟨hw,rfl,rfl⟩
  ·simp only[C9,ho]at ha
   obtain⟨as,res,hp',h2,h3,h4,h5,h6⟩:=ha
   simp only[St.mk.injEq,true_and]at h6
   refine⟨Fo [] base hp',h6,q0a h4,fun h' hf=>.inl ⟨hw,?_⟩⟩
   simp only[C9,ho]
   exact⟨as,res,hp',h2,h3,Xt h4 hf,h5,rfl⟩
  ·exact⟨[],rfl,by simp,fun h' _=>.inr ⟨hw,rfl,rfl⟩⟩
 ·have hn':ro.op.isNew=true:=by
   cases hop:ro.op with
   | ncall f args base=>exact absurd ⟨_,_,_,hop⟩ ho
   | _=>rw[hop]at hn;exact hn
  rcases hs.newF hn' with⟨h2,h3⟩|⟨q,h2,h3,h4⟩
  ·exact⟨[],h2,by simp,fun h' _=>h3 h'⟩
  ·exact⟨[(ro.d,q)],h3,by simpa using h2,fun h' hf=>h4 h' (hf (ro.d,q) List.mem_cons_self)⟩
theorem Nk {L:List (Nat×Aj)} {t:Nat} (hl:∀ p∈L,p.1≠t):A2 L t=none:=by
 induction L with
 | nil=>rfl
 | cons p L ih =>
  obtain⟨k,q⟩:=p
  simp only[A2]
  rw[if_neg (hl (k,q) List.mem_cons_self)]
  exact ih fun p hp=>hl p (List.mem_cons_of_mem _ hp)
theorem q6S {L:List (Nat×Aj)} {p:Nat×Aj} (hp:p∈L):A2 L p.1≠none:=by
 induction L with
 | nil=>cases hp
 | cons q L ih =>
  obtain⟨k,r⟩:=q
  simp only[A2]
  split
  ·simp
  ·rename_i hk
   rcases List.mem_cons.1 hp with rfl|hp
   ·exact absurd rfl hk
   ·exact ih hp
theorem Ao.newN (hn:ro.op.isN=true) (hs:Ao P Γ ro ⟨e,h⟩ r h1):∀ id x,A2 h id=some x->A2 h1 id=some x:=by
 obtain⟨L,rfl,hf,_⟩:=hs.newG hn
 intro id x hx
 have:A2 L id=none:=Nk fun p hp e=>by
  have:=hf p hp
  rw[e,hx]at this;cases this
 rw[B8,this,Option.none_or];exact hx
theorem qFb (hn:x.op.isN=true) (hn':y.op.isN=true) (hx:Ao P Γ x ⟨e,h⟩ r1 h1) (hy:Ao P Γ y ⟨e,h1⟩ r2 h2):∃ h3 h4,Ao P Γ y ⟨e,h⟩ r2 h3/\Ao P Γ x ⟨e,h3⟩ r1 h4/\∀ k,A2 h4 k=A2 h2 k:=by
 obtain⟨L,rfl,hf,fx⟩:=hx.newG hn
 obtain⟨M,rfl,hg,fy⟩:=hy.newG hn'
 have hLM:∀ p∈M,A2 L p.1=none/\A2 h p.1=none:=fun p hp=>by
  have:=hg p hp
  rw[B8]at this
  cases hl:A2 L p.1 with
  | some q=>rw[hl]at this;cases this
  | none=>rw[hl,Option.none_or]at this;exact⟨rfl,this⟩
 have hML:∀ p∈L,A2 M p.1=none:=fun p hp=>Nk fun q hq e=>by
  have:=(hLM q hq).1
  rw[e]at this
  exact q6S hp this
 refine⟨M++h,L++(M++h),fy h fun p hp=>(hLM p hp).2,fx _ fun p hp=>by rw[B8,hML p hp,Option.none_or];exact hf p hp,fun k=>?_⟩
 simp only[B8]
 cases hl:A2 L k with
 | none=>simp
 | some q =>
  cases hm:A2 M k with
  | none=>simp
  | some p =>
   exfalso
   have:∃ p∈M,p.1=k:=by
    by_cases he:∃ p∈M,p.1=k
    ·exact he
    ·rw[Nk fun p hp e=>he ⟨p,hp,e⟩]at hm;cases hm
   obtain⟨p,hp,rfl⟩:=this
   have:=(hLM p hp).1
   rw[hl]at this;cases this
theorem Ao.stF {i n:Nat} {a x:Operand} (ho:ro.op=.stR i n a x) (hs:Ao P Γ ro ⟨e,h⟩ r h1):(h1=h/\∀ h',Ao P Γ ro ⟨e,h'⟩ r h') \/
  ∃ q q',A2 h i=some q/\q'.sh=q.sh/\h1=Bm i q' h/\∀ h',A2 h' i=some q->Ao P Γ ro ⟨e,h'⟩ r (Bm i q' h'):=by
 rcases hs with⟨hw,ha⟩|⟨hw,rfl,rfl⟩
 ·simp only[C9,ho]at ha
  obtain⟨c,hs,hc⟩:=ha
  obtain⟨q,q',h2,h3,h4,h5⟩:=qBQ hs hc
  exact .inr ⟨q,q',h2,h3,h4,fun h' hh=>.inl ⟨hw,by simp only[C9,ho];exact h5 h' hh⟩⟩
 ·exact .inl ⟨rfl,fun h'=>.inr ⟨hw,rfl,rfl⟩⟩
theorem Ao.ldF {i n:Nat} {g:Bool} {a:Operand} (ho:ro.op=.ldR i n g a) (hs:Ao P Γ ro ⟨e,h⟩ r h1):h1=h/\∀ h',A2 h' i=A2 h i->Ao P Γ ro ⟨e,h'⟩ r h':=by
 refine⟨hs.same (by rw[ho];exact Nat.le_refl _),fun h' hh=>?_⟩
 rcases hs with⟨hw,ha⟩|⟨hw,rfl,rfl⟩
 ·simp only[C9,ho]at ha
  obtain⟨c,hs,hc⟩:=ha
  exact .inl ⟨hw,by simp only[C9,ho];exact⟨c,qFZ hs hh,hc⟩⟩
 ·exact .inr ⟨hw,rfl,rfl⟩
theorem Ao.iaF {s0:Nat} {x i:Operand} (ho:ro.op=.iadr s0 x i) (hs:Ao P Γ ro ⟨e,h⟩ r h1):h1=h/\∀ h',(∀ k,(A2 h' k).map Aj.sh=(A2 h k).map Aj.sh)->Ao P Γ ro ⟨e,h'⟩ r h':=by
 refine⟨hs.same (by rw[ho];exact Nat.le_refl _),fun h' hh=>?_⟩
 rcases hs with⟨hw,ha⟩|⟨hw,rfl,rfl⟩
 ·simp only[C9,ho]at ha
  obtain⟨c,hs,hc⟩:=ha
  exact .inl ⟨hw,by simp only[C9,ho];exact⟨c,qFa hs hh,hc⟩⟩
 ·exact .inr ⟨hw,rfl,rfl⟩
theorem q0b {i:Nat} {q q':Aj} (hq:A2 h i=some q) (he:q'.sh=q.sh) (k:Nat):(A2 (Bm i q' h) k).map Aj.sh=(A2 h k).map Aj.sh:=by
 rw[Bg]
 split
 ·rename_i e;subst e;simp[hq,he]
 ·rfl
theorem qDb (hc:qDR x y=true) (hx:Ao P Γ x ⟨e,h⟩ r1 h1) (hy:Ao P Γ y ⟨e,h1⟩ r2 h2):∃ h3 h4,Ao P Γ y ⟨e,h⟩ r2 h3/\Ao P Γ x ⟨e,h3⟩ r1 h4/\∀ k,A2 h4 k=A2 h2 k:=by
 have newst:∀ {j n:Nat} {a v:Operand},x.op.isNew=true->y.op=.stR j n a v->j≠x.d->∃ h3 h4,Ao P Γ y ⟨e,h⟩ r2 h3/\Ao P Γ x ⟨e,h3⟩ r1 h4/\∀ k,A2 h4 k=A2 h2 k:=by
  intro j n a v hn ho hne
  rcases hx.newF hn with⟨rfl,fx⟩|⟨q,hq,rfl,fx⟩
  ·exact⟨h2,h2,hy,fx h2,fun k=>rfl⟩
  ·rcases hy.stF ho with⟨rfl,fy⟩|⟨p,p',hp,hs,rfl,fy⟩
   ·exact⟨h,_,fy h,fx h hq,fun k=>rfl⟩
   ·have hp':A2 h j=some p:=by simpa[A2,Ne.symm hne]using hp
    refine⟨_,_,fy h hp',fx _ (by rw[Bg,if_neg (Ne.symm hne)];exact hq),fun k=>?_⟩
    simp only[A2,Bg]
    by_cases h1:x.d=k
    ·have:¬ k=j:=fun e=>hne (e.symm.trans h1.symm)
     simp[h1,this]
    ·by_cases h2:k=j
     ·subst h2;simp[h1]
     ·simp[h1,h2]
 have stnew:∀ {j n:Nat} {a v:Operand},y.op.isNew=true->x.op=.stR j n a v->j≠y.d->∃ h3 h4,Ao P Γ y ⟨e,h⟩ r2 h3/\Ao P Γ x ⟨e,h3⟩ r1 h4/\∀ k,A2 h4 k=A2 h2 k:=by
  intro j n a v hn ho hne
  rcases hx.stF ho with⟨rfl,fx⟩|⟨p,p',hp,hs,rfl,fx⟩
  ·exact⟨h2,h2,hy,fx h2,fun k=>rfl⟩
  ·rcases hy.newF hn with⟨rfl,fy⟩|⟨q,hq,rfl,fy⟩
   ·exact⟨h,_,fy h,fx h hp,fun k=>rfl⟩
   ·have hq':A2 h y.d=none:=by rw[Bg,if_neg (Ne.symm hne)]at hq;exact hq
    refine⟨_,_,fy h hq',fx _ (by simp[A2,Ne.symm hne,hp]),fun k=>?_⟩
    simp only[A2,Bg]
    by_cases h1:y.d=k
    ·have:¬ k=j:=fun e=>hne (e.symm.trans h1.symm)
     simp[h1,this]
    ·by_cases h2:k=j
     ·subst h2;simp[h1]
     ·simp[h1,h2]
 have newnew:x.op.isNew=true->y.op.isNew=true->x.d≠y.d->∃ h3 h4,Ao P Γ y ⟨e,h⟩ r2 h3/\Ao P Γ x ⟨e,h3⟩ r1 h4/\∀ k,A2 h4 k=A2 h2 k:=by
  intro hn hn' hne
  rcases hx.newF hn with⟨rfl,fx⟩|⟨q,hq,rfl,fx⟩
  ·exact⟨h2,h2,hy,fx h2,fun k=>rfl⟩
  ·rcases hy.newF hn' with⟨rfl,fy⟩|⟨p,hp,rfl,fy⟩
   ·exact⟨h,_,fy h,fx h hq,fun k=>rfl⟩
   ·have hp':A2 h y.d=none:=by simpa[A2,hne]using hp
    refine⟨_,_,fy h hp',fx _ (by simp[A2,Ne.symm hne,hq]),fun k=>?_⟩
    simp only[A2]
    by_cases h1:x.d=k
    ·have:¬ y.d=k:=fun e=>hne (h1.trans e.symm)
     simp[h1,this]
    ·simp[h1]
 unfold qDR at hc
 split at hc
 ·rename_i i n a v j n' a' v' ox oy
  have hne:i≠j:=by simpa using hc
  rcases hx.stF ox with⟨rfl,fx⟩|⟨q,q',hq,hs,rfl,fx⟩
  ·exact⟨h2,h2,hy,fx h2,fun k=>rfl⟩
  ·rcases hy.stF oy with⟨rfl,fy⟩|⟨p,p',hp,hs',rfl,fy⟩
   ·exact⟨h,_,fy h,fx h hq,fun k=>rfl⟩
   ·have hp':A2 h j=some p:=by rw[Bg,if_neg (Ne.symm hne)]at hp;exact hp
    refine⟨_,_,fy h hp',fx _ (by rw[Bg,if_neg hne];exact hq),fun k=>?_⟩
    simp only[Bg]
    by_cases h1:k=i
    ·subst h1;simp[hne]
    ·by_cases h2:k=j
     ·subst h2;simp[h1]
     ·simp[h1,h2]
 ·rename_i i n a v j n' g' a' ox oy
  have hne:i≠j:=by simpa using hc
  obtain⟨rfl,fy⟩:=hy.ldF oy
  rcases hx.stF ox with⟨rfl,fx⟩|⟨q,q',hq,hs,rfl,fx⟩
  ·exact⟨_,_,hy,hx,fun k=>rfl⟩
  ·exact⟨h,_,fy h (by rw[Bg,if_neg (Ne.symm hne)]),hx,fun k=>rfl⟩
 ·rename_i i n g a j n' a' v' ox oy
  have hne:i≠j:=by simpa using hc
  obtain⟨rfl,fx⟩:=hx.ldF ox
  rcases hy.stF oy with⟨rfl,fy⟩|⟨p,p',hp,hs',rfl,fy⟩
  ·exact⟨_,_,hy,hx,fun k=>rfl⟩
  ·exact⟨_,_,hy,fx _ (by rw[Bg,if_neg hne]),fun k=>rfl⟩
 ·rename_i i n a v s0 x' i' ox oy
  obtain⟨rfl,fy⟩:=hy.iaF oy
  rcases hx.stF ox with⟨rfl,fx⟩|⟨q,q',hq,hs,rfl,fx⟩
  ·exact⟨_,_,hy,hx,fun k=>rfl⟩
  ·exact⟨h,_,fy h (fun k=>(q0b hq hs k).symm),hx,fun k=>rfl⟩
 ·rename_i s0 x' i' i n a v ox oy
  obtain⟨rfl,fx⟩:=hx.iaF ox
  rcases hy.stF oy with⟨rfl,fy⟩|⟨p,p',hp,hs',rfl,fy⟩
  ·exact⟨_,_,hy,hx,fun k=>rfl⟩
  ·exact⟨_,_,hy,fx _ (q0b hp hs'),fun k=>rfl⟩
 ·simp only[Bool.and_eq_true]at hc
  exact stnew hc.1 (by assumption) (by simpa using hc.2)
 ·simp only[Bool.and_eq_true]at hc
  exact newst hc.1 (by assumption) (by simpa using hc.2)
 ·rename_i _ _ j n' g' a' oy _
  simp only[Bool.and_eq_true]at hc
  obtain⟨rfl,fy⟩:=hy.ldF oy
  have hne:j≠x.d:=by simpa using hc.2
  rcases hx.newF hc.1 with⟨rfl,fx⟩|⟨q,hq,rfl,fx⟩
  ·exact⟨_,_,hy,hx,fun k=>rfl⟩
  ·exact⟨h,_,fy h (by simp[A2,Ne.symm hne]),hx,fun k=>rfl⟩
 ·simp only[Bool.and_eq_true]at hc
  exact newnew hc.1.1 hc.1.2 (by simpa using hc.2)
theorem Ao.sfF {i f:Nat} {a x:Operand} (ho:ro.op=.stF i f a x) (hs:Ao P Γ ro ⟨e,h⟩ r h1):(h1=h/\∀ h',Ao P Γ ro ⟨e,h'⟩ r h') \/
  ∃ (ty s0 k:Nat) (v:AV) (es:List (List AV)),A2 h i=some (.rs ty s0 es)/\h1=Bm i (.rs ty s0 (es.set k ((es.getD k []).set f v))) h /\
   ∀ (h':List (Nat×Aj)) (es':List (List AV)),A2 h' i=some (.rs ty s0 es')->es'.length=es.length->(es'.getD k []).length=(es.getD k []).length->Ao P Γ ro ⟨e,h'⟩ r (Bm i (.rs ty s0 (es'.set k ((es'.getD k []).set f v))) h'):=by
 rcases hs with⟨hw,ha⟩|⟨hw,rfl,rfl⟩
 ·simp only[C9,ho]at ha
  obtain⟨c,hs,hc⟩:=ha
  obtain⟨ty,s0,k,v,es,h2,h3,h4⟩:=q8p hs hc
  exact .inr ⟨ty,s0,k,v,es,h2,h3,fun h' es' q1 q2 q3=>.inl ⟨hw,by simp only[C9,ho];exact h4 h' es' q1 q2 q3⟩⟩
 ·exact .inl ⟨rfl,fun h'=>.inr ⟨hw,rfl,rfl⟩⟩
theorem Ao.iaRF {id s0:Nat} {x i:Operand} (ho:ro.op=.iaR id s0 x i) (hs:Ao P Γ ro ⟨e,h⟩ r h1):h1=h/\∀ h',(A2 h' id).map Aj.sh=(A2 h id).map Aj.sh->Ao P Γ ro ⟨e,h'⟩ r h':=by
 refine⟨hs.same (by rw[ho];exact Nat.le_refl _),fun h' hh=>?_⟩
 rcases hs with⟨hw,ha⟩|⟨hw,rfl,rfl⟩
 ·simp only[C9,ho]at ha
  obtain⟨c,hs,hc⟩:=ha
  exact .inl ⟨hw,by simp only[C9,ho];exact⟨c,qDQ hs hh,hc⟩⟩
 ·exact .inr ⟨hw,rfl,rfl⟩
theorem q5E {base:Nat}:∀ {hp':List (Nat×Aj)} {p:Nat×Aj},p∈Fo [] base hp'->base<=p.1
 | [],p,h=>by cases h
 | (j,q)::l,p,h=>by
  simp only[Fo]at h
  split at h
  ·rcases List.mem_cons.1 h with rfl|h
   ·exact Nat.le_add_right _ _
   ·exact q5E h
  ·exact q5E h
theorem Ao.ncF {f:FuncId} {args:List Operand} {base:Nat} (ho:ro.op=.ncall f args base) (hs:Ao P Γ ro ⟨e,h⟩ r h1):∃ L,h1=L++h/\(∀ p∈L,A2 h p.1=none/\base<=p.1)/\∀ h',(∀ p∈L,A2 h' p.1=none)->Ao P Γ ro ⟨e,h'⟩ r (L++h'):=by
 rcases hs with⟨hw,ha⟩|⟨hw,rfl,rfl⟩
 ·simp only[C9,ho]at ha
  obtain⟨as,res,hp',h2,h3,h4,h5,h6⟩:=ha
  simp only[St.mk.injEq,true_and]at h6
  refine⟨Fo [] base hp',h6,fun p hp=>⟨q0a h4 p hp,q5E hp⟩,fun h' hf=>.inl ⟨hw,?_⟩⟩
  simp only[C9,ho]
  exact⟨as,res,hp',h2,h3,Xt h4 hf,h5,rfl⟩
 ·exact⟨[],rfl,by simp,fun h' _=>.inr ⟨hw,rfl,rfl⟩⟩
theorem q5F {L:List (Nat×Aj)} {base j:Nat} (hL:∀ p∈L,A2 h p.1=none/\base<=p.1) (hj:j<base):A2 (L++h) j=A2 h j:=by
 rw[B8,Nk fun p hp e=>by have:=(hL p hp).2;omega,Option.none_or]
theorem qBT {t s0:Nat} {es es':List (List AV)} (hl:es'.length=es.length):(Aj.rs t s0 es').sh=(Aj.rs t s0 es).sh:=by simp[Aj.sh,hl]
theorem qBU {es:List (List AV)} {k i f:Nat} {v:AV}:((es.set k ((es.getD k []).set f v)).getD i []).length=(es.getD i []).length:=by
 simp only[List.getD_eq_getElem?_getD,List.getElem?_set]
 split
 ·rename_i h
  subst h
  split
  ·rename_i hk;simp[hk]
  ·rename_i hk;simp[List.getElem?_eq_none (Nat.not_lt.1 hk)]
 ·rfl
theorem qFc {es:List (List AV)} {k i f g:Nat} {v u:AV} (hfg:f≠g) :
  (es.set k ((es.getD k []).set f v)).set i (((es.set k ((es.getD k []).set f v)).getD i []).set g u)=(es.set i ((es.getD i []).set g u)).set k (((es.set i ((es.getD i []).set g u)).getD k []).set f v):=by
 by_cases hki:k=i
 ·subst hki
  by_cases hk:k<es.length
  ·have e1:∀ q:List AV,(es.set k q).getD k []=q:=fun q=>by simp[List.getD_eq_getElem?_getD,hk]
   rw[e1,e1,List.set_set,List.set_set,List.set_comm _ _ hfg]
  ·have e1:∀ q:List AV,es.set k q=es:=fun q=>List.set_eq_of_length_le (by omega)
   simp only[e1]
 ·have e1:∀ q:List AV,(es.set k q).getD i []=es.getD i []:=fun q=>by simp[List.getD_eq_getElem?_getD,List.getElem?_set,hki]
  have e2:∀ q:List AV,(es.set i q).getD k []=es.getD k []:=fun q=>by simp[List.getD_eq_getElem?_getD,List.getElem?_set,Ne.symm hki]
  rw[e1,e2,List.set_comm _ _ hki]
theorem qDc (hc:qDS x y=true) (hx:Ao P Γ x ⟨e,h⟩ r1 h1) (hy:Ao P Γ y ⟨e,h1⟩ r2 h2):∃ h3 h4,Ao P Γ y ⟨e,h⟩ r2 h3/\Ao P Γ x ⟨e,h3⟩ r1 h4/\∀ k,A2 h4 k=A2 h2 k:=by
 unfold qDS at hc
 split at hc
 ·rename_i f args base j n g a ox oy
  have hj:j<base:=by simpa using hc
  obtain⟨L,rfl,hL,fx⟩:=hx.ncF ox
  obtain⟨rfl,fy⟩:=hy.ldF oy
  exact⟨h,_,fy h (q5F hL hj).symm,hx,fun k=>rfl⟩
 ·rename_i f args base j s0 a i ox oy
  have hj:j<base:=by simpa using hc
  obtain⟨L,rfl,hL,fx⟩:=hx.ncF ox
  obtain⟨rfl,fy⟩:=hy.iaRF oy
  exact⟨h,_,fy h (by rw[q5F hL hj]),hx,fun k=>rfl⟩
 ·rename_i f args base j g a v ox oy
  have hj:j<base:=by simpa using hc
  obtain⟨L,rfl,hL,fx⟩:=hx.ncF ox
  rcases hy.sfF oy with⟨rfl,fy⟩|⟨ty,s0,k,u,es,hl,rfl,fy⟩
  ·exact⟨h,_,fy h,hx,fun k=>rfl⟩
  ·rw[q5F hL hj]at hl
   refine⟨_,_,fy h es hl rfl rfl,fx _ fun p hp=>?_,fun t=>?_⟩
   ·have:=hL p hp
    rw[Bg,if_neg (by omega)];exact this.1
   ·simp only[B8,Bg]
    by_cases ht:t=j
    ·subst ht
     have:A2 L t=none:=Nk fun p hp e=>by have:=(hL p hp).2;omega
     simp[this]
    ·simp[ht]
 ·rename_i i f a v j g b u ox oy
  rcases hx.sfF ox with⟨rfl,fx⟩|⟨ty,s0,k,v1,es,hl,rfl,fx⟩
  ·exact⟨h2,h2,hy,fx h2,fun k=>rfl⟩
  ·rcases hy.sfF oy with⟨rfl,fy⟩|⟨ty',s0',k',v2,es',hl',rfl,fy⟩
   ·exact⟨h,_,fy h,hx,fun k=>rfl⟩
   ·by_cases hij:i=j
    ·subst hij
     have hfg:f≠g:=by simpa using hc
     rw[Bg,if_pos rfl,hl]at hl'
     simp only[Option.map_some,Option.some.injEq,Aj.rs.injEq]at hl'
     obtain⟨rfl,rfl,rfl⟩:=hl'
     refine⟨_,_,fy h es hl (by simp) (by rw[qBU]),fx _ (es.set k' ((es.getD k' []).set g v2)) (by rw[Bg,if_pos rfl,hl];rfl) (by simp) (by rw[qBU]),fun t=>?_⟩
     simp only[Bg]
     by_cases ht:t=i
     ·subst ht
      simp only[if_true,hl,Option.map_some]
      rw[qFc hfg]
     ·simp[ht]
    ·rw[Bg,if_neg (fun e=>hij e.symm)]at hl'
     refine⟨_,_,fy h es' hl' rfl rfl,fx _ es (by rw[Bg,if_neg hij];exact hl) rfl rfl,fun t=>?_⟩
     simp only[Bg]
     by_cases h1:t=i
     ·subst h1;simp[hij]
     ·by_cases h2:t=j
      ·subst h2;simp[h1]
      ·simp[h1,h2]
 ·rename_i i f a v j s0 b u ox oy
  obtain⟨rfl,fy⟩:=hy.iaRF oy
  rcases hx.sfF ox with⟨rfl,fx⟩|⟨ty,s0,k,v1,es,hl,rfl,fx⟩
  ·exact⟨_,_,hy,hx,fun k=>rfl⟩
  ·exact⟨h,_,fy h (by rw[q0b hl (qBT (by simp))]),hx,fun k=>rfl⟩
 ·rename_i j s0 b u i f a v ox oy
  obtain⟨rfl,fx⟩:=hx.iaRF ox
  rcases hy.sfF oy with⟨rfl,fy⟩|⟨ty,s0,k,v1,es,hl,rfl,fy⟩
  ·exact⟨_,_,hy,hx,fun k=>rfl⟩
  ·exact⟨_,_,hy,fx _ (by rw[q0b hl (qBT (by simp))]),fun k=>rfl⟩
 ·rename_i i f a v s0 b u ox oy
  obtain⟨rfl,fy⟩:=hy.iaF oy
  rcases hx.sfF ox with⟨rfl,fx⟩|⟨ty,s0,k,v1,es,hl,rfl,fx⟩
  ·exact⟨_,_,hy,hx,fun k=>rfl⟩
  ·exact⟨h,_,fy h (fun t=>(q0b hl (qBT (by simp)) t).symm),hx,fun k=>rfl⟩
 ·rename_i s0 b u i f a v ox oy
  obtain⟨rfl,fx⟩:=hx.iaF ox
  rcases hy.sfF oy with⟨rfl,fy⟩|⟨ty,s0,k,v1,es,hl,rfl,fy⟩
  ·exact⟨_,_,hy,hx,fun k=>rfl⟩
  ·exact⟨_,_,hy,fx _ (fun t=>q0b hl (qBT (by simp)) t),fun k=>rfl⟩
 ·rename_i i f a v j n g b ox oy
  have hne:i≠j:=by simpa using hc
  obtain⟨rfl,fy⟩:=hy.ldF oy
  rcases hx.sfF ox with⟨rfl,fx⟩|⟨ty,s0,k,v1,es,hl,rfl,fx⟩
  ·exact⟨_,_,hy,hx,fun k=>rfl⟩
  ·exact⟨h,_,fy h (by rw[Bg,if_neg (Ne.symm hne)]),hx,fun k=>rfl⟩
 ·rename_i i n g b j f a v ox oy
  have hne:i≠j:=by simpa using hc
  obtain⟨rfl,fx⟩:=hx.ldF ox
  rcases hy.sfF oy with⟨rfl,fy⟩|⟨ty,s0,k,v1,es,hl,rfl,fy⟩
  ·exact⟨_,_,hy,hx,fun k=>rfl⟩
  ·exact⟨_,_,hy,fx _ (by rw[Bg,if_neg hne]),fun k=>rfl⟩
 ·cases hc
theorem qFd {fz:Bool} {ty s0 d dx:Nat} {b v:Operand} {av:AV} (hs:A7 Γ d (.app fz ty s0 b v) ⟨(dx,av)::e,h⟩=some (c,r,st1)) (hb:ev Γ ((dx,av)::e) b=ev Γ e b) (hv:ev Γ ((dx,av)::e) v=ev Γ e v) :
  ∃ F:AV->AV,st1.env=((dx,av)::e).map (fun p=>(p.1,F p.2))/\A7 Γ d (.app fz ty s0 b v) ⟨e,h⟩=some (c,r,⟨e.map fun p=>(p.1,F p.2),st1.hp⟩):=by
 have idm:∀ l:List (Nat×AV),l.map (fun p=>(p.1,id p.2))=l:=fun l=>by simp
 simp only[A7,hb,hv]at hs ⊢
 revert hs
 cases ev Γ e v with
 | none=>simp
 | some ax =>
  simp only[Option.bind_some]
  cases B7 h ax with
  | none=>simp
  | some news =>
   simp only[Option.bind_some]
   cases ev Γ e b with
   | none=>simp
   | some a =>
    simp only[Option.bind_some]
    intro hs
    split at hs
    ·split at hs<;>simp only[Option.some.injEq,Prod.mk.injEq]at hs<;>obtain⟨rfl,rfl,rfl⟩:=hs
     ·exact⟨id,(idm _).symm,by rw[idm,if_pos (by assumption)]⟩
     ·exact⟨id,(idm _).symm,by rw[idm,if_neg (by assumption)]⟩
    ·split at hs
     case h_2=>cases hs
     split at hs<;>simp only[Option.some.injEq,Prod.mk.injEq]at hs<;>obtain⟨rfl,rfl,rfl⟩:=hs
     ·exact⟨id,(idm _).symm,by rw[idm,if_pos (by assumption)]⟩
     ·exact⟨id,(idm _).symm,by rw[idm,if_neg (by assumption)]⟩
    ·split at hs
     case h_2=>cases hs
     rename_i id0 len _ _ _ _ _
     split at hs<;>simp only[Option.some.injEq,Prod.mk.injEq]at hs<;>obtain⟨rfl,rfl,rfl⟩:=hs
     ·exact⟨Ae _,rfl,by rw[if_pos (by assumption)];rfl⟩
     ·exact⟨Ae _,rfl,by rw[if_neg (by assumption)];rfl⟩
    ·cases hs
theorem qDd {fz:Bool} {ty s0 d dx:Nat} {b v:Operand} (hs:A7 Γ d (.app fz ty s0 b v) ⟨e,h⟩=some (c,r,st1)) (hb:∀ av:AV,ev Γ ((dx,av)::e) b=ev Γ e b) (hv:∀ av:AV,ev Γ ((dx,av)::e) v=ev Γ e v) :
  ∃ F:AV->AV,st1.env=e.map (fun p=>(p.1,F p.2))/\∀ av:AV,A7 Γ d (.app fz ty s0 b v) ⟨(dx,av)::e,h⟩=some (c,r,⟨((dx,av)::e).map fun p=>(p.1,F p.2),st1.hp⟩):=by
 have idm:∀ l:List (Nat×AV),l.map (fun p=>(p.1,id p.2))=l:=fun l=>by simp
 simp only[A7,hb,hv]at hs ⊢
 revert hs
 cases ev Γ e v with
 | none=>simp
 | some ax =>
  simp only[Option.bind_some]
  cases B7 h ax with
  | none=>simp
  | some news =>
   simp only[Option.bind_some]
   cases ev Γ e b with
   | none=>simp
   | some a =>
    simp only[Option.bind_some]
    intro hs
    split at hs
    ·split at hs<;>simp only[Option.some.injEq,Prod.mk.injEq]at hs<;>obtain⟨rfl,rfl,rfl⟩:=hs
     ·exact⟨id,(idm _).symm,fun av=>by rw[idm,if_pos (by assumption)]⟩
     ·exact⟨id,(idm _).symm,fun av=>by rw[idm,if_neg (by assumption)]⟩
    ·split at hs
     case h_2=>cases hs
     split at hs<;>simp only[Option.some.injEq,Prod.mk.injEq]at hs<;>obtain⟨rfl,rfl,rfl⟩:=hs
     ·exact⟨id,(idm _).symm,fun av=>by rw[idm,if_pos (by assumption)]⟩
     ·exact⟨id,(idm _).symm,fun av=>by rw[idm,if_neg (by assumption)]⟩
    ·split at hs
     case h_2=>cases hs
     rename_i id0 len _ _ _ _ _
     split at hs<;>simp only[Option.some.injEq,Prod.mk.injEq]at hs<;>obtain⟨rfl,rfl,rfl⟩:=hs
     ·exact⟨Ae _,rfl,fun av=>by rw[if_pos (by assumption)];rfl⟩
     ·exact⟨Ae _,rfl,fun av=>by rw[if_neg (by assumption)];rfl⟩
    ·cases hs
theorem q8r (hc:qDT x y=true) (hx:Bt P Γ x st s) (hy:Bt P Γ y s s2):∃ t t2,Bt P Γ y st t/\Bt P Γ x t t2/\Dh s2 t2:=by
 obtain⟨dst1,op1,g1,id1⟩:=x
 obtain⟨dst2,op2,g2,id2⟩:=y
 unfold qDT at hc
 split at hc
 case h_3=>cases hc
 case h_2 =>
  rename_i fz ty s0 b v a dy dx ox oy e1 e2
  simp only at ox oy e1 e2
  subst ox;subst oy;subst e1;subst e2
  simp only[Bool.and_eq_true,Option.isNone_iff_eq_none,bne_iff_ne,ne_eq]at hc
  obtain⟨⟨⟨⟨⟨rfl,rfl⟩,hb⟩,hv⟩,hda⟩,hdd⟩:=hc
  obtain⟨e,h⟩:=st
  simp only[Bt,D4,reduceCtorEq,Option.some.injEq,Bool.true_eq_false,false_and,or_false,true_and]at hx hy
  obtain⟨r1,st1,⟨c1,hs1,hc1⟩,rfl⟩:=hx
  obtain⟨r2,st2,⟨c2,hs2,hc2⟩,rfl⟩:=hy
  simp only[A7,ev,Option.map_eq_some_iff,Prod.mk.injEq]at hs2
  obtain⟨av',hav',rfl,rfl,rfl⟩:=hs2
  have evne:∀ {o:Operand},(match o with | .tmp t=>t != dx|_=>true)=true->∀ av:AV,ev Γ ((dx,av)::e) o=ev Γ e o:=fun{o} ho av=>by
   cases o with
   | tmp t =>
    simp only[bne_iff_ne,ne_eq]at ho
    simp only[ev,A2]
    rw[if_neg (fun h=>ho h.symm)]
   | _=>rfl
  obtain⟨F,h1,h2⟩:=qDd (d:=RO.d ⟨some dy,.app fz ty s0 b v,none,id1⟩) hs1 (evne hb) (evne hv)
  have hav2:A2 ((dy,r1)::st1.env) a=some av':=hav'
  simp only[A2]at hav2
  rw[if_neg hda,h1,Cc F]at hav2
  obtain⟨av,hav,rfl⟩:=Option.map_eq_some_iff.1 hav2
  refine⟨⟨(dx,av)::e,h⟩,⟨(dy,r1)::((dx,av)::e).map fun p=>(p.1,F p.2),st1.hp⟩,.inl ⟨rfl,av,⟨e,h⟩,⟨True,?_,trivial⟩,rfl⟩,.inl ⟨rfl,r1,⟨((dx,av)::e).map fun p=>(p.1,F p.2),st1.hp⟩,⟨c1,h2 av,hc1⟩,rfl⟩,fun k=>?_,fun k=>rfl⟩
  ·simp only[A7,ev,hav]
   rfl
  ·show A2 ((dy,r1)::(dx,F av)::e.map fun p=>(p.1,F p.2)) k=A2 ((dx,F av)::(dy,r1)::st1.env) k
   rw[h1]
   simp only[A2]
   by_cases h3:dx=k
   ·subst h3
    rw[if_pos rfl,if_neg hdd,if_pos rfl]
   ·rw[if_neg h3]
    simp only[if_neg h3]
 rename_i a fz ty s0 b v dx dy ox oy e1 e2
 simp only at ox oy e1 e2
 subst ox;subst oy;subst e1;subst e2
 simp only[Bool.and_eq_true,Option.isNone_iff_eq_none,bne_iff_ne,ne_eq]at hc
 obtain⟨⟨⟨⟨⟨rfl,rfl⟩,hb⟩,hv⟩,hda⟩,hdd⟩:=hc
 obtain⟨e,h⟩:=st
 simp only[Bt,D4,reduceCtorEq,Option.some.injEq,Bool.true_eq_false,false_and,or_false,true_and]at hx hy
 obtain⟨r1,st1,⟨c1,hs1,hc1⟩,rfl⟩:=hx
 obtain⟨r2,st2,⟨c2,hs2,hc2⟩,rfl⟩:=hy
 simp only[A7,ev,Option.map_eq_some_iff,Prod.mk.injEq]at hs1
 obtain⟨av,hav,rfl,rfl,rfl⟩:=hs1
 have evne:∀ {o:Operand},(match o with | .tmp t=>t != dx|_=>true)=true->ev Γ ((dx,av)::e) o=ev Γ e o:=fun{o} ho=>by
  cases o with
  | tmp t =>
   simp only[bne_iff_ne,ne_eq]at ho
   simp only[ev,A2]
   rw[if_neg (fun h=>ho h.symm)]
  | _=>rfl
 obtain⟨F,h1,h2⟩:=qFd (d:=RO.d ⟨some dy,.app fz ty s0 b v,none,id2⟩) hs2 (evne hb) (evne hv)
 refine⟨⟨(dy,r2)::e.map fun p=>(p.1,F p.2),st2.hp⟩,⟨(dx,F av)::(dy,r2)::e.map fun p=>(p.1,F p.2),st2.hp⟩,.inl ⟨rfl,r2,_,⟨c2,h2,hc2⟩,rfl⟩,.inl ⟨rfl,F av,⟨(dy,r2)::e.map fun p=>(p.1,F p.2),st2.hp⟩,⟨True,?_,trivial⟩,rfl⟩,fun k=>?_,fun k=>rfl⟩
 ·simp only[A7,ev,A2]
  rw[if_neg hda,Cc F,hav]
  rfl
 ·show A2 ((dx,F av)::(dy,r2)::_) k=A2 ((dy,r2)::st2.env) k
  rw[h1]
  simp only[A2,List.map_cons]
  by_cases h3:dx=k
  ·subst h3
   rw[if_pos rfl,if_neg hdd,if_pos rfl]
  ·rw[if_neg h3]
   simp only[if_neg h3]
theorem Oi {o:Operand} {t:Nat} (h:nt o t=true) (av:AV):ev Γ ((t,av)::e) o=ev Γ e o:=by
 cases o with
 | tmp k =>
  simp only[nt,bne_iff_ne,ne_eq]at h
  simp only[ev,A2]
  rw[if_neg (fun e=>h e.symm)]
 | _=>rfl
theorem q79 {i:Nat} {a:AV} {x:T} (h:Ae i a=.t x):a=.t x:=by
 cases a with
 | t y=>exact h
 | fn f cs=>cases cs<;>simp only[Ae,kill1]at h<;>(try split at h)<;>cases h
 | ag cs=>simp[Ae]at h
 | tu cs=>simp[Ae]at h
 | dead=>simp[Ae,kill1]at h
 | un=>simp[Ae,kill1]at h
 | _=>simp only[Ae,kill1]at h;split at h<;>cases h
theorem q0c {i ty d:Nat} {b v:Operand} (hs:A7 Γ d (.appR true i ty b v) ⟨e,h⟩=some (c,r,st1)):st1=St.kill i ⟨e,h⟩ /\
  ∀ e' h',ev Γ e' b=ev Γ e b->ev Γ e' v=ev Γ e v->A2 h' i=A2 h i->A7 Γ d (.appR true i ty b v) ⟨e',h'⟩=some (c,r,St.kill i ⟨e',h'⟩):=by
 simp only[A7]at hs
 split at hs
 case h_2=>cases hs
 rename_i news _ _ id len hx hbb
 split at hs
 case h_2=>cases hs
 rename_i t q es hlk
 simp only[if_true,Option.some.injEq,Prod.mk.injEq]at hs
 obtain⟨rfl,rfl,rfl⟩:=hs
 exact⟨rfl,fun e' h' hb hv hl=>by simp only[A7,hb,hv,hx,hbb,hl,hlk,if_true]⟩
theorem Xu {i k:Nat}:A2 (St.kill i ⟨e,h⟩).hp k=if k=i then none else(A2 h k).map (G1 i):=Ru (st:=⟨e,h⟩) i k
theorem q6T {i:Nat} {zs:List Value}:G1 i (.bx (zs.map fun z=>AV.t (Ar z)))=.bx (zs.map fun z=>AV.t (Ar z)):=by
 simp only[G1,List.map_map];rfl
theorem N3 {dx dy k:Nat} {l:List (Nat×AV)} {p q:AV} (h:dx≠dy):A2 ((dx,p)::(dy,q)::l) k=A2 ((dy,q)::(dx,p)::l) k:=by
 simp only[A2]
 by_cases h1:dx=k
 ·subst h1;rw[if_pos rfl,if_neg (fun e=>h e.symm)];simp
 ·rw[if_neg h1,if_neg h1]
theorem qBV {i d2 k:Nat} {zs:List Value} (h1:d2≠i):A2 ((d2,Aj.bx (zs.map fun z=>AV.t (Ar z)))::(St.kill i ⟨e,h⟩).hp) k=A2 (St.kill i ⟨e',(d2,Aj.bx (zs.map fun z=>AV.t (Ar z)))::h⟩).hp k:=by
 simp only[A2,Xu]
 by_cases h3:d2=k
 ·subst h3
  rw[if_pos rfl,if_neg h1,if_pos rfl,Option.map_some,q6T]
 ·rw[if_neg h3,if_neg h3]
def Oe:Option Nat->AV->AV
 | none,a=>a
 | some i,a=>Ae i a
def klR:Option Nat->Aj->Aj
 | none,r=>r
 | some i,r=>G1 i r
def klH:Option Nat->List (Nat×Aj)->List (Nat×Aj)
 | none,h=>h
 | some i,h=>(del i h).map fun p=>(p.1,G1 i p.2)
theorem q7A {ty s0 d dy:Nat} {b v:Operand} (hs:A7 Γ d (.app false ty s0 b v) ⟨e,h⟩=some (c,r,st1)) (hb:∀ av:AV,ev Γ ((dy,av)::e) b=ev Γ e b) (hv:∀ av:AV,ev Γ ((dy,av)::e) v=ev Γ e v) :
  ∃ K q,st1=⟨e.map fun p=>(p.1,Oe K p.2),(d,q)::klH K h⟩/\∀ av:AV,A7 Γ d (.app false ty s0 b v) ⟨(dy,av)::e,h⟩=some (c,r,⟨((dy,av)::e).map fun p=>(p.1,Oe K p.2),(d,q)::klH K h⟩):=by
 have idm:∀ l:List (Nat×AV),l.map (fun p=>(p.1,Oe none p.2))=l:=fun l=>by simp[Oe]
 simp only[A7,hb,hv]at hs ⊢
 revert hs
 cases ev Γ e v with
 | none=>simp
 | some ax =>
  simp only[Option.bind_some]
  cases B7 h ax with
  | none=>simp
  | some news =>
   simp only[Option.bind_some]
   cases ev Γ e b with
   | none=>simp
   | some a =>
    simp only[Option.bind_some,Bool.false_eq_true,if_false]
    intro hs
    split at hs
    ·simp only[Option.some.injEq,Prod.mk.injEq]at hs
     obtain⟨rfl,rfl,rfl⟩:=hs
     exact⟨none,_,by rw[idm];rfl,fun av=>by rw[idm];rfl⟩
    ·split at hs
     case h_2=>cases hs
     simp only[Option.some.injEq,Prod.mk.injEq]at hs
     obtain⟨rfl,rfl,rfl⟩:=hs
     exact⟨none,_,by rw[idm];rfl,fun av=>by rw[idm];rfl⟩
    ·split at hs
     case h_2=>cases hs
     rename_i id0 len _ _ _ _ _
     simp only[Option.some.injEq,Prod.mk.injEq]at hs
     obtain⟨rfl,rfl,rfl⟩:=hs
     exact⟨some _,_,rfl,fun av=>rfl⟩
    ·cases hs
theorem qBW {K:Option Nat} {a:AV} {x:T} (h:Oe K a=.t x):a=.t x:=by
 cases K with
 | none=>exact h
 | some i=>exact q79 h
theorem Zj {K:Option Nat} {x:T}:Oe K (.t x)=.t x:=by cases K<;>rfl
theorem qDe {K:Option Nat} {a:AV} {j i k:Nat} (h:Oe K a=.lp j i k):a=.lp j i k/\∀ q,K=some q->j≠q:=by
 cases K with
 | none=>exact⟨h,fun q e=>by cases e⟩
 | some q =>
  simp only[Oe]at h
  cases a with
  | lp j' i' k' =>
   simp only[Ae,kill1]at h
   split at h
   ·cases h
   ·rename_i hne
    cases h
    exact⟨rfl,fun q' e=>by cases e;exact hne⟩
  | fn f cs=>cases cs<;>simp only[Ae,kill1]at h<;>(try split at h)<;>cases h
  | ag cs=>simp[Ae]at h
  | tu cs=>simp[Ae]at h
  | t x=>simp[Ae,kill1]at h
  | dead=>simp[Ae,kill1]at h
  | un=>simp[Ae,kill1]at h
  | _=>simp only[Ae,kill1]at h;split at h<;>cases h
theorem q8s {K:Option Nat} {j i k:Nat} (h:∀ q,K=some q->j≠q):Oe K (.lp j i k)=.lp j i k:=by
 cases K with
 | none=>rfl
 | some q=>simp only[Oe,Ae,kill1];rw[if_neg (h q rfl)]
theorem q5G {K:Option Nat}:Oe K .dead=.dead:=by cases K<;>rfl
theorem q5H {K:Option Nat} {j:Nat} (hj:∀ q,K=some q->j≠q):A2 (klH K h) j=(A2 h j).map (klR K):=by
 cases K with
 | none=>simp only[klH];cases A2 h j<;>rfl
 | some i =>
  simp only[klH]
  rw[Cc,q24,if_neg (hj i rfl)]
  rfl
theorem q3E {f:AV->AV} {l:List AV} {d:AV}:(l.map f).headD (f d)=f (l.headD d):=by cases l<;>rfl
theorem qCb {i:Nat} {a:AV} {x:T} (h:Xj (kill1 i a)=some x):Xj a=some x:=by
 cases a with
 | t y=>exact h
 | fn f cs=>cases cs<;>simp only[kill1]at h<;>(try split at h)<;>simp[Xj]at h
 | ag cs=>simp[kill1,Xj]at h
 | tu cs=>simp[kill1,Xj]at h
 | dead=>simp[kill1,Xj]at h
 | un=>simp[kill1,Xj]at h
 | _=>simp only[kill1]at h;split at h<;>simp[Xj]at h
theorem q1V {α β:Type} {f g:α->Option β}:∀ {l:List α} {m:List β},(∀ a b,f a=some b->g a=some b)->Ac (l.map f)=some m->Ac (l.map g)=some m
 | [],m,_,h=>h
 | a::l,m,hi,h=>by
  simp only[List.map_cons]at h ⊢
  cases hf:f a with
  | none=>rw[hf]at h;simp[Ac]at h
  | some b =>
   rw[hf]at h
   simp only[Ac,Option.map_eq_some_iff]at h
   obtain⟨m',hm',rfl⟩:=h
   rw[hi a b hf]
   simp only[Ac,Option.map_eq_some_iff]
   exact⟨m',q1V hi hm',rfl⟩
theorem qDf {K:Option Nat} {a:AV} {ts:List T} (h:Iq (Oe K a).cells=some ts):Iq a.cells=some ts:=by
 cases K with
 | none=>exact h
 | some i =>
  simp only[Oe]at h
  cases a with
  | t x=>exact h
  | ag cs =>
   simp only[Ae,AV.cells,Iq,List.map_map]at h ⊢
   exact q1V (f:=Xj ∘ kill1 i) (fun a b hab=>qCb hab) h
  | tu cs=>simp[Ae,AV.cells,Iq,Xj,Ac]at h
  | fn f cs=>cases cs<;>simp only[Ae,kill1]at h<;>(try split at h)<;>simp[AV.cells,Iq,Xj,Ac]at h
  | dead=>simp[Ae,kill1,AV.cells,Iq,Xj,Ac]at h
  | un=>simp[Ae,kill1,AV.cells,Iq,Xj,Ac]at h
  | _=>simp only[Ae,kill1]at h;split at h<;>simp[AV.cells,Iq,Xj,Ac]at h
theorem q7w {K:Option Nat} {dx:Nat} {r0:AV} {o:Operand} (h:nt o dx=true):ev Γ ((dx,r0)::e.map fun p=>(p.1,Oe K p.2)) o=(ev Γ e o).map (Oe K):=by
 rw[Oi h]
 cases o with
 | tmp t=>simp only[ev];rw[Cc]
 | const v=>simp[ev,Pe,Zj]
 | global g=>simp only[ev,Option.map_map];cases Γ g<;>simp[Zj]
 | func f=>simp[ev,Zj]
theorem q44 {α β γ:Type} {f:α->Option β} {g:β->γ}:∀ {l:List α},Ac (l.map fun a=>(f a).map g)=(Ac (l.map f)).map (List.map g)
 | []=>rfl
 | a::l=>by
  simp only[List.map_cons]
  have ih:=q44 (f:=f) (g:=g) (l:=l)
  cases f a with
  | none=>rfl
  | some b =>
   simp only[Option.map_some,Ac,ih,Option.map_map]
   cases Ac (l.map f)<;>rfl
theorem qBX {K:Option Nat} {dx d2:Nat} {r0:AV} {d:Nat} {q:Aj} (hk:(∃ off a,io=.fadr off (.tmp a)/\a≠dx)\/(∃ j n a,io=.ldR j n false (.tmp a)/\a≠dx/\j≠d)\/∃ ty s ps,io=.bsl true ty s ps/\ps.all (nt · dx)=true)
  (hs:A7 Γ d2 io ⟨(dx,r0)::e.map fun p=>(p.1,Oe K p.2),(d,q)::klH K h⟩=some (c,r,st2)) (hc:c) :
  st2=⟨(dx,r0)::e.map fun p=>(p.1,Oe K p.2),(d,q)::klH K h⟩/\∃ c' r',A7 Γ d2 io ⟨e,h⟩=some (c',r',⟨e,h⟩)/\c'/\Oe K r'=r:=by
 have ea:∀ {a:Nat},a≠dx->ev Γ ((dx,r0)::e.map fun p=>(p.1,Oe K p.2)) (.tmp a)=(A2 e a).map (Oe K):=fun{a} ha=>by
  have:nt (.tmp a) dx=true:=by simp[nt,ha]
  rw[q7w this];rfl
 rcases hk with⟨off,a,rfl,ha⟩|⟨j,n,a,rfl,ha,hj⟩|⟨ty,s,ps,rfl,hps⟩
 ·simp only[A7,ea ha]at hs ⊢
  have ee:ev Γ e (.tmp a)=A2 e a:=rfl
  rw[ee]
  cases hl:A2 e a with
  | none=>rw[hl]at hs;simp at hs
  | some a0 =>
   rw[hl]at hs
   simp only[Option.map_some]at hs
   split at hs
   ·rename_i cs k hk
    simp only[Option.some.injEq]at hk
    have:=qBW hk
    subst this
    simp only[Option.some.injEq,Prod.mk.injEq]at hs
    obtain⟨rfl,rfl,rfl⟩:=hs
    exact⟨rfl,True,_,rfl,trivial,Zj⟩
   ·rename_i id i k hk
    simp only[Option.some.injEq]at hk
    obtain⟨rfl,hne⟩:=qDe hk
    simp only[Option.some.injEq,Prod.mk.injEq]at hs
    obtain⟨rfl,rfl,rfl⟩:=hs
    exact⟨rfl,True,_,rfl,trivial,q8s hne⟩
   ·cases hs
 ·simp only[A7,ea ha]at hs ⊢
  have ee:ev Γ e (.tmp a)=A2 e a:=rfl
  rw[ee]
  cases hl:A2 e a with
  | none=>rw[hl]at hs;simp[D5]at hs
  | some a0 =>
   rw[hl]at hs
   simp only[Option.map_some]at hs
   split at hs
   case isFalse=>cases hs
   rename_i hp
   obtain⟨i,k,hk⟩:∃ i k,Oe K a0=.lp j i k:=by
    cases h0:Oe K a0 with
    | lp j' i k=>rw[h0]at hp;simp only[D5,beq_iff_eq]at hp;subst hp;exact⟨i,k,rfl⟩
    | _=>rw[h0]at hp;simp[D5]at hp
   obtain⟨rfl,hne⟩:=qDe hk
   rw[hk]at hs
   simp only[A2,if_neg (fun e=>hj e.symm:¬ d=j)]at hs
   rw[q5H hne]at hs
   have hp2:D5 j (some (.lp j i k))=true:=by simp[D5]
   rw[if_pos hp2]
   simp only
   cases hr:A2 h j with
   | none=>rw[hr]at hs;simp at hs
   | some rg =>
    rw[hr]at hs
    simp only[Option.map_some]at hs
    cases rg with
    | sl t s es =>
     have e1:klR K (.sl t s es)=.sl t s es:=by cases K<;>rfl
     rw[e1]at hs
     simp only[Option.some.injEq,Prod.mk.injEq]at hs
     obtain⟨rfl,rfl,rfl⟩:=hs
     exact⟨rfl,_,_,rfl,hc,Zj⟩
    | rs t s es =>
     have e1:klR K (.rs t s es)=.rs t s (es.map fun e=>e.map (Oe K)):=by
      cases K with
      | none =>
       have:Oe none=id:=funext fun a=>rfl
       simp only[klR,this,List.map_id_fun,id]
       congr 1
       exact(List.map_id es).symm
      | some i=>rfl
     rw[e1]at hs
     simp only[Option.some.injEq,Prod.mk.injEq,List.length_map]at hs
     obtain⟨rfl,rfl,rfl⟩:=hs
     refine⟨rfl,_,_,rfl,hc,?_⟩
     have e2:(es.map fun e=>e.map (Oe K)).getD i []=(es.getD i []).map (Oe K):=by
      simp only[List.getD_eq_getElem?_getD,List.getElem?_map]
      cases es[i]?<;>rfl
     rw[e2]
     simp only[Je,Bool.false_eq_true,if_false]
     rw[<- List.map_drop,<- List.map_take]
     conv=>rhs;rw[<- q5G (K:=K)]
     exact q3E.symm
    | bx cs =>
     have e1:klR K (.bx cs)=.bx (cs.map (Oe K)):=by
      cases K with
      | none=>simp only[klR];congr 1;exact(List.map_id cs).symm
      | some i=>rfl
     rw[e1]at hs
     simp only[Option.some.injEq,Prod.mk.injEq,List.length_map]at hs
     obtain⟨rfl,rfl,rfl⟩:=hs
     refine⟨rfl,_,_,rfl,hc,?_⟩
     simp only[Je,Bool.false_eq_true,if_false]
     rw[<- List.map_drop,<- List.map_take]
     conv=>rhs;rw[<- q5G (K:=K)]
     exact q3E.symm
    | mp es =>
     have e1:klR K (.mp es)=.mp es:=by cases K<;>rfl
     rw[e1]at hs;cases hs
    | mr es =>
     exfalso
     cases K with
     | none=>cases hs
     | some i=>cases hs
    | it s p =>
     have e1:klR K (.it s p)=.it s p:=by cases K<;>rfl
     rw[e1]at hs;cases hs
 ·have ev1:Ip Γ ((dx,r0)::e.map fun p=>(p.1,Oe K p.2)) ps=(Ip Γ e ps).map (List.map (Oe K)):=by
   unfold Ip
   rw[<- q44]
   congr 1
   exact List.map_congr_left fun o ho=>q7w (List.all_eq_true.1 hps o ho)
  simp only[A7,ev1]at hs ⊢
  cases hev:Ip Γ e ps with
  | none=>rw[hev]at hs;simp at hs
  | some as =>
   rw[hev]at hs
   simp only[Option.map_some,Option.bind_some,List.map_map,if_true]at hs ⊢
   cases ho:Ac (as.map ((fun a=>Iq a.cells) ∘ Oe K)) with
   | none=>rw[ho]at hs;simp at hs
   | some es =>
    rw[ho]at hs
    have h2:Ac (as.map fun a=>Iq a.cells)=some es:=q1V (fun a b hab=>qDf hab) ho
    rw[h2]
    simp only[Option.map_some,Option.some.injEq,Prod.mk.injEq]at hs ⊢
    obtain⟨rfl,rfl,rfl⟩:=hs
    exact⟨rfl,_,_,⟨rfl,rfl,trivial⟩,hc,Zj⟩
theorem q8t (hc:qDV x y=true) (hx:Bt P Γ x st s) (hy:Bt P Γ y s s2):∃ t t2,Bt P Γ y st t/\Bt P Γ x t t2/\Dh s2 t2:=by
 obtain⟨dst1,op1,g1,id1⟩:=x
 obtain⟨dst2,op2,g2,id2⟩:=y
 obtain⟨ty,s0,b,v,dx,dy,rfl,rfl,rfl,rfl,rfl,hb,hv,hdd,hk⟩:∃ ty s0 b v dx dy,op1=.app false ty s0 b v/\dst1=some dx/\dst2=some dy/\g1=none/\g2=none/\nt b dy=true/\nt v dy=true/\dx≠dy /\
   ((∃ off a,op2=.fadr off (.tmp a)/\a≠dx)\/(∃ j n a,op2=.ldR j n false (.tmp a)/\a≠dx/\j≠RO.d ⟨dst1,op1,g1,id1⟩)\/∃ ty s ps,op2=.bsl true ty s ps/\ps.all (nt · dx)=true):=by
  unfold qDV at hc
  split at hc
  ·rename_i _ _ b v off a dx dy ox oy e1 e2
   simp only at ox oy e1 e2
   subst ox;subst oy;subst e1;subst e2
   simp only[Bool.and_eq_true,Option.isNone_iff_eq_none,bne_iff_ne,ne_eq]at hc
   obtain⟨⟨⟨⟨⟨h1,h2⟩,hb⟩,hv⟩,ha⟩,hd⟩:=hc
   exact⟨_,_,_,_,_,_,rfl,rfl,rfl,h1,h2,hb,hv,hd,.inl ⟨_,_,rfl,ha⟩⟩
  ·rename_i _ _ b v j n a dx dy ox oy e1 e2
   simp only at ox oy e1 e2
   subst ox;subst oy;subst e1;subst e2
   simp only[Bool.and_eq_true,Option.isNone_iff_eq_none,bne_iff_ne,ne_eq]at hc
   obtain⟨⟨⟨⟨⟨⟨h1,h2⟩,hb⟩,hv⟩,ha⟩,hd⟩,hj⟩:=hc
   exact⟨_,_,_,_,_,_,rfl,rfl,rfl,h1,h2,hb,hv,hd,.inr (.inl ⟨_,_,_,rfl,ha,hj⟩)⟩
  ·rename_i _ _ b v _ _ ps dx dy ox oy e1 e2
   simp only at ox oy e1 e2
   subst ox;subst oy;subst e1;subst e2
   simp only[Bool.and_eq_true,Option.isNone_iff_eq_none,bne_iff_ne,ne_eq]at hc
   obtain⟨⟨⟨⟨⟨h1,h2⟩,hb⟩,hv⟩,ha⟩,hd⟩:=hc
   exact⟨_,_,_,_,_,_,rfl,rfl,rfl,h1,h2,hb,hv,hd,.inr (.inr ⟨_,_,_,rfl,ha⟩)⟩
  ·cases hc
 obtain⟨e,h⟩:=st
 simp only[Bt,D4,reduceCtorEq,Option.some.injEq,Bool.true_eq_false,false_and,or_false,true_and]at hx
 obtain⟨r1,st1,⟨c1,hs1,hc1⟩,rfl⟩:=hx
 obtain⟨K,q,rfl,h2⟩:=q7A (d:=RO.d ⟨some dx,.app false ty s0 b v,none,id1⟩) hs1 (fun av=>Oi hb av) (fun av=>Oi hv av)
 have hy':∃ r2 st2,(∃ c2,A7 Γ (RO.d ⟨some dy,op2,none,id2⟩) op2 ⟨(dx,r1)::e.map fun p=>(p.1,Oe K p.2),(RO.d ⟨some dx,.app false ty s0 b v,none,id1⟩,q)::klH K h⟩=some (c2,r2,st2)/\c2)/\s2=⟨(dy,r2)::st2.env,st2.hp⟩:=by
  rcases hk with⟨off,a,rfl,ha⟩|⟨j,n,a,rfl,ha,hj⟩|⟨ty,s,ps,rfl,hps⟩ <;>
  ·simp only[Bt,D4,reduceCtorEq,Option.some.injEq,Bool.true_eq_false,false_and,or_false,true_and]at hy
   exact hy
 obtain⟨r2,st2,⟨c2,hs2,hc2⟩,rfl⟩:=hy'
 obtain⟨rfl,c',r',hs',hcc,rfl⟩:=qBX hk hs2 hc2
 refine⟨⟨(dy,r')::e,h⟩,⟨(dx,r1)::((dy,r')::e).map fun p=>(p.1,Oe K p.2),(RO.d ⟨some dx,.app false ty s0 b v,none,id1⟩,q)::klH K h⟩,.inl ⟨rfl,r',⟨e,h⟩,?_,rfl⟩,.inl ⟨rfl,r1,_,⟨c1,h2 r',hc1⟩,rfl⟩,fun k=>?_,fun k=>rfl⟩
 ·rcases hk with⟨off,a,rfl,ha⟩|⟨j,n,a,rfl,ha,hj⟩|⟨ty,s,ps,rfl,hps⟩<;>exact⟨c',hs',hcc⟩
 ·exact N3 hdd
theorem qKL {K:Option Nat} {dx d2:Nat} {r0:AV} {d:Nat} {q:Aj} (hk:rdG dx d io=true)
  (hs:A7 Γ d2 io ⟨(dx,r0)::e.map fun p=>(p.1,Oe K p.2),(d,q)::klH K h⟩=some (c,r,st2)) (hc:c) :
  st2=⟨(dx,r0)::e.map fun p=>(p.1,Oe K p.2),(d,q)::klH K h⟩/\∃ c' r',A7 Γ d2 io ⟨e,h⟩=some (c',r',⟨e,h⟩)/\c'/\Oe K r'=r:=by
 have ea:∀ {a:Nat},a≠dx->ev Γ ((dx,r0)::e.map fun p=>(p.1,Oe K p.2)) (.tmp a)=(A2 e a).map (Oe K):=fun{a} ha=>by
  have:nt (.tmp a) dx=true:=by simp[nt,ha]
  rw[q7w this];rfl
 unfold rdG at hk
 split at hk
 ·exact qBX (.inl ⟨_,_,rfl,by simpa using hk⟩) hs hc
 ·simp only[Bool.and_eq_true,bne_iff_ne,ne_eq]at hk
  exact qBX (.inr (.inl ⟨_,_,_,rfl,hk.1,hk.2⟩)) hs hc
 ·exact qBX (.inr (.inr ⟨_,_,_,rfl,hk⟩)) hs hc
 ·rename_i a
  have ha:a≠dx:=by simpa using hk
  simp only[A7,ea ha]at hs ⊢
  have ee:ev Γ e (.tmp a)=A2 e a:=rfl
  rw[ee]
  cases hl:A2 e a with
  | none=>rw[hl]at hs;simp at hs
  | some a0 =>
   rw[hl]at hs
   simp only[Option.map_some,Option.some.injEq,Prod.mk.injEq]at hs
   obtain⟨rfl,rfl,rfl⟩:=hs
   exact⟨rfl,True,a0,rfl,trivial,rfl⟩
 ·rename_i s0 a i
  simp only[Bool.and_eq_true,bne_iff_ne,ne_eq]at hk
  simp only[A7,ea hk.1,ea hk.2]at hs ⊢
  have ee:∀ a,ev Γ e (.tmp a)=A2 e a:=fun _=>rfl
  rw[ee,ee]
  cases hl:A2 e a with
  | none=>rw[hl]at hs;simp at hs
  | some a0 =>
   cases hl2:A2 e i with
   | none=>rw[hl,hl2]at hs;simp at hs
   | some a1 =>
    rw[hl,hl2]at hs
    simp only[Option.map_some]at hs
    split at hs
    ·rename_i es cap nl k n h1 h2
     simp only[Option.some.injEq]at h1 h2
     have h1:=qBW h1
     have h2:=qBW h2
     subst h1;subst h2
     simp only[Option.some.injEq,Prod.mk.injEq]at hs
     obtain⟨rfl,rfl,rfl⟩:=hs
     exact⟨rfl,_,_,rfl,hc,Zj⟩
    ·cases hs
 ·rename_i n g a
  have ha:a≠dx:=by simpa using hk
  simp only[A7,ea ha]at hs ⊢
  have ee:ev Γ e (.tmp a)=A2 e a:=rfl
  rw[ee]
  cases hl:A2 e a with
  | none=>rw[hl]at hs;simp at hs
  | some a0 =>
   rw[hl]at hs
   simp only[Option.map_some]at hs
   split at hs
   ·rename_i cs k h1
    simp only[Option.some.injEq]at h1
    have h1:=qBW h1
    subst h1
    simp only[Option.some.injEq,Prod.mk.injEq]at hs
    obtain⟨rfl,rfl,rfl⟩:=hs
    exact⟨rfl,_,_,rfl,hc,Zj⟩
   ·cases hs
 ·cases hk
theorem qAH {ty s0 d dy:Nat} {b v:Operand} (hs:A7 Γ d (.appA ty s0 b v) ⟨e,h⟩=some (c,r,st1)) (hb:∀ av:AV,ev Γ ((dy,av)::e) b=ev Γ e b) (hv:∀ av:AV,ev Γ ((dy,av)::e) v=ev Γ e v) :
  ∃ K q,st1=⟨e.map fun p=>(p.1,Oe K p.2),(d,q)::klH K h⟩/\∀ av:AV,A7 Γ d (.appA ty s0 b v) ⟨(dy,av)::e,h⟩=some (c,r,⟨((dy,av)::e).map fun p=>(p.1,Oe K p.2),(d,q)::klH K h⟩):=by
 simp only[A7,hb,hv]at hs ⊢
 split at hs
 case h_2=>cases hs
 rename_i ix n id len h1 h2
 split at hs
 case h_2=>cases hs
 rename_i tx q news t q' es h3 h4
 simp only[Option.some.injEq,Prod.mk.injEq]at hs
 obtain⟨rfl,rfl,rfl⟩:=hs
 exact⟨some id,_,rfl,fun av=>rfl⟩
theorem q7B {dx d d2:Nat} (hk:rdG dx d io=true):C9 P Γ d2 io st r st1↔∃ c,A7 Γ d2 io st=some (c,r,st1)/\c:=by
 unfold rdG at hk
 split at hk<;>first|(cases hk;done)|exact Iff.rfl
theorem q8u (hc:qDX x y=true) (hx:Bt P Γ x st s) (hy:Bt P Γ y s s2):∃ t t2,Bt P Γ y st t/\Bt P Γ x t t2/\Dh s2 t2:=by
 obtain⟨dst1,op1,g1,id1⟩:=x
 obtain⟨dst2,op2,g2,id2⟩:=y
 have fin:∀ {dx dy:Nat} {b v:Operand},dst1=some dx->dst2=some dy->g1=none->g2=none->nt b dy=true->nt v dy=true->dx≠dy->rdG dx (RO.d ⟨dst1,op1,g1,id1⟩) op2=true ->
   (∀ {c1:Prop} {r1:AV} {st1:St},A7 Γ (RO.d ⟨dst1,op1,g1,id1⟩) op1 st=some (c1,r1,st1)->∃ K q,st1=⟨st.env.map fun p=>(p.1,Oe K p.2),(RO.d ⟨dst1,op1,g1,id1⟩,q)::klH K st.hp⟩/\∀ av:AV,A7 Γ (RO.d ⟨dst1,op1,g1,id1⟩) op1 ⟨(dy,av)::st.env,st.hp⟩=some (c1,r1,⟨((dy,av)::st.env).map fun p=>(p.1,Oe K p.2),(RO.d ⟨dst1,op1,g1,id1⟩,q)::klH K st.hp⟩)) ->
   (∀ (st:St) (r:AV) (st1:St),C9 P Γ (RO.d ⟨dst1,op1,g1,id1⟩) op1 st r st1↔∃ c,A7 Γ (RO.d ⟨dst1,op1,g1,id1⟩) op1 st=some (c,r,st1)/\c) ->
   ∃ t t2,Bt P Γ ⟨dst2,op2,g2,id2⟩ st t/\Bt P Γ ⟨dst1,op1,g1,id1⟩ t t2/\Dh s2 t2:=by
  intro dx dy b v e1 e2 e3 e4 hb hv hdd hk hshape hax
  subst e1;subst e2;subst e3;subst e4
  obtain⟨e,h⟩:=st
  simp only[Bt,D4,reduceCtorEq,Option.some.injEq,Bool.true_eq_false,false_and,or_false,true_and]at hx
  obtain⟨r1,st1,hx1,rfl⟩:=hx
  obtain⟨c1,hs1,hc1⟩:=(hax _ _ _).1 hx1
  obtain⟨K,q,rfl,h2⟩:=hshape hs1
  simp only[Bt,D4,reduceCtorEq,Option.some.injEq,Bool.true_eq_false,false_and,or_false,true_and]at hy
  obtain⟨r2,st2,hy1,rfl⟩:=hy
  obtain⟨c2,hs2,hc2⟩:=(q7B hk).1 hy1
  obtain⟨rfl,c',r',hs',hcc,rfl⟩:=qKL hk hs2 hc2
  exact⟨⟨(dy,r')::e,h⟩,⟨(dx,r1)::((dy,r')::e).map fun p=>(p.1,Oe K p.2),(RO.d ⟨some dx,op1,none,id1⟩,q)::klH K h⟩,.inl ⟨rfl,r',⟨e,h⟩,(q7B hk).2 ⟨c',hs',hcc⟩,rfl⟩,.inl ⟨rfl,r1,_,(hax _ _ _).2 ⟨c1,h2 r',hc1⟩,rfl⟩,(fun k=>N3 hdd),fun k=>rfl⟩
 unfold qDX at hc
 split at hc
 ·rename_i _ _ b v dx dy ox e1 e2
  simp only at ox e1 e2
  subst ox;subst e1;subst e2
  simp only[Bool.and_eq_true,Option.isNone_iff_eq_none,bne_iff_ne,ne_eq]at hc
  obtain⟨⟨⟨⟨⟨h1,h2⟩,hb⟩,hv⟩,hd⟩,hr⟩:=hc
  exact fin rfl rfl h1 h2 hb hv hd hr (fun hs=>qAH hs (fun av=>Oi hb av) (fun av=>Oi hv av)) (fun _ _ _=>Iff.rfl)
 ·rename_i _ _ b v dx dy ox e1 e2
  simp only at ox e1 e2
  subst ox;subst e1;subst e2
  simp only[Bool.and_eq_true,Option.isNone_iff_eq_none,bne_iff_ne,ne_eq]at hc
  obtain⟨⟨⟨⟨⟨h1,h2⟩,hb⟩,hv⟩,hd⟩,hr⟩:=hc
  exact fin rfl rfl h1 h2 hb hv hd hr (fun hs=>q7A hs (fun av=>Oi hb av) (fun av=>Oi hv av)) (fun _ _ _=>Iff.rfl)
 ·cases hc
theorem q8v (hc:qDU x y=true) (hx:Bt P Γ x st s) (hy:Bt P Γ y s s2):∃ t t2,Bt P Γ y st t/\Bt P Γ x t t2/\Dh s2 t2:=by
 obtain⟨dst1,op1,g1,id1⟩:=x
 obtain⟨dst2,op2,g2,id2⟩:=y
 unfold qDU at hc
 split at hc
 case h_5=>cases hc
 ·rename_i i ty b v n g a dx dy ox oy e1 e2
  simp only at ox oy e1 e2
  subst ox;subst oy;subst e1;subst e2
  simp only[Bool.and_eq_true,Option.isNone_iff_eq_none,bne_iff_ne,ne_eq]at hc
  obtain⟨⟨⟨⟨⟨rfl,rfl⟩,hb⟩,hv⟩,hax⟩,hxy⟩:=hc
  obtain⟨e,h⟩:=st
  simp only[Bt,D4,reduceCtorEq,Option.some.injEq,Bool.true_eq_false,false_and,or_false,true_and]at hx hy
  obtain⟨r1,st1,⟨c1,hs1,hc1⟩,rfl⟩:=hx
  obtain⟨r2,st2,⟨c2,hs2,hc2⟩,rfl⟩:=hy
  obtain⟨rfl,mv⟩:=q0c hs1
  simp only[A7,ev,St.put,A2,if_neg (fun q:dx=a=>hax q.symm),St.kill,Cc (Ae i)]at hs2
  split at hs2
  case h_2=>cases hs2
  rename_i cs k hla
  obtain⟨av,hav,hk⟩:=Option.map_eq_some_iff.1 hla
  have:=q79 hk;subst this
  simp only[Option.some.injEq,Prod.mk.injEq]at hs2
  obtain⟨rfl,rfl,rfl⟩:=hs2
  refine⟨⟨(dy,.t (Ia g ((cs.drop k).take n)))::e,h⟩,_,.inl ⟨rfl,_,⟨e,h⟩,⟨_,by simp only[A7,ev,hav],hc2⟩,rfl⟩,.inl ⟨rfl,r1,_,⟨c1,mv _ _ (Oi hb _) (Oi hv _) rfl,hc1⟩,rfl⟩,fun k=>?_,fun k=>rfl⟩
  exact(N3 hxy)
 ·rename_i n g a i ty b v dy dx ox oy e1 e2
  simp only at ox oy e1 e2
  subst ox;subst oy;subst e1;subst e2
  simp only[Bool.and_eq_true,Option.isNone_iff_eq_none,bne_iff_ne,ne_eq]at hc
  obtain⟨⟨⟨⟨⟨rfl,rfl⟩,hb⟩,hv⟩,hax⟩,hxy⟩:=hc
  obtain⟨e,h⟩:=st
  simp only[Bt,D4,reduceCtorEq,Option.some.injEq,Bool.true_eq_false,false_and,or_false,true_and]at hx hy
  obtain⟨r1,st1,⟨c1,hs1,hc1⟩,rfl⟩:=hx
  obtain⟨r2,st2,⟨c2,hs2,hc2⟩,rfl⟩:=hy
  simp only[A7,ev]at hs1
  split at hs1
  case h_2=>cases hs1
  rename_i cs k hla
  simp only[Option.some.injEq,Prod.mk.injEq]at hs1
  obtain⟨rfl,rfl,rfl⟩:=hs1
  obtain⟨rfl,mv⟩:=q0c hs2
  refine⟨_,⟨(dy,.t (Ia g ((cs.drop k).take n)))::(dx,r2)::(St.kill i ⟨e,h⟩).env,(St.kill i ⟨e,h⟩).hp⟩,.inl ⟨rfl,r2,_,⟨c2,mv _ _ (Oi hb _).symm (Oi hv _).symm rfl,hc2⟩,rfl⟩,.inl ⟨rfl,.t (Ia g ((cs.drop k).take n)),⟨(dx,r2)::(St.kill i ⟨e,h⟩).env,(St.kill i ⟨e,h⟩).hp⟩,⟨_,?_,hc1⟩,rfl⟩,fun k=>?_,fun k=>rfl⟩
  ·simp only[A7,ev,St.put,A2,if_neg (fun q:dx=a=>hax q.symm),St.kill,Cc (Ae i),hla,Option.map_some]
   rfl
  ·exact N3 (fun q=>hxy q.symm)
 ·rename_i i ty b v zs dx dy ox oy e1 e2
  simp only at ox oy e1 e2
  subst ox;subst oy;subst e1;subst e2
  simp only[Bool.and_eq_true,Option.isNone_iff_eq_none,bne_iff_ne,ne_eq]at hc
  obtain⟨⟨⟨⟨⟨rfl,rfl⟩,hb⟩,hv⟩,hxy⟩,hdi⟩:=hc
  obtain⟨e,h⟩:=st
  simp only[Bt,D4,reduceCtorEq,Option.some.injEq,Bool.true_eq_false,false_and,or_false,true_and]at hx hy
  obtain⟨r1,st1,⟨c1,hs1,hc1⟩,rfl⟩:=hx
  obtain⟨r2,st2,⟨c2,hs2,hc2⟩,rfl⟩:=hy
  obtain⟨rfl,mv⟩:=q0c hs1
  simp only[A7,St.put,Bool.false_eq_true,if_false,Option.some.injEq,Prod.mk.injEq]at hs2
  obtain⟨rfl,rfl,rfl⟩:=hs2
  rw[Xu,if_neg hdi]at hc2
  have hn2:A2 h (RO.d ⟨some dy,.alloc false zs,none,id2⟩)=none:=by simpa using hc2
  have hk:Ae i (.lp (RO.d ⟨some dy,.alloc false zs,none,id2⟩) 0 0)=.lp (RO.d ⟨some dy,.alloc false zs,none,id2⟩) 0 0:=by simp only[Ae,kill1];rw[if_neg hdi]
  refine⟨⟨(dy,.lp (RO.d ⟨some dy,.alloc false zs,none,id2⟩) 0 0)::e,((RO.d ⟨some dy,.alloc false zs,none,id2⟩),.bx (zs.map fun z=>.t (Ar z)))::h⟩,⟨(dx,r1)::(dy,.lp (RO.d ⟨some dy,.alloc false zs,none,id2⟩) 0 0)::(St.kill i ⟨e,h⟩).env,(St.kill i ⟨(dy,.lp (RO.d ⟨some dy,.alloc false zs,none,id2⟩) 0 0)::e,((RO.d ⟨some dy,.alloc false zs,none,id2⟩),.bx (zs.map fun z=>.t (Ar z)))::h⟩).hp⟩,.inl ⟨rfl,.lp (RO.d ⟨some dy,.alloc false zs,none,id2⟩) 0 0,⟨e,((RO.d ⟨some dy,.alloc false zs,none,id2⟩),.bx (zs.map fun z=>.t (Ar z)))::h⟩,⟨_,by simp only[A7,Bool.false_eq_true,if_false],hn2⟩,rfl⟩,.inl ⟨rfl,r1,_,⟨c1,mv _ _ (Oi hb _) (Oi hv _) (by simp only[A2];rw[if_neg hdi]),hc1⟩,?_⟩,fun k=>?_,fun k=>?_⟩
  ·simp only[St.put,St.kill,List.map_cons,hk]
  ·exact N3 hxy
  ·exact(qBV hdi).symm
 ·rename_i zs i ty b v dy dx ox oy e1 e2
  simp only at ox oy e1 e2
  subst ox;subst oy;subst e1;subst e2
  simp only[Bool.and_eq_true,Option.isNone_iff_eq_none,bne_iff_ne,ne_eq]at hc
  obtain⟨⟨⟨⟨⟨rfl,rfl⟩,hb⟩,hv⟩,hxy⟩,hdi⟩:=hc
  obtain⟨e,h⟩:=st
  simp only[Bt,D4,reduceCtorEq,Option.some.injEq,Bool.true_eq_false,false_and,or_false,true_and]at hx hy
  obtain⟨r1,st1,⟨c1,hs1,hc1⟩,rfl⟩:=hx
  obtain⟨r2,st2,⟨c2,hs2,hc2⟩,rfl⟩:=hy
  simp only[A7,Bool.false_eq_true,if_false,Option.some.injEq,Prod.mk.injEq]at hs1
  obtain⟨rfl,rfl,rfl⟩:=hs1
  have hk:Ae i (.lp (RO.d ⟨some dy,.alloc false zs,none,id1⟩) 0 0)=.lp (RO.d ⟨some dy,.alloc false zs,none,id1⟩) 0 0:=by simp only[Ae,kill1];rw[if_neg hdi]
  obtain⟨rfl,mv⟩:=q0c hs2
  refine⟨_,⟨(dy,.lp (RO.d ⟨some dy,.alloc false zs,none,id1⟩) 0 0)::(dx,r2)::(St.kill i ⟨e,h⟩).env,((RO.d ⟨some dy,.alloc false zs,none,id1⟩),.bx (zs.map fun z=>.t (Ar z)))::(St.kill i ⟨e,h⟩).hp⟩,.inl ⟨rfl,r2,_,⟨c2,mv _ _ (Oi hb _).symm (Oi hv _).symm (by show A2 h i=A2 (_::h) i;simp only[A2];rw[if_neg hdi]),hc2⟩,rfl⟩,.inl ⟨rfl,.lp (RO.d ⟨some dy,.alloc false zs,none,id1⟩) 0 0,⟨(dx,r2)::(St.kill i ⟨e,h⟩).env,((RO.d ⟨some dy,.alloc false zs,none,id1⟩),.bx (zs.map fun z=>.t (Ar z)))::(St.kill i ⟨e,h⟩).hp⟩,⟨_,by simp only[A7,St.put,Bool.false_eq_true,if_false];rfl,?_⟩,rfl⟩,fun k=>?_,fun k=>?_⟩
  ·rw[Xu,if_neg hdi,hc1];rfl
  ·simp only[St.put,St.kill,List.map_cons,hk]
   exact N3 (fun q=>hxy q.symm)
  ·exact qBV hdi
theorem qCc {K:Nat} {a:AV} (hK:∃ ty s es,A2 h K=some (.sl ty s es)) (hs:Jf h a=true):Ae K a=a:=by
 obtain⟨ty,s,es,hK⟩:=hK
 unfold Jf at hs
 split at hs
 ·rfl
 ·rename_i id i k
  have:id≠K:=fun e=>by rw[e,hK]at hs;cases hs
  simp only[Ae,kill1,if_neg this]
 ·rename_i id
  have:id≠K:=fun e=>by rw[e,hK]at hs;cases hs
  simp only[Ae,kill1,if_neg this]
 ·rename_i id _ _ _
  have:id≠K:=fun e=>by rw[e,hK]at hs;cases hs
  simp only[Ae,kill1,if_neg this]
 ·cases hs
theorem qAI {ty s0 d dx:Nat} {tb:Nat} {v:Operand} {rx:AV} (hs:A7 Γ d (.app false ty s0 (.tmp tb) v) ⟨(dx,rx)::e,h⟩=some (c,r,st1)) (hb:tb≠dx) (hv:nt v dx=true) (hc:c) :
  ∃ (K:Option Nat) (q:Aj),(∀ id,K=some id->∃ ty s es,A2 h id=some (.sl ty s es))/\A2 (klH K h) d=none/\st1=⟨(dx,Oe K rx)::e.map fun p=>(p.1,Oe K p.2),(d,q)::klH K h⟩/\A7 Γ d (.app false ty s0 (.tmp tb) v) ⟨e,h⟩=some (c,r,⟨e.map fun p=>(p.1,Oe K p.2),(d,q)::klH K h⟩):=by
 have idm:∀ l:List (Nat×AV),l.map (fun p=>(p.1,Oe none p.2))=l:=fun l=>by simp[Oe]
 have e1:ev Γ ((dx,rx)::e) (.tmp tb)=A2 e tb:=by simp only[ev,A2];rw[if_neg (fun q=>hb q.symm)]
 have e2:ev Γ ((dx,rx)::e) v=ev Γ e v:=Oi hv rx
 have e3:ev Γ e (.tmp tb)=A2 e tb:=rfl
 simp only[A7,e1,e2,e3]at hs ⊢
 revert hs
 cases ev Γ e v with
 | none=>simp
 | some ax =>
  simp only[Option.bind_some]
  cases B7 h ax with
  | none=>simp
  | some news =>
   simp only[Option.bind_some]
   cases hla:A2 e tb with
   | none=>simp
   | some a =>
    simp only[Option.bind_some,Bool.false_eq_true,if_false]
    intro hs
    split at hs
    ·simp only[Option.some.injEq,Prod.mk.injEq]at hs
     obtain⟨rfl,rfl,rfl⟩:=hs
     exact⟨none,_,(fun id h=>by cases h),hc.2,by simp only[idm];rfl,by rw[idm];rfl⟩
    ·split at hs
     case h_2=>cases hs
     simp only[Option.some.injEq,Prod.mk.injEq]at hs
     obtain⟨rfl,rfl,rfl⟩:=hs
     exact⟨none,_,(fun id h=>by cases h),hc.2,by simp only[idm];rfl,by rw[idm];rfl⟩
    ·split at hs
     case h_2=>cases hs
     rename_i hlk
     simp only[Option.some.injEq,Prod.mk.injEq]at hs
     obtain⟨rfl,rfl,rfl⟩:=hs
     exact⟨some _,_,(fun id h=>by cases h;exact⟨_,_,_,hlk⟩),hc.2,rfl,rfl⟩
    ·cases hs
theorem q8w (hc:qDW x y=true) (hx:Bt P Γ x st s) (hy:Bt P Γ y s s2):∃ t t2,Bt P Γ y st t/\Bt P Γ x t t2/\Dh s2 t2:=by
 obtain⟨dst1,op1,g1,id1⟩:=x
 obtain⟨dst2,op2,g2,id2⟩:=y
 unfold qDW at hc
 split at hc
 case h_2=>cases hc
 rename_i ty s0 b v dx dy ox e1 e2
 simp only at ox e1 e2
 subst ox;subst e1;subst e2
 simp only[Bool.and_eq_true,Option.isNone_iff_eq_none,bne_iff_ne,ne_eq]at hc
 obtain⟨⟨⟨⟨⟨⟨rfl,rfl⟩,hb⟩,hv⟩,hdd⟩,hops⟩,hkind⟩:=hc
 obtain⟨e,h⟩:=st
 have hkd:op1.kd<=1:=by
  revert hkind
  cases op1<;>simp[B6.kd]
 have hxx:∃ r1 c1,A7 Γ (RO.d ⟨some dx,op1,none,id1⟩) op1 ⟨e,h⟩=some (c1,r1,⟨e,h⟩)/\c1/\s=⟨(dx,r1)::e,h⟩:=by
  simp only[Bt,D4,reduceCtorEq,Option.some.injEq,Bool.true_eq_false,false_and,or_false,true_and]at hx
  obtain⟨r1,st1,hae,rfl⟩:=hx
  have:st1=⟨e,h⟩:=q1U hkd hae
  subst this
  have:∃ c,A7 Γ (RO.d ⟨some dx,op1,none,id1⟩) op1 ⟨e,h⟩=some (c,r1,⟨e,h⟩)/\c:=by
   revert hkind
   cases op1<;>intro hk<;>first|exact hae|(exfalso;revert hk;simp;done)
  obtain⟨c,h1,h2⟩:=this
  exact⟨r1,c,h1,h2,rfl⟩
 obtain⟨r1,c1,hs1,hc1,rfl⟩:=hxx
 simp only[Bt,D4,reduceCtorEq,Option.some.injEq,Bool.true_eq_false,false_and,or_false,true_and,C9]at hy
 obtain⟨r2,st2,⟨c2,hs2,hc2⟩,rfl⟩:=hy
 obtain⟨K,q,hK,hdn,rfl,hs2'⟩:=qAI hs2 hb hv hc2
 have hsafe:∀ a,Jf h a=true->Oe K a=a:=fun a ha=>by
  cases K with
  | none=>rfl
  | some id=>exact qCc (hK id rfl) ha
 have hev:∀ o a,nt o dy=true->ev Γ e o=some a->Jf h a=true->ev Γ ((dy,r2)::e.map fun p=>(p.1,Oe K p.2)) o=some a:=fun o a h4 ho hs=>by
  rw[q7w h4,ho];simp only[Option.map_some,hsafe a hs]
 have hbx:∀ id cs,A2 h id=some (.bx cs)->A2 ((RO.d ⟨some dy,.app false ty s0 (.tmp b) v,none,id2⟩,q)::klH K h) id=some (klR K (.bx cs)):=fun id cs hl=>by
  have h1:∀ q,K=some q->id≠q:=fun q hq e=>by
   obtain⟨ty,s,es,h2⟩:=hK q hq
   rw[e,h2]at hl;cases hl
  have h2:A2 (klH K h) id=some (klR K (.bx cs)):=by rw[q5H h1,hl];rfl
  simp only[A2]
  rw[if_neg (fun e=>by rw[e]at hdn;rw[h2]at hdn;cases hdn)]
  exact h2
 have hsafe2:∀ a,Jf h a=true->Jf ((RO.d ⟨some dy,.app false ty s0 (.tmp b) v,none,id2⟩,q)::klH K h) a=true:=fun a ha=>by
  have key:∀ id r,A2 h id=some r->(∀ ty s es,r ≠ .sl ty s es)->A2 ((RO.d ⟨some dy,.app false ty s0 (.tmp b) v,none,id2⟩,q)::klH K h) id=some (klR K r):=fun id r hl hn=>by
   have h1:∀ q,K=some q->id≠q:=fun q hq e=>by
    obtain⟨ty,s,es,h2⟩:=hK q hq
    rw[e,h2]at hl;exact hn _ _ _ (Option.some.inj hl).symm
   have h2:A2 (klH K h) id=some (klR K r):=by rw[q5H h1,hl];rfl
   simp only[A2]
   rw[if_neg (fun e=>by rw[e]at hdn;rw[h2]at hdn;cases hdn)]
   exact h2
  unfold Jf at ha ⊢
  split at ha
  ·rfl
  ·split at ha
   ·rename_i hl
    simp only[key _ _ hl (fun _ _ _ h=>by cases h)]
    cases K<;>rfl
   ·cases ha
  ·split at ha
   ·rename_i hl
    simp only[key _ _ hl (fun _ _ _ h=>by cases h)]
    cases K<;>rfl
   ·rename_i hl
    simp only[key _ _ hl (fun _ _ _ h=>by cases h)]
    cases K<;>rfl
   ·cases ha
  ·split at ha
   ·rename_i hl
    simp only[key _ _ hl (fun _ _ _ h=>by cases h)]
    cases K<;>rfl
   ·cases ha
  ·cases ha
 have hfin:Jf h r1=true->(∃ c,A7 Γ (RO.d ⟨some dx,op1,none,id1⟩) op1 ⟨(dy,r2)::e.map fun p=>(p.1,Oe K p.2),(RO.d ⟨some dy,.app false ty s0 (.tmp b) v,none,id2⟩,q)::klH K h⟩=some (c,r1,⟨(dy,r2)::e.map fun p=>(p.1,Oe K p.2),(RO.d ⟨some dy,.app false ty s0 (.tmp b) v,none,id2⟩,q)::klH K h⟩)/\c) ->
   ∃ t t2,Bt P Γ ⟨some dy,.app false ty s0 (.tmp b) v,none,id2⟩ ⟨e,h⟩ t/\Bt P Γ ⟨some dx,op1,none,id1⟩ t t2/\Dh (St.put ⟨(dx,Oe K r1)::e.map fun p=>(p.1,Oe K p.2),(RO.d ⟨some dy,.app false ty s0 (.tmp b) v,none,id2⟩,q)::klH K h⟩ (some dy) r2) t2:=by
  intro hr hqq
  refine⟨⟨(dy,r2)::e.map fun p=>(p.1,Oe K p.2),(RO.d ⟨some dy,.app false ty s0 (.tmp b) v,none,id2⟩,q)::klH K h⟩,_,.inl ⟨rfl,r2,_,⟨c2,hs2',hc2⟩,rfl⟩,.inl ⟨rfl,r1,⟨(dy,r2)::e.map fun p=>(p.1,Oe K p.2),(RO.d ⟨some dy,.app false ty s0 (.tmp b) v,none,id2⟩,q)::klH K h⟩,?_,rfl⟩,?_,fun k=>rfl⟩
  ·revert hkind
   cases op1<;>intro hk<;>first|exact hqq|(exfalso;revert hk;simp;done)
  ·rw[hsafe r1 hr]
   exact fun k=>N3 hdd
 cases op1 with
 | mvP o =>
  have h4:=List.all_eq_true.1 hops o (by simp[B6.opds])
  simp only[A7,Option.bind_eq_some_iff]at hs1
  obtain⟨a,ha,hs1⟩:=hs1
  split at hs1
  ·rename_i hsf
   simp only[Option.some.injEq,Prod.mk.injEq]at hs1
   obtain⟨rfl,rfl,_⟩:=hs1
   exact hfin hsf ⟨True,by simp only[A7,hev o _ h4 ha hsf,Option.bind_some,hsafe2 _ hsf,if_true],trivial⟩
  ·cases hs1
 | nckP o =>
  have h4:=List.all_eq_true.1 hops o (by simp[B6.opds])
  simp only[A7]at hs1
  split at hs1
  case h_2=>cases hs1
  rename_i ha
  split at hs1
  ·rename_i hsf
   simp only[Option.some.injEq,Prod.mk.injEq]at hs1
   obtain⟨rfl,rfl,_⟩:=hs1
   exact hfin hsf ⟨True,by simp only[A7,hev o _ h4 ha hsf,hsafe2 _ hsf,if_true],trivial⟩
  ·cases hs1
 | fadP off o =>
  have h4:=List.all_eq_true.1 hops o (by simp[B6.opds])
  simp only[A7]at hs1
  split at hs1
  case h_2=>cases hs1
  rename_i ha
  split at hs1
  ·rename_i hsf
   simp only[Option.some.injEq,Prod.mk.injEq]at hs1
   obtain⟨rfl,rfl,_⟩:=hs1
   exact hfin (by simpa[Jf]using hsf) ⟨True,by simp only[A7,hev o _ h4 ha hsf,hsafe2 _ hsf,if_true],trivial⟩
  ·cases hs1
 | ldP n o =>
  have h4:=List.all_eq_true.1 hops o (by simp[B6.opds])
  simp only[A7]at hs1
  split at hs1
  case h_2=>cases hs1
  rename_i id i k ha
  split at hs1
  case h_2=>cases hs1
  rename_i cs hl
  split at hs1
  ·rename_i hsf
   simp only[Option.some.injEq,Prod.mk.injEq]at hs1
   obtain⟨rfl,rfl,_⟩:=hs1
   have hsp:Jf h (.lp id i k)=true:=by simp only[Jf,hl]
   have hcell:(((cs.map (Oe K)).drop k).take n).headD .dead=((cs.drop k).take n).headD .dead:=by
    rw[<- List.map_drop,<- List.map_take]
    have e0:AV.dead=Oe K .dead:=q5G.symm
    conv=>lhs;rw[e0]
    rw[q3E]
    exact hsafe _ hsf
   have hlk:A2 ((RO.d ⟨some dy,.app false ty s0 (.tmp b) v,none,id2⟩,q)::klH K h) id=some (.bx (cs.map (Oe K))):=by
    rw[hbx id cs hl]
    cases K with
    | none =>
     simp only[klR]
     congr 2
     exact(List.map_id cs).symm
    | some i=>rfl
   exact hfin hsf ⟨i=0/\k+n<=cs.length,by simp only[A7,hev o _ h4 ha hsp,hlk,hcell,hsafe2 _ hsf,if_true,List.length_map],hc1⟩
  ·cases hs1
 | iadT s1 o i =>
  have h4:=List.all_eq_true.1 hops o (by simp[B6.opds])
  have h5:=List.all_eq_true.1 hops i (by simp[B6.opds])
  simp only[A7]at hs1
  split at hs1
  ·rename_i ha hi
   simp only[Option.some.injEq,Prod.mk.injEq]at hs1
   obtain⟨rfl,rfl,_⟩:=hs1
   exact hfin rfl ⟨_,by simp only[A7,hev o _ h4 ha rfl,hev i _ h5 hi rfl],hc1⟩
  ·cases hs1
 | ldT n g o =>
  have h4:=List.all_eq_true.1 hops o (by simp[B6.opds])
  simp only[A7]at hs1
  split at hs1
  ·rename_i ha
   simp only[Option.some.injEq,Prod.mk.injEq]at hs1
   obtain⟨rfl,rfl,_⟩:=hs1
   exact hfin rfl ⟨_,by simp only[A7,hev o _ h4 ha rfl],hc1⟩
  ·cases hs1
 | _=>cases hkind
theorem qBY {rs:List Nat} {base d:Nat} {q:Aj} (hr:rs.contains d=false):∀ {hp':List (Nat×Aj)},Qf rs base h hp'->A2 (Fo rs base hp') d=none->Qf rs base ((d,q)::h) hp'
 | [],_,_=>trivial
 | (j,r)::l,ho,hn=>by
  refine⟨?_,qBY hr ho.2 ?_⟩
  ·have h0:=ho.1
   by_cases hj:j<1000000
   ·simp only[hj,↓reduceIte,Fo,A2]at h0 hn ⊢
    by_cases e:base+j=d
    ·rw[if_pos e]at hn;cases hn
    ·rw[if_neg (fun q=>e q.symm)];exact h0
   ·simp only[hj,↓reduceIte,A2]at h0 ⊢
    have hm:rs.getD (j-1000000) 0∈rs:=by
     rw[List.getD_eq_getElem?_getD,List.getElem?_eq_getElem h0.1];exact List.getElem_mem _
    have hne:¬ d=rs.getD (j-1000000) 0:=fun e=>by
     rw[<- e]at hm;rw[List.contains_eq_mem,decide_eq_false_iff_not]at hr;exact hr hm
    rw[if_neg hne];exact h0
  ·simp only[Fo]at hn
   split at hn
   ·simp only[A2]at hn
    split at hn
    ·cases hn
    ·exact hn
   ·exact hn
theorem q7C {d:Nat} {q:Aj}:∀ {l rs:List Nat},(∀ i∈l,i≠d)->(l.filterMap fun i=>(A2 ((d,q)::h) i).map fun r=>(1000000+rs.idxOf i,Bj (Uc rs) r))=l.filterMap fun i=>(A2 h i).map fun r=>(1000000+rs.idxOf i,Bj (Uc rs) r)
 | [],_,_=>rfl
 | i::l,rs,hl=>by
  have h0:=q7C (q:=q) (l:=l) (rs:=rs) fun k hk=>hl k (List.mem_cons_of_mem _ hk)
  have h1:A2 ((d,q)::h) i=A2 h i:=by simp only[A2];rw[if_neg (fun e=>hl i (List.mem_cons_self ..) e.symm)]
  simp only[List.filterMap_cons,h1,h0]
theorem q8x (hc:qDY x y=true) (hx:Bt P Γ x st s) (hy:Bt P Γ y s s2):∃ t t2,Bt P Γ y st t/\Bt P Γ x t t2/\Dh s2 t2:=by
 obtain⟨dst1,op1,g1,id1⟩:=x
 obtain⟨dst2,op2,g2,id2⟩:=y
 unfold qDY at hc
 split at hc
 case h_2=>cases hc
 rename_i a args rs base dx zs dy ox e1 oy e2
 simp only at ox e1 oy e2
 subst ox;subst e1;subst oy;subst e2
 simp only[Bool.and_eq_true,Option.isNone_iff_eq_none,bne_iff_ne,ne_eq,Bool.not_eq_true']at hc
 obtain⟨⟨⟨⟨⟨k1,k2⟩,ha⟩,hargs⟩,hd⟩,hr⟩:=hc
 subst k1;subst k2
 obtain⟨e,h⟩:=st
 simp only[Bt,D4,reduceCtorEq,Option.some.injEq,Bool.true_eq_false,false_and,or_false,true_and]at hx
 obtain⟨r1,st1,⟨av,f,cs,as,res,hp',q1,q2,q3,q4,q5,q6,rfl,rfl⟩,rfl⟩:=hx
 simp only[Bt,D4,reduceCtorEq,Option.some.injEq,Bool.true_eq_false,false_and,or_false,true_and]at hy
 obtain⟨r2,st2,⟨c2,hs,hcc⟩,rfl⟩:=hy
 generalize hdd:RO.d ⟨some dy,.alloc false zs,none,id2⟩=d at *
 simp only[A7,Bool.false_eq_true,↓reduceIte,Option.some.injEq,Prod.mk.injEq]at hs
 obtain⟨rfl,rfl,rfl⟩:=hs
 have hdn:A2 (Fo rs base hp'++q0u rs base hp' h) d=none:=hcc
 rw[B8,Option.or_eq_none_iff]at hdn
 obtain⟨n1,n2⟩:=hdn
 have nh:A2 h d=none:=by
  rw[Il,if_neg (by rw[hr];decide)]at n2
  simpa using n2
 have hmem:∀ i∈rs,i≠d:=fun i hi e=>by rw[e]at hi;rw[List.contains_eq_mem,decide_eq_false_iff_not]at hr;exact hr hi
 have hg:Vi rs hp' d=some d:=by unfold Vi;rw[hr];rfl
 refine⟨⟨(dy,.lp d 0 0)::e,(d,.bx (zs.map fun z=>.t (Ar z)))::h⟩,_,.inl ⟨rfl,_,⟨e,(d,.bx (zs.map fun z=>.t (Ar z)))::h⟩,⟨_,?_,nh⟩,rfl⟩,.inl ⟨rfl,_,_,⟨av,f,cs,as,res,hp',(Oi ha _).trans q1,q2,(Es fun o ho=>Oi (List.all_eq_true.1 hargs o ho) _).trans q3,q4,?_,qBY hr q6 n1,rfl,rfl⟩,rfl⟩,fun k=>?_,fun k=>?_⟩
 ·rw[hdd];simp only[A7,Bool.false_eq_true,↓reduceIte]
 ·have:=q7C (h:=h) (q:=.bx (zs.map fun z=>.t (Ar z))) (rs:=rs) hmem
  unfold Ba at q5 ⊢
  rw[this];exact q5
 ·have hl:Ag (Vi rs hp') (.lp d 0 0)=.lp d 0 0:=by simp only[Ag,ren1,ren0,hg]
  simp only[C6,List.map_cons,St.put,hl]
  exact N3 hd
 ·have hb:Bj (Vi rs hp') (.bx (zs.map fun z=>.t (Ar z)))=.bx (zs.map fun z=>.t (Ar z)):=by
   simp only[Bj,List.map_map];rfl
  simp only[C6,St.put,q0u,hr,Bool.false_eq_true,↓reduceIte,B8,A2,hb]
  by_cases e:d=k
  ·subst e;simp[n1]
  ·simp only[if_neg e]
theorem qAJ (hc:qAF x y=true) (hx:Bt P Γ x st s) (hy:Bt P Γ y s s2):∃ t t2,Bt P Γ y st t/\Bt P Γ x t t2/\Dh s2 t2:=by
  rw[qAF,Bool.or_eq_true,Bool.or_eq_true,Bool.or_eq_true,Bool.or_eq_true,Bool.or_eq_true,Bool.or_eq_true]at hc
  rcases hc with(((((hc|hc)|hc)|hc)|hc)|hc)|hc
  · exact q8x hc hx hy
  · exact q8u hc hx hy
  · exact q8r hc hx hy
  · exact q8v hc hx hy
  · exact q8t hc hx hy
  · exact q8w hc hx hy
  simp only[Bool.and_eq_true,Bool.or_eq_true,decide_eq_true_eq,beq_iff_eq]at hc
  obtain⟨⟨⟨⟨kx,ky⟩,kk⟩,c1⟩,c2⟩:=hc
  obtain⟨e,h⟩:=st
  obtain⟨r,h1,h2,rfl⟩:=qBR kx hx
  obtain⟨r',h3,h4,rfl⟩:=qBR ky hy
  have ry:∀ t∈y.reads,x.dst≠some t:=by
    intro t ht he
    rw[he]at c1
    simp only[Bool.and_eq_true,Bool.not_eq_true',List.contains_eq_mem,decide_eq_false_iff_not]at c1
    exact c1.1 ht
  have rx:∀ t∈x.reads,y.dst≠some t:=by
    intro t ht he
    rw[he]at c2
    simp only[Bool.not_eq_true',List.contains_eq_mem,decide_eq_false_iff_not]at c2
    exact c2 ht
  have xy:∀ t,x.dst=some t->y.dst≠some t:=by
    intro t he hy'
    rw[he,hy']at c1
    simp at c1
  rw[qBS]at h4
  have h5:Ao P Γ y ⟨e,h1⟩ r' h3:=h4.env ky fun t ht=>(q8q (ry t ht)).symm
  have key:∃ hm he,Ao P Γ y ⟨e,h⟩ r' hm/\Ao P Γ x ⟨e,hm⟩ r he/\∀ k,A2 he k=A2 h3 k:=by
    rcases kk with((kk|kk)|kk)|kk
    · refine⟨if x.op.kd<=1 then h3 else h,h3,?_,?_,fun k=>rfl⟩
      all_goals
        by_cases k1:x.op.kd<=1
        · rw[if_pos k1]
          have:=h2.same k1;subst this
          first
          | exact h5
          | (rcases kk with((k0|k0)|k0)|k0
             · exact h2.hp k0
             · have:=h5.same (by omega);subst this;exact h2
             · have:=h5.same k0.2;subst this;exact h2
             · exact h2.add (h5.newN k0.2) k1)
        · rw[if_neg k1]
          have k0:y.op.kd=0:=by
            rcases kk with((k0|k0)|k0)|k0
            · omega
            · exact k0
            · omega
            · omega
          have:=h5.same (by omega);subst this
          first
          | exact h2
          | exact h5.hp k0
    · exact qFb kk.1 kk.2 h2 h5
    · exact qDb kk h2 h5
    · exact qDc kk h2 h5
  obtain⟨hm,he,key1,key2,key3⟩:=key
  have h6:Ao P Γ x ⟨(St.put ⟨e,hm⟩ y.dst r').env,hm⟩ r he:=key2.env kx fun t ht=>q8q (rx t ht)
  have h7:=h6.step
  rw[<- qBS]at h7
  refine⟨_,_,key1.step,h7,fun k=>?_,fun k=>by simp only[qHf];exact key3 k⟩
  cases hxd:x.dst<;>cases hyd:y.dst<;>simp only[St.put]
  rename_i a b
  have hne:b≠a:=fun e=>xy a hxd (e ▸ hyd)
  simp only[A2]
  by_cases h1:a=k
  · have:b≠k:=fun e=>hne (e.trans h1.symm)
    simp[h1,this]
  · simp[h1]
def Zk (a b:St):Prop:=(∀ k,A2 b.env k=A2 a.env k)/\b.hp=a.hp
theorem Zl {a b:St} {dst:Option Nat} (h:Dh a b):Dh (a.put dst r) (b.put dst r):=by
 cases dst with
 | none=>exact h
 | some t =>
  refine⟨fun k=>?_,h.2⟩
  simp only[St.put,A2]
  split
  ·rfl
  ·exact h.1 k
theorem q7x (hl:Zk st st') (hs:C9 P Γ d io st r s):∃ s',C9 P Γ d io st' r s'/\Zk s s':=by
 obtain⟨e,h⟩:=st
 obtain⟨e',h'⟩:=st'
 obtain⟨hl1,hl2⟩:=hl
 simp only at hl1 hl2;subst hl2
 have hev:∀ o,ev Γ e' o=ev Γ e o:=by
  intro o
  cases o with
  | tmp t=>exact hl1 t
  | _=>rfl
 by_cases hk:io.kd<=2
 ·have:=q3D hk (fun o _=>hev o) hs
  refine⟨_,this.2,fun k=>?_,rfl⟩
  rw[this.1];exact hl1 k
 ·cases io
  case hcall f args rs base =>
   obtain⟨as,res,hp',h1,h2,h3,h4,rfl,rfl⟩:=hs
   refine⟨_,⟨as,res,hp',(Es fun o _=>hev o).trans h1,h2,h3,h4,rfl,rfl⟩,fun k=>?_,rfl⟩
   have:=hl1 k
   simp only[C6,Cc (Ag (Vi rs hp')),this]
  case hcallW f args base =>
   obtain⟨rs,as,res,hp',h1,h2,h3,h4,rfl,rfl⟩:=hs
   refine⟨_,⟨rs,as,res,hp',(Es fun o _=>hev o).trans h1,h2,h3,h4,rfl,rfl⟩,fun k=>?_,rfl⟩
   have:=hl1 k
   simp only[C6,Cc (Ag (Vi rs hp')),this]
  case hcallv x args rs base =>
   obtain⟨av,f,cs,as,res,hp',g1,g2,h1,h2,h3,h4,rfl,rfl⟩:=hs
   refine⟨_,⟨av,f,cs,as,res,hp',(hev x).trans g1,g2,(Es fun o _=>hev o).trans h1,h2,h3,h4,rfl,rfl⟩,fun k=>?_,rfl⟩
   have:=hl1 k
   simp only[C6,Cc (Ag (Vi rs hp')),this]
  case hcallvW x args base =>
   obtain⟨rs,av,f,cs,as,res,hp',g1,g2,h1,h2,h3,h4,rfl,rfl⟩:=hs
   refine⟨_,⟨rs,av,f,cs,as,res,hp',(hev x).trans g1,g2,(Es fun o _=>hev o).trans h1,h2,h3,h4,rfl,rfl⟩,fun k=>?_,rfl⟩
   have:=hl1 k
   simp only[C6,Cc (Ag (Vi rs hp')),this]
  case hcallB x args base =>
   obtain⟨rs,av,f,cs,as,res,hp',g1,g2,h1,h2,h3,h4,rfl,rfl⟩:=hs
   refine⟨_,⟨rs,av,f,cs,as,res,hp',(hev x).trans g1,g2,(Es fun o _=>hev o).trans h1,h2,h3,h4,rfl,rfl⟩,fun k=>?_,rfl⟩
   have:=hl1 k
   simp only[C6,Cc (Ag (Vi rs hp')),this]
  case cpy s0 x y =>
   obtain⟨c,hs,hc⟩:=hs
   simp only[A7]at hs
   split at hs
   case h_2=>cases hs
   rename_i id off len cap f1
   split at hs
   case h_2=>cases hs
   rename_i ty2 q es f2
   obtain⟨news,hn,he⟩:=Option.map_eq_some_iff.1 hs
   simp only[Prod.mk.injEq]at he
   obtain⟨rfl,rfl,rfl⟩:=he
   exact⟨⟨e',_⟩,⟨_,by simp only[A7,hev,f1,f2,hn,Option.map_some],hc⟩,hl1,rfl⟩
  case clr s0 zs x =>
   obtain⟨c,hs,hc⟩:=hs
   simp only[A7]at hs
   split at hs
   case h_2=>cases hs
   rename_i id off len cap f1
   split at hs
   case h_2=>cases hs
   rename_i ty2 q es f2
   simp only[Option.some.injEq,Prod.mk.injEq]at hs
   obtain⟨rfl,rfl,rfl⟩:=hs
   exact⟨⟨e',_⟩,⟨_,by simp only[A7,hev,f1,f2],hc⟩,hl1,rfl⟩
  case app fz ty s0 b x =>
   obtain⟨c,hs,hc⟩:=hs
   simp only[A7]at hs
   revert hs
   cases hx:ev Γ e x with
   | none=>simp
   | some ax =>
    simp only[Option.bind_some]
    cases hn:B7 h' ax with
    | none=>simp
    | some news =>
     simp only[Option.bind_some]
     cases hb:ev Γ e b with
     | none=>simp
     | some a =>
      simp only[Option.bind_some]
      have fin:∀ {c0:Prop} {es:List (List T)} {t t':St},Zk t t' ->
        (if fz=true then some (Gk s0 news/\c0,AV.t (T.sl es none none),t)else some ((Gk s0 news/\c0)/\A2 t.hp d=none,AV.ls d 0 es.length none,(⟨t.env,(d,Aj.sl ty s0 es)::t.hp⟩:St)))=some (c,r,s) ->
        ∃ s',(if fz=true then some (Gk s0 news/\c0,AV.t (T.sl es none none),t')else some ((Gk s0 news/\c0)/\A2 t'.hp d=none,AV.ls d 0 es.length none,(⟨t'.env,(d,Aj.sl ty s0 es)::t'.hp⟩:St)))=some (c,r,s')/\Zk s s':=by
       intro c0 es t t' hl hq
       obtain⟨h1,h2⟩:=hl
       split at hq
       ·rename_i hf
        simp only[Option.some.injEq,Prod.mk.injEq]at hq
        obtain⟨rfl,rfl,rfl⟩:=hq
        rw[if_pos hf]
        exact⟨t',rfl,h1,h2⟩
       ·rename_i hf
        simp only[Option.some.injEq,Prod.mk.injEq]at hq
        obtain⟨rfl,rfl,rfl⟩:=hq
        rw[if_neg hf,h2]
        exact⟨_,rfl,h1,rfl⟩
      have out:∀ {s'},A7 Γ d (.app fz ty s0 b x) ⟨e',h'⟩=some (c,r,s')->Zk s s'->∃ s',C9 P Γ d (.app fz ty s0 b x) ⟨e',h'⟩ r s'/\Zk s s':=fun h1 h2=>⟨_,⟨c,h1,hc⟩,h2⟩
      have hst:Zk ⟨e,h'⟩ ⟨e',h'⟩:=⟨hl1,rfl⟩
      have hki:∀ id,Zk (St.kill id ⟨e,h'⟩) (St.kill id ⟨e',h'⟩):=by
       intro id
       refine⟨fun k=>?_,rfl⟩
       have:=hl1 k
       simp only[St.kill,Cc (Ae id),this]
      split
      ·intro hq
       obtain⟨s',h1,h2⟩:=fin hst hq
       exact out (s':=s') (by simp only[A7,hev,hx,hn,hb,Option.bind_some];exact h1) h2
      ·split
       ·intro hq
        rename_i hlk
        obtain⟨s',h1,h2⟩:=fin hst hq
        exact out (s':=s') (by simp only[A7,hev,hx,hn,hb,Option.bind_some,hlk];exact h1) h2
       ·simp
      ·split
       ·intro hq
        rename_i hlk
        obtain⟨s',h1,h2⟩:=fin (hki _) hq
        exact out (s':=s') (by simp only[A7,hev,hx,hn,hb,Option.bind_some,hlk];exact h1) h2
       ·simp
      ·simp
  case appS ty b x =>
   obtain⟨c,hs,hc⟩:=hs
   simp only[A7]at hs
   revert hs
   split
   ·rename_i s0 id len hx hb
    split
    ·rename_i t q es h1
     intro hq
     simp only[Option.some.injEq,Prod.mk.injEq]at hq
     obtain⟨rfl,rfl,rfl⟩:=hq
     have he:∀ k,A2 (St.kill id ⟨e',h'⟩).env k=A2 (St.kill id ⟨e,h'⟩).env k:=fun k=>by
      have:=hl1 k
      simp only[St.kill,Cc (Ae id),this]
     exact⟨⟨(St.kill id ⟨e',h'⟩).env,(d,.sl ty 1 (es.take len++Q2 s0))::(St.kill id ⟨e',h'⟩).hp⟩,⟨_,by simp only[A7,hev,hx,hb,h1];rfl,hc⟩,he,rfl⟩
    ·simp
   ·rename_i s0 nl hx hb
    intro hq
    simp only[Option.some.injEq,Prod.mk.injEq]at hq
    obtain⟨rfl,rfl,rfl⟩:=hq
    exact⟨⟨e',(d,.sl ty 1 (Q2 s0))::h'⟩,⟨_,by simp only[A7,hev,hx,hb],hc⟩,hl1,rfl⟩
   ·simp
  case appA ty s0 b x =>
   obtain⟨c,hs,hc⟩:=hs
   simp only[A7]at hs
   revert hs
   split
   ·rename_i ix n id len hx hb
    split
    ·rename_i tx q news t q' es h1 h2
     intro hq
     simp only[Option.some.injEq,Prod.mk.injEq]at hq
     obtain⟨rfl,rfl,rfl⟩:=hq
     have he:∀ k,A2 (St.kill id ⟨e',h'⟩).env k=A2 (St.kill id ⟨e,h'⟩).env k:=fun k=>by
      have:=hl1 k
      simp only[St.kill,Cc (Ae id),this]
     exact⟨⟨(St.kill id ⟨e',h'⟩).env,(d,.rs ty s0 ((es.take len++news).map fun e=>e.map (Ae id)))::(St.kill id ⟨e',h'⟩).hp⟩,⟨_,by simp only[A7,hev,hx,hb,h1,h2];rfl,hc⟩,he,rfl⟩
    ·simp
   ·simp
  case appR fz i0 ty b x =>
   obtain⟨c,hs,hc⟩:=hs
   simp only[A7]at hs
   revert hs
   split
   ·rename_i news _ _ id len hx hb
    split
    ·rename_i t q es hlk
     intro hq
     have he:∀ k,A2 (St.kill i0 ⟨e',h'⟩).env k=A2 (St.kill i0 ⟨e,h'⟩).env k:=fun k=>by
      have:=hl1 k
      simp only[St.kill,Cc (Ae i0),this]
     cases fz with
     | true =>
      simp only[if_true,Option.some.injEq,Prod.mk.injEq]at hq
      obtain⟨rfl,rfl,rfl⟩:=hq
      exact⟨St.kill i0 ⟨e',h'⟩,⟨_,by simp only[A7,hev,hx,hb,hlk,if_true],hc⟩,he,rfl⟩
     | false =>
      simp only[Bool.false_eq_true,if_false,Option.some.injEq,Prod.mk.injEq]at hq
      obtain⟨rfl,rfl,rfl⟩:=hq
      exact⟨⟨(St.kill i0 ⟨e',h'⟩).env,(d,.sl ty 1 (es.take len++news))::(St.kill i0 ⟨e',h'⟩).hp⟩,⟨_,by simp only[A7,hev,hx,hb,hlk,Bool.false_eq_true,if_false];rfl,hc⟩,he,rfl⟩
    ·simp
   ·simp
  all_goals simp[B6.kd]at hk
  all_goals (split at hk<;>simp at hk)
theorem q0v (hl:∀ k,A2 h' k=A2 h k) (a:AV):B7 h' a=B7 h a:=by
 unfold B7
 split<;>simp only[hl]
theorem Ez (hl:∀ k,A2 h' k=A2 h k) (i:Nat) (q:Aj):∀ k,A2 (Bm i q h') k=A2 (Bm i q h) k:=fun k=>by simp only[Bg,hl]
theorem Xv (hl:∀ k,A2 h' k=A2 h k) (i:Nat):∀ k,A2 (St.kill i ⟨e,h'⟩).hp k=A2 (St.kill i ⟨e,h⟩).hp k:=fun k=>by simp only[Ru,hl]
theorem q7y (hl:∀ k,A2 h' k=A2 h k) (hs:C9 P Γ d io ⟨e,h⟩ r s):∃ s',C9 P Γ d io ⟨e,h'⟩ r s'/\Dh s s':=by
 by_cases hk:io.kd<=1
 ·have h1:=q1U hk hs
  subst h1
  exact⟨_,q78 (fun id x hx=>(hl id).trans hx) hk hs,fun _=>rfl,hl⟩
 have cons:∀ (d:Nat) (q:Aj) (k:Nat),A2 ((d,q)::h') k=A2 ((d,q)::h) k:=fun d q k=>by simp only[A2,hl]
 by_cases hn:io.isNew=true
 ·have gen:(∃ c,A7 Γ d io ⟨e,h⟩=some (c,r,s)/\c)->∃ s',(∃ c,A7 Γ d io ⟨e,h'⟩=some (c,r,s')/\c)/\Dh s s':=by
   rintro⟨c,hs,hc⟩
   have hen:s.env=e:=by
    have:=q2D (Γ:=Γ) (d:=d) (e:=e) (e':=e) (h:=h) (io:=io) (by cases io<;>simp[B6.isNew,B6.kd]at hn ⊢<;>split<;>omega) (fun _ _=>rfl)
    rw[hs]at this
    simp only[Option.map_some,Option.some.injEq,Prod.mk.injEq]at this
    rw[this.2.2]
   rcases q8o hn hs hc with⟨h2,h3⟩|⟨q,h2,h3,h4⟩
   ·exact⟨_,h3 h',fun k=>by rw[hen],fun k=>by rw[h2];exact hl k⟩
   ·exact⟨_,h4 h' ((hl d).trans h2),fun k=>by rw[hen],fun k=>by rw[h3];exact cons d q k⟩
  cases io with
  | call f args=>simp[B6.isNew]at hn
  | callv f args=>simp[B6.isNew]at hn
  | hcall=>simp[B6.isNew]at hn
  | hcallv=>simp[B6.isNew]at hn
  | hcallW=>simp[B6.isNew]at hn
  | hcallvW=>simp[B6.isNew]at hn
  | hcallB=>simp[B6.isNew]at hn
  | ncall=>simp[B6.isNew]at hn
  | callT=>simp[B6.isNew]at hn
  | rcall=>simp[B6.isNew]at hn
  | _=>exact gen hs
 cases io
 all_goals try (simp[B6.kd]at hk;done)
 all_goals try (simp[B6.isNew]at hn;done)
 case store n a x =>
  obtain⟨c,hs,hc⟩:=hs
  simp only[A7,Option.bind_eq_some_iff]at hs
  obtain⟨v,hv,hs⟩:=hs
  split at hs
  case h_2=>cases hs
  rename_i id i k ha
  split at hs
  ·rename_i ty s0 es hq
   simp only[Option.map_eq_some_iff,Prod.mk.injEq]at hs
   obtain⟨ts,hts,rfl,rfl,rfl⟩:=hs
   exact⟨⟨e,Bm id _ h'⟩,⟨_,by simp only[A7,hv,ha,hl,hq,hts,Option.bind_some,Option.map_some],hc⟩,fun _=>rfl,Ez hl _ _⟩
  ·rename_i ty s0 es hq
   simp only[Option.some.injEq,Prod.mk.injEq]at hs
   obtain⟨rfl,rfl,rfl⟩:=hs
   exact⟨⟨e,Bm id _ h'⟩,⟨_,by simp only[A7,hv,ha,hl,hq,Option.bind_some],hc⟩,fun _=>rfl,Ez hl _ _⟩
  ·rename_i cs hq
   simp only[Option.some.injEq,Prod.mk.injEq]at hs
   obtain⟨rfl,rfl,rfl⟩:=hs
   exact⟨⟨e,Bm id _ h'⟩,⟨_,by simp only[A7,hv,ha,hl,hq,Option.bind_some],hc⟩,fun _=>rfl,Ez hl _ _⟩
  ·cases hs
 case stR id n a x =>
  obtain⟨c,hs,hc⟩:=hs
  have hen:s.env=e:=by
   have:=q2D (Γ:=Γ) (d:=d) (e:=e) (e':=e) (h:=h) (io:=.stR id n a x) (by simp[B6.kd]) (fun _ _=>rfl)
   rw[hs]at this
   simp only[Option.map_some,Option.some.injEq,Prod.mk.injEq]at this
   rw[this.2.2]
  obtain⟨q,q',h2,h3,h4,h5⟩:=qBQ hs hc
  exact⟨_,h5 h' ((hl id).trans h2),fun k=>by rw[hen],fun k=>by rw[h4];exact Ez hl _ _ k⟩
 case stF id f a x =>
  obtain⟨c,hs,hc⟩:=hs
  have hen:s.env=e:=by
   have:=q2D (Γ:=Γ) (d:=d) (e:=e) (e':=e) (h:=h) (io:=.stF id f a x) (by simp[B6.kd]) (fun _ _=>rfl)
   rw[hs]at this
   simp only[Option.map_some,Option.some.injEq,Prod.mk.injEq]at this
   rw[this.2.2]
  obtain⟨ty,s0,i,v,es,h2,h3,h4⟩:=q8p hs hc
  exact⟨_,h4 h' es ((hl id).trans h2) rfl rfl,fun k=>by rw[hen],fun k=>by rw[h3];exact Ez hl _ _ k⟩
 case mup kt m k x =>
  obtain⟨c,hs,hc⟩:=hs
  simp only[A7]at hs
  split at hs
  case h_2=>cases hs
  rename_i kv id e1 e2
  split at hs
  case h_2=>cases hs
  rename_i es hq
  simp only[Option.map_eq_some_iff,Prod.mk.injEq]at hs
  obtain⟨t,ht,rfl,rfl,rfl⟩:=hs
  exact⟨⟨e,Bm id _ h'⟩,⟨_,by simp only[A7,e1,e2,hl,hq,ht,Option.map_some],hc⟩,fun _=>rfl,Ez hl _ _⟩
 case mupA kt m k x =>
  obtain⟨c,hs,hc⟩:=hs
  simp only[A7]at hs
  split at hs
  case h_2=>cases hs
  rename_i kv id e1 e2
  split at hs
  case h_2=>cases hs
  rename_i es hq
  simp only[Option.map_eq_some_iff,Prod.mk.injEq]at hs
  obtain⟨t,ht,rfl,rfl,rfl⟩:=hs
  exact⟨⟨e,Bm id _ h'⟩,⟨_,by simp only[A7,e1,e2,hl,hq,ht,Option.map_some],hc⟩,fun _=>rfl,Ez hl _ _⟩
 case mdel kt m k =>
  obtain⟨c,hs,hc⟩:=hs
  simp only[A7]at hs
  split at hs
  case h_2=>cases hs
  rename_i kv id e1 e2
  split at hs
  case h_2=>cases hs
  rename_i es hq
  simp only[Option.some.injEq,Prod.mk.injEq]at hs
  obtain⟨rfl,rfl,rfl⟩:=hs
  exact⟨⟨e,Bm id _ h'⟩,⟨_,by simp only[A7,e1,e2,hl,hq],hc⟩,fun _=>rfl,Ez hl _ _⟩
 case nxt x =>
  obtain⟨c,hs,hc⟩:=hs
  simp only[A7]at hs
  split at hs
  case h_2=>cases hs
  rename_i id e1
  split at hs
  case h_2=>cases hs
  rename_i b pos hq
  split at hs<;>rename_i hp<;>simp only[Option.some.injEq,Prod.mk.injEq]at hs<;>obtain⟨rfl,rfl,rfl⟩:=hs
  ·exact⟨⟨e,Bm id _ h'⟩,⟨True,by simp only[A7,e1,hl,hq,hp,↓reduceIte],trivial⟩,fun _=>rfl,Ez hl _ _⟩
  ·exact⟨⟨e,h'⟩,⟨True,by simp only[A7,e1,hl,hq,hp,↓reduceIte],trivial⟩,fun _=>rfl,hl⟩
 case hcall f args rs base =>
  obtain⟨as,res,hp',h1,h2,h3,h4,rfl,rfl⟩:=hs
  have hh:Ba rs h'=Ba rs h:=by simp only[Ba,hl]
  have hb:∀ l,Qf rs base h l->Qf rs base h' l:=by
   intro l
   induction l with
   | nil=>exact fun h=>h
   | cons p l ih=>intro hq;obtain⟨j,q⟩:=p;simp only[Qf,hl]at hq ⊢;exact⟨hq.1,ih hq.2⟩
  refine⟨_,⟨as,res,hp',h1,h2,by simp only[hh];exact h3,hb _ h4,rfl,rfl⟩,fun k=>rfl,fun k=>?_⟩
  simp only[C6,B8,Il,hl]
 case hcallW f args base =>
  obtain⟨rs,as,res,hp',h1,h2,h3,h4,rfl,rfl⟩:=hs
  have hh:Ba rs h'=Ba rs h:=by simp only[Ba,hl]
  have hb:∀ l,Qf rs base h l->Qf rs base h' l:=by
   intro l
   induction l with
   | nil=>exact fun h=>h
   | cons p l ih=>intro hq;obtain⟨j,q⟩:=p;simp only[Qf,hl]at hq ⊢;exact⟨hq.1,ih hq.2⟩
  refine⟨_,⟨rs,as,res,hp',h1,h2,by simp only[hh];exact h3,hb _ h4,rfl,rfl⟩,fun k=>rfl,fun k=>?_⟩
  simp only[C6,B8,Il,hl]
 case hcallv x args rs base =>
  obtain⟨av,f,cs,as,res,hp',g1,g2,h1,h2,h3,h4,rfl,rfl⟩:=hs
  have hh:Ba rs h'=Ba rs h:=by simp only[Ba,hl]
  have hb:∀ l,Qf rs base h l->Qf rs base h' l:=by
   intro l
   induction l with
   | nil=>exact fun h=>h
   | cons p l ih=>intro hq;obtain⟨j,q⟩:=p;simp only[Qf,hl]at hq ⊢;exact⟨hq.1,ih hq.2⟩
  refine⟨_,⟨av,f,cs,as,res,hp',g1,g2,h1,h2,by simp only[hh];exact h3,hb _ h4,rfl,rfl⟩,fun k=>rfl,fun k=>?_⟩
  simp only[C6,B8,Il,hl]
 case hcallvW x args base =>
  obtain⟨rs,av,f,cs,as,res,hp',g1,g2,h1,h2,h3,h4,rfl,rfl⟩:=hs
  have hh:Ba rs h'=Ba rs h:=by simp only[Ba,hl]
  have hb:∀ l,Qf rs base h l->Qf rs base h' l:=by
   intro l
   induction l with
   | nil=>exact fun h=>h
   | cons p l ih=>intro hq;obtain⟨j,q⟩:=p;simp only[Qf,hl]at hq ⊢;exact⟨hq.1,ih hq.2⟩
  refine⟨_,⟨rs,av,f,cs,as,res,hp',g1,g2,h1,h2,by simp only[hh];exact h3,hb _ h4,rfl,rfl⟩,fun k=>rfl,fun k=>?_⟩
  simp only[C6,B8,Il,hl]
 case hcallB x args base =>
  obtain⟨rs,av,f,cs,as,res,hp',g1,g2,h1,h2,h3,h4,rfl,rfl⟩:=hs
  have hh:Ba rs h'=Ba rs h:=by simp only[Ba,hl]
  have hb:∀ l,Qf rs base h l->Qf rs base h' l:=by
   intro l
   induction l with
   | nil=>exact fun h=>h
   | cons p l ih=>intro hq;obtain⟨j,q⟩:=p;simp only[Qf,hl]at hq ⊢;exact⟨hq.1,ih hq.2⟩
  refine⟨_,⟨rs,av,f,cs,as,res,hp',g1,g2,h1,h2,by simp only[hh];exact h3,hb _ h4,rfl,rfl⟩,fun k=>rfl,fun k=>?_⟩
  simp only[C6,B8,Il,hl]
 case ncall f args base =>
  obtain⟨as,res,hp',h1,h2,h3,h4,rfl⟩:=hs
  have hb:∀ l,Qf [] base h l->Qf [] base h' l:=by
   intro l
   induction l with
   | nil=>exact fun h=>h
   | cons p l ih=>intro hq;obtain⟨j,q⟩:=p;simp only[Qf,hl]at hq ⊢;exact⟨hq.1,ih hq.2⟩
  exact⟨_,⟨as,res,hp',h1,h2,hb _ h3,h4,rfl⟩,fun k=>rfl,fun k=>by simp only[B8,hl]⟩
 case cpy s0 x y =>
  obtain⟨c,hs,hc⟩:=hs
  simp only[A7]at hs
  split at hs
  case h_2=>cases hs
  rename_i id off len cap f1
  split at hs
  case h_2=>cases hs
  rename_i ty2 q es f2
  obtain⟨news,hn,he⟩:=Option.map_eq_some_iff.1 hs
  simp only[Prod.mk.injEq]at he
  obtain⟨rfl,rfl,rfl⟩:=he
  obtain⟨ay,fy,fe⟩:=Option.bind_eq_some_iff.1 hn
  exact⟨⟨e,Bm id _ h'⟩,⟨_,by simp only[A7,f1,hl,f2,fy,Option.bind_some,(q0v hl ay).trans fe,Option.map_some],hc⟩,fun _=>rfl,Ez hl _ _⟩
 case clr s0 zs x =>
  obtain⟨c,hs,hc⟩:=hs
  simp only[A7]at hs
  split at hs
  case h_2=>cases hs
  rename_i id off len cap f1
  split at hs
  case h_2=>cases hs
  rename_i ty2 q es f2
  simp only[Option.some.injEq,Prod.mk.injEq]at hs
  obtain⟨rfl,rfl,rfl⟩:=hs
  exact⟨⟨e,Bm id _ h'⟩,⟨_,by simp only[A7,f1,(hl _).trans f2],hc⟩,fun _=>rfl,Ez hl _ _⟩
 case app fz ty s0 b x =>
  obtain⟨c,hs,hc⟩:=hs
  simp only[A7]at hs
  revert hs
  cases hx:ev Γ e x with
  | none=>simp
  | some ax =>
   simp only[Option.bind_some]
   cases hn:B7 h ax with
   | none=>simp
   | some news =>
    have hn':=(q0v hl ax).trans hn
    simp only[Option.bind_some]
    cases hb:ev Γ e b with
    | none=>simp
    | some a =>
     simp only[Option.bind_some]
     have fin:∀ {c0:Prop} {es:List (List T)} {t t':St},Dh t t' ->
       (if fz=true then some (Gk s0 news/\c0,AV.t (T.sl es none none),t)else some ((Gk s0 news/\c0)/\A2 t.hp d=none,AV.ls d 0 es.length none,(⟨t.env,(d,Aj.sl ty s0 es)::t.hp⟩:St)))=some (c,r,s) ->
       ∃ c' s',(if fz=true then some (Gk s0 news/\c0,AV.t (T.sl es none none),t')else some ((Gk s0 news/\c0)/\A2 t'.hp d=none,AV.ls d 0 es.length none,(⟨t'.env,(d,Aj.sl ty s0 es)::t'.hp⟩:St)))=some (c',r,s')/\c'/\Dh s s':=by
      intro c0 es t t' hl hq
      obtain⟨h1,h2⟩:=hl
      split at hq
      ·rename_i hf
       simp only[Option.some.injEq,Prod.mk.injEq]at hq
       obtain⟨rfl,rfl,rfl⟩:=hq
       rw[if_pos hf]
       exact⟨_,t',rfl,hc,h1,h2⟩
      ·rename_i hf
       simp only[Option.some.injEq,Prod.mk.injEq]at hq
       obtain⟨rfl,rfl,rfl⟩:=hq
       rw[if_neg hf]
       exact⟨_,_,rfl,⟨hc.1,by rw[h2];exact hc.2⟩,h1,fun k=>by simp only[A2,h2]⟩
     have out:∀ {c' s'},A7 Γ d (.app fz ty s0 b x) ⟨e,h'⟩=some (c',r,s')->c'->Dh s s'->∃ s',C9 P Γ d (.app fz ty s0 b x) ⟨e,h'⟩ r s'/\Dh s s':=fun h1 h2 h3=>⟨_,⟨_,h1,h2⟩,h3⟩
     have hst:Dh ⟨e,h⟩ ⟨e,h'⟩:=⟨fun _=>rfl,hl⟩
     have hki:∀ id,Dh (St.kill id ⟨e,h⟩) (St.kill id ⟨e,h'⟩):=fun id=>⟨fun k=>rfl,Xv hl id⟩
     split
     ·intro hq
      obtain⟨c',s',h1,h2,h3⟩:=fin hst hq
      exact out (s':=s') (by simp only[A7,hx,hn',hb,Option.bind_some];exact h1) h2 h3
     ·split
      ·intro hq
       rename_i hlk
       obtain⟨c',s',h1,h2,h3⟩:=fin hst hq
       exact out (s':=s') (by simp only[A7,hx,hn',hb,Option.bind_some,(hl _).trans hlk];exact h1) h2 h3
      ·simp
     ·split
      ·intro hq
       rename_i hlk
       obtain⟨c',s',h1,h2,h3⟩:=fin (hki _) hq
       exact out (s':=s') (by simp only[A7,hx,hn',hb,Option.bind_some,(hl _).trans hlk];exact h1) h2 h3
      ·simp
     ·simp
 case appS ty b x =>
  obtain⟨c,hs,hc⟩:=hs
  simp only[A7]at hs
  revert hs
  split
  ·rename_i s0 id len hx hb
   split
   ·rename_i t q es h1
    intro hq
    simp only[Option.some.injEq,Prod.mk.injEq]at hq
    obtain⟨rfl,rfl,rfl⟩:=hq
    have hki:∀ k,A2 (St.kill id ⟨e,h'⟩).hp k=A2 (St.kill id ⟨e,h⟩).hp k:=Xv hl id
    obtain⟨c1,c2,c3,c4,c5⟩:=hc
    exact⟨⟨(St.kill id ⟨e,h'⟩).env,(d,.sl ty 1 (es.take len++Q2 s0))::(St.kill id ⟨e,h'⟩).hp⟩,⟨t=ty/\q=1/\0<s0.size/\len+s0.size<=140737488355328/\A2 (St.kill id ⟨e,h'⟩).hp d=none,by simp only[A7,hx,hb,(hl _).trans h1],c1,c2,c3,c4,(hki d).trans c5⟩,fun k=>rfl,fun k=>by simp only[A2,hki]⟩
   ·simp
  ·rename_i s0 nl hx hb
   intro hq
   simp only[Option.some.injEq,Prod.mk.injEq]at hq
   obtain⟨rfl,rfl,rfl⟩:=hq
   obtain⟨c1,c2,c3⟩:=hc
   exact⟨⟨e,(d,.sl ty 1 (Q2 s0))::h'⟩,⟨0<s0.size/\s0.size<=140737488355328/\A2 h' d=none,by simp only[A7,hx,hb],c1,c2,(hl d).trans c3⟩,fun k=>rfl,fun k=>by simp only[A2,hl]⟩
  ·simp
 case appA ty s0 b x =>
  obtain⟨c,hs,hc⟩:=hs
  simp only[A7]at hs
  revert hs
  split
  ·rename_i ix n id len hx hb
   split
   ·rename_i tx q news t q' es h1 h2
    intro hq
    simp only[Option.some.injEq,Prod.mk.injEq]at hq
    obtain⟨rfl,rfl,rfl⟩:=hq
    have hki:∀ k,A2 (St.kill id ⟨e,h'⟩).hp k=A2 (St.kill id ⟨e,h⟩).hp k:=Xv hl id
    obtain⟨c1,c2,c3,c4,c5,c6,c7⟩:=hc
    exact⟨⟨(St.kill id ⟨e,h'⟩).env,(d,.rs ty s0 ((es.take len++news).map fun e=>e.map (Ae id)))::(St.kill id ⟨e,h'⟩).hp⟩,⟨q=s0/\n=news.length/\news≠[]/\t=ty/\q'=s0/\len+news.length<=2147483648/\A2 (St.kill id ⟨e,h'⟩).hp d=none,by simp only[A7,hx,hb,(hl _).trans h1,(hl _).trans h2],c1,c2,c3,c4,c5,c6,(hki d).trans c7⟩,fun k=>rfl,fun k=>by simp only[A2,hki]⟩
   ·simp
  ·simp
 case appR fz i0 ty b x =>
  obtain⟨c,hs,hc⟩:=hs
  simp only[A7]at hs
  revert hs
  split
  ·rename_i news _ _ id len hx hb
   split
   ·rename_i t q es hlk
    intro hq
    have hki:∀ k,A2 (St.kill i0 ⟨e,h'⟩).hp k=A2 (St.kill i0 ⟨e,h⟩).hp k:=Xv hl i0
    cases fz with
    | true =>
     simp only[if_true,Option.some.injEq,Prod.mk.injEq]at hq
     obtain⟨rfl,rfl,rfl⟩:=hq
     exact⟨St.kill i0 ⟨e,h'⟩,⟨_,by simp only[A7,hx,hb,(hl _).trans hlk,if_true],hc⟩,fun k=>rfl,fun k=>hki k⟩
    | false =>
     simp only[Bool.false_eq_true,if_false,Option.some.injEq,Prod.mk.injEq]at hq
     obtain⟨rfl,rfl,rfl⟩:=hq
     exact⟨⟨(St.kill i0 ⟨e,h'⟩).env,(d,.sl ty 1 (es.take len++news))::(St.kill i0 ⟨e,h'⟩).hp⟩,⟨(id=i0/\Gk 1 news/\t=ty/\q=1/\len+news.length<=140737488355328)/\A2 (St.kill i0 ⟨e,h'⟩).hp d=none,by simp only[A7,hx,hb,(hl _).trans hlk,Bool.false_eq_true,if_false],⟨hc.1,by rw[hki];exact hc.2⟩⟩,fun k=>rfl,fun k=>by simp only[A2,hki]⟩
   ·simp
  ·simp
 all_goals (simp only[B6.kd]at hk;split at hk<;>simp[B6.isNew]at hn hk)
theorem q8y (hl:Dh st st') (hs:C9 P Γ d io st r s):∃ s',C9 P Γ d io st' r s'/\Dh s s':=by
 obtain⟨e,h⟩:=st
 obtain⟨e',h'⟩:=st'
 obtain⟨s1,h1,h2⟩:=q7y (h':=h') hl.2 hs
 obtain⟨s2,h3,h4⟩:=q7x (st:=⟨e,h'⟩) (st':=⟨e',h'⟩) ⟨hl.1,rfl⟩ h1
 exact⟨s2,h3,h2.trans ⟨h4.1,fun k=>by rw[h4.2]⟩⟩
theorem q8z (hl:Dh st st') (hs:Bt P Γ ro st s):∃ s',Bt P Γ ro st' s'/\Dh s s':=by
 have hw:D4 st'.env ro.guard=D4 st.env ro.guard:=by
  cases hg:ro.guard with
  | none=>rfl
  | some gb=>simp only[D4,hl.1 gb.1]
 rcases hs with⟨hw',r,st1,hx,rfl⟩|⟨hw',rfl⟩
 ·obtain⟨s',h1,h2⟩:=q8y hl hx
  exact⟨_,.inl ⟨hw.trans hw',r,s',h1,rfl⟩,Zl h2⟩
 ·exact⟨_,.inr ⟨hw.trans hw',rfl⟩,Zl hl⟩
theorem q2E:∀ {ros:List RO} {st st' s:St},Dh st st'->Lx P Γ ros st s->∃ s',Lx P Γ ros st' s'/\Dh s s'
 | [],st,st',s,hl,hs=>by simp only[Lx]at hs;subst hs;exact⟨st',rfl,hl⟩
 | ro::ros,st,st',s,hl,hs=>by
  obtain⟨t,h1,h2⟩:=hs
  obtain⟨t',h3,h4⟩:=q8z hl h1
  obtain⟨s',h5,h6⟩:=q2E h4 h2
  exact⟨s',⟨t',h3,h5⟩,h6⟩
theorem qDg {y:RO} {l2:List RO}:∀ {l1:List RO} {st s:St},(∀ x∈l1,qAF x y=true)->Lx P Γ (l1++y::l2) st s->∃ s',Lx P Γ (y::(l1++l2)) st s'/\Dh s s'
 | [],st,s,_,hs=>⟨s,hs,Dh.rfl'⟩
 | x::l1,st,s,hc,hs=>by
  obtain⟨t,h1,h2⟩:=hs
  obtain⟨s1,⟨t2,h3,h4⟩,hl⟩:=qDg (fun z hz=>hc z (List.mem_cons_of_mem _ hz)) h2
  obtain⟨u,u2,h5,h6,hl2⟩:=qAJ (hc x List.mem_cons_self) h1 h3
  obtain⟨s2,h7,hl3⟩:=q2E hl2 h4
  exact⟨s2,⟨u,h5,u2,h6,h7⟩,hl.trans hl3⟩
end
end Go.Lg
namespace Go.Lg
open Go
def Yf (o:Oper):List Nat:=o.after.toList.filterMap fun e=>if Region.binds .any e then some e.on else none
def qAK (ms:List Nat) (es:List Nat):Nat:=es.foldl (fun m k=>m ||| 2 ^ k ||| ms.getD k 0) 0
def Zm:List Oper->List Nat->List Nat
 | [],ms=>ms
 | o::os,ms=>Zm os (ms++[qAK ms (Yf o)])
structure Pt where
 i:Nat
 ro:RO
 m:Nat
def pts:Nat->List RO->List Nat->List Pt
 | i,ro::ros,m::ms=>⟨i,ro,m⟩::pts (i+1) ros ms
 | _,_,_=>[]
def q4l:List Pt->Bool
 | []=>true
 | p::l=>(l.all fun q=>q.m.testBit p.i||qAF p.ro q.ro)&&q4l l
def q4m:Nat->List Oper->Bool
 | _,[]=>true
 | i,o::os=>(Yf o).all (·<i)&&q4m (i+1) os
def qAL (ros:List RO) (ops:List Oper):Bool:=q4m 0 ops&&q4l (pts 0 ros (Zm ops []))
def qAM (ops:List Oper) (listed:Nat->Bool):Prop:=∀ (k:Nat) (o:Oper),listed k=true->ops[k]? = some o->∀ e∈Yf o,listed e=true
def q5I (ops:List Oper) (es:List Nat) (m:Nat):Prop:=∀ listed,qAM ops listed->(∀ e∈es,listed e=true)->∀ i,m.testBit i=true->listed i=true
theorem qCd {ops:List Oper} {ms:List Nat} (hms:∀ (k m:Nat) (o:Oper),ms[k]? = some m->ops[k]? = some o->q5I ops (Yf o) m) (hlen:ms.length<=ops.length) {es:List Nat}:q5I ops es (qAK ms es):=by
 have key:∀ (es:List Nat) (m0:Nat) listed,qAM ops listed->(∀ e∈es,listed e=true)->(∀ i,m0.testBit i=true->listed i=true)->∀ i,(es.foldl (fun m k=>m ||| 2 ^ k ||| ms.getD k 0) m0).testBit i=true->listed i=true:=by
  intro es
  induction es with
  | nil=>intro m0 listed _ _ h0 i hi;exact h0 i hi
  | cons k es ih =>
   intro m0 listed hc he h0 i hi
   rw[List.foldl_cons]at hi
   refine ih _ listed hc (fun e h=>he e (List.mem_cons_of_mem _ h)) (fun i hi=>?_) i hi
   simp only[Nat.testBit_or,Bool.or_eq_true]at hi
   rcases hi with(hi|hi)|hi
   ·exact h0 i hi
   ·rw[Nat.testBit_two_pow]at hi
    simp at hi;subst hi;exact he _ List.mem_cons_self
   ·cases hk:ms[k]? with
    | none=>simp[List.getD,hk]at hi
    | some m =>
     simp only[List.getD,hk,Option.getD_some]at hi
     have hlt:k<ops.length:=Nat.lt_of_lt_of_le (List.getElem?_eq_some_iff.1 hk).1 hlen
     exact hms k m _ hk (List.getElem?_eq_getElem hlt) listed hc (fun e he'=>hc k _ (he k List.mem_cons_self) (List.getElem?_eq_getElem hlt) e he') i hi
 intro listed hc he i hi
 exact key es 0 listed hc he (by simp) i hi
theorem q90 {ops:List Oper}:∀ {os:List Oper} {ms:List Nat} {done:List Oper},ops=done++os->ms.length=done.length->(∀ (k m:Nat) (o:Oper),ms[k]? = some m->ops[k]? = some o->q5I ops (Yf o) m) ->
  (Zm os ms).length=ops.length/\∀ (k m:Nat) (o:Oper),(Zm os ms)[k]? = some m->ops[k]? = some o->q5I ops (Yf o) m
 | [],ms,done,h1,h2,h3=>⟨by simp[Zm,h1,h2],h3⟩
 | o::os,ms,done,h1,h2,h3=>by
  refine q90 (os:=os) (ms:=ms++[qAK ms (Yf o)]) (done:=done++[o]) (by simp[h1]) (by simp[h2]) ?_
  intro k m o' hm ho
  rw[List.getElem?_append]at hm
  split at hm
  ·exact h3 k m o' hm ho
  ·rename_i hk
   have hk':k=ms.length:=by
    have:=(List.getElem?_eq_some_iff.1 hm).1
    simp at this;omega
   subst hk'
   simp only[Nat.sub_self,List.getElem?_cons_zero,Option.some.injEq]at hm
   subst hm
   have:o'=o:=by
    rw[h1,h2]at ho
    simpa using ho.symm
   subst this
   exact qCd h3 (by simp[h1,h2])
theorem q5J:∀ {os:List Oper} {i:Nat},q4m i os=true->∀ (k:Nat) (o:Oper),os[k]? = some o->∀ e∈Yf o,e<i+k
 | [],i,_,k,o,hk=>by simp at hk
 | o::os,i,h,k,o',hk=>by
  simp only[q4m,Bool.and_eq_true,List.all_eq_true,decide_eq_true_eq]at h
  cases k with
  | zero=>simp only[List.getElem?_cons_zero,Option.some.injEq]at hk;subst hk;exact h.1
  | succ k =>
   intro e he
   have:=q5J h.2 k o' (by simpa using hk) e he
   omega
theorem q5K:∀ {l:List Pt},q4l l=true->l.Pairwise fun p q=>q.m.testBit p.i=true\/qAF p.ro q.ro=true
 | [],_=>.nil
 | p::l,h=>by
  simp only[q4l,Bool.and_eq_true,List.all_eq_true,Bool.or_eq_true]at h
  exact .cons h.1 (q5K h.2)
theorem qBZ:∀ {ros:List RO} {ms:List Nat} {i:Nat},ros.length=ms.length->(pts i ros ms).map (·.ro)=ros/\(pts i ros ms).map (·.i)=List.range' i ros.length /\
  ∀ p∈pts i ros ms,i<=p.i/\ms[p.i-i]? = some p.m/\ros[p.i-i]? = some p.ro
 | [],[],i,_=>by simp[pts]
 | [],_::_,i,h=>by simp at h
 | _::_,[],i,h=>by simp at h
 | ro::ros,m::ms,i,h=>by
  obtain⟨h1,h2,h3⟩:=qBZ (ros:=ros) (ms:=ms) (i:=i+1) (by simpa using h)
  refine⟨by simp[pts,h1],by simp[pts,h2,List.range'_succ],?_⟩
  intro p hp
  simp only[pts,List.mem_cons]at hp
  rcases hp with rfl|hp
  ·simp
  ·obtain⟨h4,h5,h6⟩:=h3 p hp
   have:p.i-i=(p.i-(i+1))+1:=by omega
   exact⟨by omega,by rw[this];simpa using h5,by rw[this];simpa using h6⟩
theorem q7D {P:Program} {N:Nat} {ops:List Oper}:∀ {ros:List RO} {os:List Oper},Oh P N ops ros os=true->ros.length=os.length/\∀ (k:Nat) (ro:RO) (o:Oper),ros[k]? = some ro->os[k]? = some o->q3B P N ops ro o=true
 | [],[],_=>by simp
 | [],_::_,h=>by simp[Oh]at h
 | _::_,[],h=>by simp[Oh]at h
 | ro::ros,o::os,h=>by
  simp only[Oh,Bool.and_eq_true]at h
  obtain⟨h1,h2⟩:=q7D h.2
  refine⟨by simp[h1],fun k ro' o' h3 h4=>?_⟩
  cases k with
  | zero=>simp at h3 h4;subst h3;subst h4;exact h.1
  | succ k=>exact h2 k ro' o' (by simpa using h3) (by simpa using h4)
theorem Dh.symm {a b:St} (h:Dh a b):Dh b a:=⟨fun k=>(h.1 k).symm,fun k=>(h.2 k).symm⟩
section
variable {P:Program} {Γ:Tables} {w0:World} {B:Nat} {κ:Be} {X0 X:Nat->Prop} {st st1:St} {N:Nat} {a:Act} {w:World} {Q:Exit->Act->World->Prop} {L:List Nat}
theorem G3.alike (h:G3 L Γ w0 B κ X0 N st a w) (hl:Dh st st1):G3 L Γ w0 B κ X0 N st1 a w:=by
 obtain⟨X,μ,h1,h2⟩:=h
 exact⟨X,μ,h1.alike hl,h2⟩
theorem qFe {ops:List Oper} (hN:N<=1000000) (hlt:∀ (k:Nat) (o:Oper),ops[k]? = some o->∀ e∈Yf o,e<k) :
  ∀ (fuel:Nat) (listed:Array Bool) (ps:List Pt) (st s:St) (a:Act) (w:World),G3 L Γ w0 B κ X0 N st a w->(ps.Pairwise fun p q=>p.i<q.i)->(∀ i,listed.getD i true=false↔∃ p∈ps,p.i=i)->listed.size=ops.length ->
   qAM ops (fun i=>listed.getD i false)->(ps.Pairwise fun p q=>q.m.testBit p.i=true\/qAF p.ro q.ro=true)->(∀ p∈ps,∃ o,ops[p.i]? = some o/\q3B P N ops p.ro o=true/\q5I ops (Yf o) p.m)->ps.length<=fuel ->
   Lx P Γ (ps.map (·.ro)) st s->(∀ a' w',G3 L Γ w0 B κ X0 N s a' w'->Q .normal a' w')->noD L (ps.map (·.ro))=true->wpAny P .any ops.toArray Q fuel listed a w:=by
 intro fuel
 induction fuel with
 | zero =>
  intro listed ps st s a w hI hsort hun hsz hcl hpr hps hlen hst hQ hL
  have:ps=[]:=List.eq_nil_of_length_eq_zero (by omega)
  subst this
  refine⟨List.eq_nil_iff_forall_not_mem.2 fun j hj=>?_,?_⟩
  ·have:=(hun j).1 (mem_ready.1 hj).1
   simp at this
  ·simp only[List.map_nil,Lx]at hst;subst hst
   exact hQ a w hI
 | succ fuel ih =>
  intro listed ps st s a w hI hsort hun hsz hcl hpr hps hlen hst hQ hL
  have hedge:∀ {o:Oper} {e:Edge},e∈o.after->Region.binds .any e=true->e.on∈Yf o:=by
   intro o e he hb
   exact List.mem_filterMap.2 ⟨e,by simpa using he,by rw[if_pos hb]⟩
  have hedge':∀ {o:Oper} {k:Nat},k∈Yf o->∃ e∈o.after,Region.binds .any e=true/\e.on=k:=by
   intro o k hk
   obtain⟨e,he,hb⟩:=List.mem_filterMap.1 hk
   split at hb
   ·exact⟨e,by simpa using he,by assumption,by simpa using hb⟩
   ·cases hb
  refine⟨fun hnil=>?_,fun i hi=>?_⟩
  ·cases ps with
   | nil=>simp only[List.map_nil,Lx]at hst;subst hst;exact hQ a w hI
   | cons p ps =>
    exfalso
    obtain⟨o,ho,_,_⟩:=hps p List.mem_cons_self
    have:p.i∈Region.ready .any ops.toArray listed:=by
     refine mem_ready.2 ⟨(hun p.i).2 ⟨p,List.mem_cons_self,rfl⟩,o,by simpa using ho,fun e he hb=>?_⟩
     have h1:=hlt p.i o ho e.on (hedge he hb)
     have h2:p.i<ops.length:=(List.getElem?_eq_some_iff.1 ho).1
     have h3:listed.getD e.on true=true:=by
      cases hq:listed.getD e.on true with
      | true=>rfl
      | false =>
       obtain⟨q,hq,hqi⟩:=(hun e.on).1 hq
       rcases List.mem_cons.1 hq with rfl|hq
       ·omega
       ·have:=(List.pairwise_cons.1 hsort).1 q hq
        omega
     have h4:e.on<listed.size:=by omega
     simpa[Array.getD,h4]using h3
    rw[hnil]at this;cases this
  ·obtain⟨hi0,o,ho,hall⟩:=mem_ready.1 hi
   have ho':ops[i]? = some o:=by simpa using ho
   obtain⟨p,hp,rfl⟩:=(hun i).1 hi0
   obtain⟨l1,l2,rfl⟩:=List.append_of_mem hp
   obtain⟨o2,ho2,hch,hmk⟩:=hps p hp
   rw[ho']at ho2;cases ho2
   have hdone:∀ i,p.m.testBit i=true->listed.getD i false=true:=hmk _ hcl (fun e he=>by
    obtain⟨e',he',hb,rfl⟩:=hedge' he
    exact hall e' he' hb)
   have hsort':=List.pairwise_append.1 hsort
   have hpr':=List.pairwise_append.1 hpr
   have hcm:∀ x∈l1.map (·.ro),qAF x p.ro=true:=by
    intro x hx
    obtain⟨q,hq,rfl⟩:=List.mem_map.1 hx
    rcases hpr'.2.2 q hq p List.mem_cons_self with hb|hb
    ·have h1:=hdone _ hb
     have h2:listed.getD q.i true=false:=(hun q.i).2 ⟨q,List.mem_append_left _ hq,rfl⟩
     have:q.i<listed.size:=by
      rcases Nat.lt_or_ge q.i listed.size with h' | h'
      ·exact h'
      ·rw[Array.getD_eq_getD_getElem?,Array.getElem?_eq_none h']at h2;simp at h2
     rw[Array.getD_eq_getD_getElem?,Array.getElem?_eq_getElem this]at h1 h2
     simp only[Option.getD_some]at h1 h2
     rw[h1]at h2;cases h2
    ·exact hb
   rw[List.map_append,List.map_cons]at hst
   obtain⟨s',⟨t,hs1,hs2⟩,hl⟩:=qDg hcm hst
   unfold wpOp
   simp only[ho]
   refine q1S hI hN hch hs1 (fun a' w' hI'=>?_) (qFU hL (List.mem_map_of_mem hp))
   have hne:∀ q∈l1++l2,q.i≠p.i:=by
    intro q hq
    rcases List.mem_append.1 hq with hq|hq
    ·have:=hsort'.2.2 q hq p List.mem_cons_self;omega
    ·have:=(List.pairwise_cons.1 hsort'.2.1).1 q hq;omega
   have hsub:(l1++l2).Sublist (l1++p::l2):=List.Sublist.append_left (List.sublist_cons_self _ _) _
   have hpi:p.i<listed.size:=by rw[hsz];exact(List.getElem?_eq_some_iff.1 ho').1
   refine ih (listed.setIfInBounds p.i true) (l1++l2) t s' a' w' hI' (hsort.sublist hsub) ?_ (by simpa using hsz) ?_ (hpr.sublist hsub) (fun q hq=>hps q (hsub.subset hq)) (by simp at hlen ⊢;omega) (by rw[List.map_append];exact hs2) (fun a' w' h=>hQ a' w' (h.alike hl.symm)) (List.all_eq_true.2 fun x hx=>List.all_eq_true.1 hL x (List.map_subset _ hsub.subset hx))
   ·intro j
    by_cases hj:p.i=j
    ·subst hj
     refine⟨fun h=>?_,fun⟨q,hq,he⟩=>absurd he (hne q hq)⟩
     simp[Array.getD,hpi]at h
    ·rw[getD_set_ne true hj,hun j]
     constructor
     ·rintro⟨q,hq,rfl⟩
      refine⟨q,?_,rfl⟩
      rcases List.mem_append.1 hq with hq|hq
      ·exact List.mem_append_left _ hq
      ·rcases List.mem_cons.1 hq with rfl|hq
       ·exact absurd rfl hj
       ·exact List.mem_append_right _ hq
     ·rintro⟨q,hq,rfl⟩
      exact⟨q,hsub.subset hq,rfl⟩
   ·intro k ok hk hok e he
    by_cases hkp:p.i=k
    ·subst hkp
     rw[ho']at hok;cases hok
     obtain⟨e',he',hb,rfl⟩:=hedge' he
     exact getD_set_true (hall e' he' hb)
    ·have hk2:listed.getD k false=true:=by
      have:(listed.setIfInBounds p.i true).getD k false=true:=hk
      rwa [getD_set_ne false hkp]at this
     exact getD_set_true (hcl k ok hk2 hok e he)
theorem q5L {ops:List Oper} {ros:List RO} {s:St} (hN:N<=1000000) (hI:G3 L Γ w0 B κ X0 N st a w) (hc:Oh P N ops ros ops=true) (hd:qAL ros ops=true) (hs:Lx P Γ ros st s)
  (hQ:∀ a' w',G3 L Γ w0 B κ X0 N s a' w'->Q .normal a' w') (hL:noD L ros=true):wpAny P .any ops.toArray Q ops.toArray.size (Array.replicate ops.toArray.size false) a w:=by
 simp only[qAL,Bool.and_eq_true]at hd
 obtain⟨hlen,hch⟩:=q7D hc
 obtain⟨hml,hmk⟩:=q90 (ops:=ops) (os:=ops) (ms:=[]) (done:=[]) rfl rfl (by simp)
 obtain⟨h1,h2,h3⟩:=qBZ (ros:=ros) (ms:=Zm ops []) (i:=0) (by rw[hml,hlen])
 have hmem:∀ p∈pts 0 ros (Zm ops []),p.i<ops.length:=by
  intro p hp
  have:=(List.getElem?_eq_some_iff.1 (h3 p hp).2.2).1
  omega
 refine qFe hN (fun k o ho e he=>by have:=q5J hd.1 k o ho e he;omega) _ _ (pts 0 ros (Zm ops [])) st s a w hI ?_ ?_ (by simp) ?_ (q5K hd.2) ?_ ?_ (by rw[h1];exact hs) hQ (by rw[h1];exact hL)
 ·have:((pts 0 ros (Zm ops [])).map (·.i)).Pairwise (·<·):=by rw[h2];exact List.pairwise_lt_range'
  exact List.pairwise_map.1 this
 ·intro i
  constructor
  ·intro h
   have hi:i<ops.length:=by
    rcases Nat.lt_or_ge i ops.length with h' | h'
    ·exact h'
    ·simp[Array.getD,Nat.not_lt.2 h']at h
   have:i∈(pts 0 ros (Zm ops [])).map (·.i):=by rw[h2,List.mem_range'_1];omega
   obtain⟨p,hp,he⟩:=List.mem_map.1 this
   exact⟨p,hp,he⟩
  ·rintro⟨p,hp,rfl⟩
   simp[Array.getD,hmem p hp]
 ·intro k o hk
  exfalso
  simp only[Array.getD]at hk
  split at hk<;>simp at hk
 ·intro p hp
  obtain⟨_,h5,h6⟩:=h3 p hp
  have hlt:=hmem p hp
  exact⟨ops[p.i],List.getElem?_eq_getElem hlt,hch _ _ _ h6 (List.getElem?_eq_getElem hlt),hmk _ _ _ h5 (List.getElem?_eq_getElem hlt)⟩
 ·have:(pts 0 ros (Zm ops [])).length=ros.length:=by
   have:=congrArg List.length h1
   simpa using this
  simp[this,hlen]
end
end Go.Lg
namespace Go.Lg
open Go
def Aj.closed:Aj->Bool
 | .bx cs=>cs.all fun | .t _=>true|_=>false
 | .rs _ _ es=>es.all fun e=>e.all fun | .t _=>true|_=>false
 | .mr _=>false
 | _=>true
def frz0 (id:Nat) (r:Aj):AV->AV
 | .ls i off len cap=>if i=id then(match Aq [(id,r)] 4 (.ls id off len cap) with|some t=>.t t|none=>.dead)else .ls i off len cap
 | .lp i a k=>if i=id then(match Aq [(id,r)] 4 (.lp id a k) with|some t=>.t t|none=>.dead)else .lp i a k
 | .lm i=>if i=id then(match Aq [(id,r)] 4 (.lm id) with|some t=>.t t|none=>.dead)else .lm i
 | .lb i m=>if i=id then(match Aq [(id,r)] 4 (.lb id m) with|some t=>.t t|none=>.dead)else .lb i m
 | .li i=>if i=id then .dead else .li i
 | .fn f []=>.fn f []
 | .fn _ (_::_)=>.dead
 | a=>a
def frz1 (id:Nat) (r:Aj):AV->AV
 | .fn f cs=>if cs.all Bo then .fn f (cs.map (frz0 id r))else .dead
 | a=>frz0 id r a
@[simp] def frz2 (id:Nat) (r:Aj):AV->AV
 | .ag cs=>.ag (cs.map (frz1 id r))
 | a=>frz1 id r a
def Ce (id:Nat) (r:Aj):AV->AV
 | .ag cs=>.ag (cs.map (frz1 id r))
 | .tu cs=>.tu (cs.map (frz2 id r))
 | a=>frz1 id r a
def Hl (id:Nat) (r:Aj):Aj->Aj
 | .bx cs=>.bx (cs.map (Ce id r))
 | .rs ty s es=>.rs ty s (es.map fun e=>e.map (Ce id r))
 | .mr es=>.mr (es.map fun e=>(e.1,Ce id r e.2))
 | q=>q
def St.freeze (id:Nat) (st:St):St:=match A2 st.hp id with
 | some r=>if r.closed then⟨st.env.map fun p=>(p.1,Ce id r p.2),(del id st.hp).map fun p=>(p.1,Hl id r p.2)⟩else st
 | none=>st
section
variable {P:Program} {Γ:Tables} {w0:World} {B:Nat} {κ:Be} {X:Nat->Prop} {μ:Be} {st:St} {tm:Array Value} {w:World} {id:Nat} {r:Aj}
theorem B0.lone (h:B0 w0 B κ X μ st tm w) (hl:A2 st.hp id=some r) (hc:r.closed=true):B0 w0 B κ X μ ⟨[],[(id,r)]⟩ tm w:=by
 have hsh:∀ i,St.sh ⟨[],[(id,r)]⟩ i≠none->i=id/\st.sh i≠none:=by
  intro i hi
  by_cases e:i=id
  ·subst e;exact⟨rfl,by simp[By hl]⟩
  ·simp[St.sh,A2,Ne.symm e]at hi
 refine⟨fun t a ht=>by simp[A2]at ht,?_,fun i j g n n' hi hj=>h.inj i j g n n' (hsh i hi).2 (hsh j hj).2,fun i g n hi=>h.loc i g n (hsh i hi).2,fun i hk hi=>h.kap i hk (hsh i hi).2,h.kbig,h.xlt,h.os,h.tape,h.output,h.size,h.fr⟩
 intro i q hq
 simp only[A2]at hq
 split at hq
 ·rename_i e;subst e
  simp only[Option.some.injEq]at hq;subst hq
  have:=h.reg id _ hl
  cases r with
  | sl ty s es=>exact this
  | mp es=>exact this
  | mr es=>cases hc
  | it s pos=>exact this
  | rs ty s es =>
   refine⟨this.1,this.2.imp (fun h=>h) fun⟨g,arr,hm,hg,hle,hr⟩=>⟨g,arr,hm,hg,hle,fun i k e a x h1 h2 h3=>?_⟩⟩
   have h4:=List.all_eq_true.1 (List.all_eq_true.1 hc e (List.mem_of_getElem? h1)) a (List.mem_of_getElem? h2)
   have h5:=hr i k e a x h1 h2 h3
   cases a<;>simp at h4
   exact .t _ _ h5.t_inv
  | bx cs =>
   obtain⟨h1,g,arr,ty,hm,hg,hle,hr⟩:=this
   refine⟨h1,g,arr,ty,hm,hg,hle,fun k a x ha hx=>?_⟩
   have:=List.all_eq_true.1 hc a (List.mem_of_getElem? ha)
   have h2:=hr k a x ha hx
   cases a<;>simp at this
   exact .t _ _ h2.t_inv
 ·cases hq
variable {sh':Nat->Option Sh}
theorem AR.frz0 (h:B0 w0 B κ X μ st tm w) (hl:A2 st.hp id=some r) (hc:r.closed=true) (hsh:∀ i q,i≠id->st.sh i=some q->sh' i=some q) {a:AV} {x:Value} (ha:AR w X μ st.sh a x) (hna:Bo a=true) :
  AR w (fun b=>X b\/∃ n,μ id=some (b,n)) μ sh' (frz0 id r a) x:=by
 have hX:∀ b,X b->X b\/∃ n,μ id=some (b,n):=fun b hb=>.inl hb
 have hS:Same X w w:=fun _ _=>rfl
 have hlone:=h.lone hl hc
 have hshid:St.sh ⟨[],[(id,r)]⟩ id=st.sh id:=by rw[By hl];simp[St.sh,A2]
 have conv:∀ {a:AV} {x:Value} {t:T},AR w X μ (St.sh ⟨[],[(id,r)]⟩) a x->Aq [(id,r)] 4 a=some t->TR w (fun b=>X b\/∃ n,μ id=some (b,n)) t x:=by
  intro a x t ha hr
  refine(q5A hlone 4 ha hr).mono (fun _ _=>rfl) (fun b hb=>?_)
  rcases hb with hb|⟨i,n,hi,hm⟩
  ·exact .inl hb
  ·have:i=id:=by
    by_cases e:i=id
    ·exact e
    ·simp[St.sh,A2,Ne.symm e]at hi
   subst this;exact .inr ⟨n,hm⟩
 cases ha with
 | t y v hy=>exact .t _ _ (hy.mono hS hX)
 | lsnil i s n hs hm oa cap hq =>
  simp only[Lg.frz0];split
  ·rename_i e;subst e
   split
   ·rename_i t ht;exact .t _ _ (conv (.lsnil i s n (hshid.trans hs) hm oa cap hq) ht)
   ·exact .dead _ rfl
  ·rename_i hne;exact .lsnil i s n (hsh _ _ hne hs) hm oa cap hq
 | ls i off len s n g m c cap hs hm hle hlc hcm hfit hfull hq ad had =>
  simp only[Lg.frz0];split
  ·rename_i e;subst e
   split
   ·rename_i t ht;exact .t _ _ (conv (.ls i off len s n g m c cap (hshid.trans hs) hm hle hlc hcm hfit hfull hq ad had) ht)
   ·exact .dead _ rfl
  ·rename_i hne;exact .ls i off len s n g m c cap (hsh _ _ hne hs) hm hle hlc hcm hfit hfull hq ad had
 | lpsl i j k s n g m hs hm =>
  simp only[Lg.frz0];split
  ·rename_i e;subst e
   split
   ·rename_i t ht;exact .t _ _ (conv (.lpsl i j k s n g m (hshid.trans hs) hm) ht)
   ·exact .dead _ rfl
  ·rename_i hne;exact .lpsl i j k s n g m (hsh _ _ hne hs) hm
 | lpbx i k g m hs hm =>
  simp only[Lg.frz0];split
  ·rename_i e;subst e
   split
   ·rename_i t ht;exact .t _ _ (conv (.lpbx i k g m (hshid.trans hs) hm) ht)
   ·exact .dead _ rfl
  ·rename_i hne;exact .lpbx i k g m (hsh _ _ hne hs) hm
 | lm i g m hs hm =>
  simp only[Lg.frz0];split
  ·rename_i e;subst e
   split
   ·rename_i t ht;exact .t _ _ (conv (.lm i g m (hshid.trans hs) hm) ht)
   ·exact .dead _ rfl
  ·rename_i hne;exact .lm i g m (hsh _ _ hne hs) hm
 | lb i g m hs hm hle =>
  simp only[Lg.frz0];split
  ·rename_i e;subst e
   split
   ·rename_i t ht;exact .t _ _ (conv (.lb i g m (hshid.trans hs) hm hle) ht)
   ·exact .dead _ rfl
  ·rename_i hne;exact .lb i g m (hsh _ _ hne hs) hm hle
 | li i g m hs hm =>
  simp only[Lg.frz0];split
  ·exact .dead _ rfl
  ·rename_i hne;exact .li i g m (hsh _ _ hne hs) hm
 | fn f cs xs hlen hrel =>
  cases cs with
  | nil=>exact .fn f [] xs hlen (fun k a x h=>by simp at h)
  | cons c cs=>exact .dead _ (q0R _ _)
 | dead v h=>exact .dead _ h
 | un=>exact .un
 | ag=>simp[Bo]at hna
 | tu=>simp[Bo]at hna
theorem AR.frz1 (h:B0 w0 B κ X μ st tm w) (hl:A2 st.hp id=some r) (hc:r.closed=true) (hsh:∀ i q,i≠id->st.sh i=some q->sh' i=some q) {a:AV} {x:Value} (ha:AR w X μ st.sh a x) (hna:Bo a=true) :
  AR w (fun b=>X b\/∃ n,μ id=some (b,n)) μ sh' (frz1 id r a) x:=by
 by_cases hf:∃ f cs,a=.fn f cs
 ·obtain⟨f,cs,rfl⟩:=hf
  simp only[Lg.frz1]
  split
  ·rename_i hall
   cases ha with
   | fn f cs xs hlen hrel =>
    refine .fn f _ xs (by simpa using hlen) fun k a x ha hx=>?_
    simp only[List.getElem?_map,Option.map_eq_some_iff]at ha
    obtain⟨b,hb,rfl⟩:=ha
    exact(hrel k b x hb hx).frz0 h hl hc hsh (List.all_eq_true.1 hall b (List.mem_of_getElem? hb))
  ·cases ha;exact .dead _ (q0R _ _)
 ·have e:Lg.frz1 id r a=Lg.frz0 id r a:=by cases a<;>first|rfl|exact absurd ⟨_,_,rfl⟩ hf
  rw[e];exact ha.frz0 h hl hc hsh hna
theorem Zn {a:AV} (h:a.one=true):(frz0 id r a).one=true:=by
 have key:∀ a:AV,a.one=true->(∀ x,a ≠ .t x)->(match Aq [(id,r)] 4 a with|some t=>AV.t t|none=>.dead).one=true:=by
  intro a h1 _
  split
  ·rename_i t ht;exact q72 h1 ht
  ·rfl
 cases a with
 | fn f cs=>cases cs<;>rfl
 | ag cs=>simp[AV.one]at h
 | tu cs=>simp[AV.one]at h
 | un=>simp[AV.one]at h
 | t x=>exact h
 | dead=>rfl
 | ls i off len cap=>simp only[frz0];split;exact key (.ls id off len cap) rfl (by simp);rfl
 | lp i j k=>simp only[frz0];split;exact key (.lp id j k) rfl (by simp);rfl
 | lm i=>simp only[frz0];split;exact key (.lm id) rfl (by simp);rfl
 | lb i m=>simp only[frz0];split;exact key (.lb id m) rfl (by simp);rfl
 | li i=>simp only[frz0];split<;>rfl
theorem q91 {a:AV} (h:a.one=true):(frz1 id r a).one=true:=by
 cases a with
 | fn f cs=>simp only[frz1];split<;>rfl
 | ag cs=>simp[AV.one]at h
 | tu cs=>simp[AV.one]at h
 | un=>simp[AV.one]at h
 | t x=>exact h
 | dead=>rfl
 | ls i off len cap=>exact Zn (a:=.ls i off len cap) rfl
 | lp i j k=>exact Zn (a:=.lp i j k) rfl
 | lm i=>exact Zn (a:=.lm i) rfl
 | lb i m=>exact Zn (a:=.lb i m) rfl
 | li i=>exact Zn (id:=id) (r:=r) (a:=.li i) rfl
theorem q5M {a:AV} (h:a.one=true):(Ce id r a).one=true:=by
 have e:Ce id r a=frz1 id r a:=by cases a<;>first|rfl|simp[AV.one]at h
 rw[e];exact q91 h
theorem qAN {a:AV} (h:Bo a=true):Bo (frz0 id r a)=true:=by
 have key:∀ b:AV,Bo (match Aq [(id,r)] 4 b with|some t=>AV.t t|none=>.dead)=true:=by
  intro b;split<;>rfl
 cases a with
 | ag=>simp[Bo]at h
 | tu=>simp[Bo]at h
 | fn f cs=>cases cs<;>rfl
 | t|dead|un=>rfl
 | li i=>simp only[frz0];split<;>rfl
 | _=>simp only[frz0];split<;>first|exact key _|rfl
theorem qAO {a:AV} (h:Bo a=true):Bo (frz1 id r a)=true:=by
 by_cases hf:∃ f cs,a=.fn f cs
 ·obtain⟨f,cs,rfl⟩:=hf
  simp only[Lg.frz1];split<;>rfl
 ·have e:Lg.frz1 id r a=Lg.frz0 id r a:=by cases a<;>first|rfl|exact absurd ⟨_,_,rfl⟩ hf
  rw[e];exact qAN h
theorem AR.frz2 (h:B0 w0 B κ X μ st tm w) (hl:A2 st.hp id=some r) (hc:r.closed=true) (hsh:∀ i q,i≠id->st.sh i=some q->sh' i=some q) {a:AV} {x:Value} (ha:AR w X μ st.sh a x) (ht:I9 a=true) :
  AR w (fun b=>X b\/∃ n,μ id=some (b,n)) μ sh' (Lg.frz2 id r a) x:=by
 by_cases hg:Bo a=true
 ·have e:Lg.frz2 id r a=Lg.frz1 id r a:=by cases a<;>first|rfl|simp[Bo]at hg
  rw[e];exact ha.frz1 h hl hc hsh hg
 ·cases a with
  | ag cs =>
   obtain⟨xs,rfl,h1,hr⟩:=ha.ag_inv
   refine AR.mk_ag (List.all_eq_true.2 fun b hb=>?_) ⟨by simpa using hr.1,fun k b y hb hy=>?_⟩
   ·obtain⟨c,hc,rfl⟩:=List.mem_map.1 hb
    exact q91 (List.all_eq_true.1 h1 c hc)
   ·simp only[List.getElem?_map,Option.map_eq_some_iff]at hb
    obtain⟨c,hc',rfl⟩:=hb
    exact(hr.2 k c y hc' hy).frz1 h hl hc hsh (Vw (K5 h1 hc'))
  | tu cs=>cases ht
  | _=>exact absurd rfl hg
theorem qAP {a:AV} (h:I9 a=true):I9 (Lg.frz2 id r a)=true:=by
 by_cases ha:Bo a=true
 ·have e:Lg.frz2 id r a=Lg.frz1 id r a:=by cases a<;>first|rfl|simp[Bo]at ha
  rw[e];exact Zc (qAO ha)
 ·cases a<;>first|rfl|exact absurd rfl ha|cases h
theorem AR.frz (h:B0 w0 B κ X μ st tm w) (hl:A2 st.hp id=some r) (hc:r.closed=true) (hsh:∀ i q,i≠id->st.sh i=some q->sh' i=some q) {a:AV} {x:Value} (ha:AR w X μ st.sh a x) :
  AR w (fun b=>X b\/∃ n,μ id=some (b,n)) μ sh' (Ce id r a) x:=by
 by_cases hg:I9 a=true
 ·have e:Ce id r a=Lg.frz2 id r a:=by cases a<;>first|rfl|simp[I9]at hg
  rw[e];exact ha.frz2 h hl hc hsh hg
 ·cases a with
  | tu cs =>
   obtain⟨xs,rfl,h1,hr⟩:=ha.tu_inv
   refine AR.mk_tu (fun k b hb=>?_) ⟨by simpa using hr.1,fun k b y hb hy=>?_⟩
   ·simp only[List.getElem?_map,Option.map_eq_some_iff]at hb
    obtain⟨c,hc',rfl⟩:=hb
    exact qAP (h1 k c hc')
   ·simp only[List.getElem?_map,Option.map_eq_some_iff]at hb
    obtain⟨c,hc',rfl⟩:=hb
    exact(hr.2 k c y hc' hy).frz2 h hl hc hsh (h1 k c hc')
  | _=>exact absurd rfl hg
theorem qCe (q:Aj):(Hl id r q).sh=q.sh:=by cases q<;>simp[Hl,Aj.sh]
theorem B0.freeze (h:B0 w0 B κ X μ st tm w) (hl:A2 st.hp id=some r) (hc:r.closed=true) :
  B0 w0 B κ (fun b=>X b\/∃ n,μ id=some (b,n)) μ ⟨st.env.map fun p=>(p.1,Ce id r p.2),(del id st.hp).map fun p=>(p.1,Hl id r p.2)⟩ tm w:=by
 have hlook:∀ t,A2 ((del id st.hp).map fun p=>(p.1,Hl id r p.2)) t=if t=id then none else(A2 st.hp t).map (Hl id r):=by
  intro t
  rw[Cc (Hl id r),q24]
  split<;>rfl
 have hs:∀ t,St.sh ⟨st.env.map fun p=>(p.1,Ce id r p.2),(del id st.hp).map fun p=>(p.1,Hl id r p.2)⟩ t=if t=id then none else st.sh t:=by
  intro t
  simp only[St.sh,hlook]
  split
  ·rfl
  ·cases A2 st.hp t<;>simp[qCe]
 have hsh:∀ i q,i≠id->st.sh i=some q->St.sh ⟨st.env.map fun p=>(p.1,Ce id r p.2),(del id st.hp).map fun p=>(p.1,Hl id r p.2)⟩ i=some q:=fun i q hi hq=>by rw[hs,if_neg hi];exact hq
 have hback:∀ i,St.sh ⟨st.env.map fun p=>(p.1,Ce id r p.2),(del id st.hp).map fun p=>(p.1,Hl id r p.2)⟩ i≠none->i≠id/\st.sh i≠none:=fun i hi=>by
  rw[hs]at hi
  split at hi
  ·exact absurd rfl hi
  ·rename_i hne;exact⟨hne,hi⟩
 have hid:st.sh id≠none:=by simp[By hl]
 refine⟨?_,?_,fun a b g n n' ha hb=>h.inj a b g n n' (hback a ha).2 (hback b hb).2,?_,fun a hk ha=>h.kap a hk (hback a ha).2,h.kbig,?_,h.os,h.tape,h.output,h.size,h.fr⟩
 ·intro t a ht
  have h1:A2 (st.env.map fun p=>(p.1,Ce id r p.2)) t=(A2 st.env t).map (Ce id r):=Cc _ _ _
  simp only[h1,Option.map_eq_some_iff]at ht
  obtain⟨b,hb,rfl⟩:=ht
  exact(h.env t b hb).frz h hl hc hsh
 ·intro i q hq
  simp only[hlook]at hq
  split at hq
  ·cases hq
  ·rename_i hne
   rw[Option.map_eq_some_iff]at hq
   obtain⟨q,hq,rfl⟩:=hq
   have:=h.reg i q hq
   cases q with
   | sl ty s es =>
    refine⟨this.1,this.2.imp (fun h=>h) fun⟨g,arr,hm,hg,hle,hr⟩=>⟨g,arr,hm,hg,hle,fun i k e t x h1 h2 h3=>(hr i k e t x h1 h2 h3).mono (fun _ _=>rfl) (fun _ hb=>.inl hb)⟩⟩
   | it s pos=>exact this
   | rs ty s es=>exact Bv.rs_map (fun a=>Ce id r a) (fun _ q=>q5M q) (fun _ _ q=>q.frz h hl hc hsh) rfl (fun _ _ _=>rfl) this
   | mr es=>exact Bv.mr_map (fun a=>Ce id r a) (fun _ _ q=>q.frz h hl hc hsh) rfl (fun _ _ _=>rfl) this
   | mp es =>
    obtain⟨g,n,clock,ms,hm,hg,hle,hr⟩:=this
    exact⟨g,n,clock,ms,hm,hg,hle,fun i e m h1 h2=>⟨(hr i e m h1 h2).1,(hr i e m h1 h2).2.mono (fun _ _=>rfl) (fun _ hb=>.inl hb)⟩⟩
   | bx cs =>
    obtain⟨h1,g,arr,ty,hm,hg,hle,hr⟩:=this
    refine⟨fun k a ha=>?_,g,arr,ty,hm,hg,by simpa using hle,fun k a x ha hx=>?_⟩
    ·simp only[List.getElem?_map,Option.map_eq_some_iff]at ha
     obtain⟨b,hb,rfl⟩:=ha
     exact q5M (h1 k b hb)
    ·simp only[List.getElem?_map,Option.map_eq_some_iff]at ha
     obtain⟨b,hb,rfl⟩:=ha
     exact(hr k b x hb hx).frz h hl hc hsh
 ·intro i g n hi hm
  obtain⟨h1,h2⟩:=h.loc i g n (hback i hi).2 hm
  refine⟨fun hx=>?_,h2⟩
  rcases hx with hx|⟨n',hx⟩
  ·exact h1 hx
  ·exact(hback i hi).1 (h.inj i id g n n' (hback i hi).2 hid hm hx)
 ·intro b hb
  rcases hb with hb|⟨n,hb⟩
  ·exact h.xlt b hb
  ·exact(h.loc id b n hid hb).2.1
end
end Go.Lg
namespace Go.Lg
open Go
inductive Gh where
 | keep (ks rs:List Nat)
 | frz (id:Nat)
 | nl (slot id ty s:Nat)
 | nlb (rid k id ty s:Nat)
 | nlbS (rid slot id ty s:Nat)
 | ren (a b:Nat)
 | renS (a base slot:Nat)
 | keepB (ks rs:List Nat) (base N:Nat)
 | frzs (base n:Nat)
 | keepE (ks:List Nat)
 | toR (id:Nat)
 | drop (ids:List Nat)
 | toM (id:Nat)
 | renB (a b n:Nat)
def Ej:List Nat->St->St
 | [],st=>st
 | id::ids,st=>Ej ids (st.kill id)
def Ed (a b i:Nat):Option Nat:=if i=a then some b else some i
def Nl (a b:Nat):List (Nat×Aj)->List (Nat×Aj)
 | []=>[]
 | (k,r)::l=>(if k=a then b else k,Bj (Ed a b) r)::Nl a b l
def qAQ (base:Nat):Nat->St->St
 | 0,st=>st
 | n+1,st=>qAQ base n (st.freeze (base+n))
def Fp (a b:Nat) (st:St):St:=if(A2 st.hp b).isNone&&(A2 st.hp a).isSome&&decide (a<1000000)&&decide (b<1000000) then⟨st.env.map fun p=>(p.1,Ag (Ed a b) p.2),Nl a b st.hp⟩else st
def qHg (a b:Nat):Nat->St->St
 | 0,st=>st
 | n+1,st=>qHg a b n (Fp (a+n) (b+n) st)
def q4n (ks rs:List Nat) (base N:Nat) (st:St):St :=
 let s1:=Ej ((st.hp.map (·.1)).filter fun id=>!rs.contains id && !(decide (base<=id)&&decide (id<base+N))) ⟨Lg.keep ks st.env,st.hp⟩
 ⟨s1.env,Lg.keep rs s1.hp++Lg.keep (List.range' base N) s1.hp⟩
def qBa (rid k id ty s:Nat) (st:St):St:=match A2 st.hp rid with
  | some (.bx cs)=>match cs[k]? with
   | some (.t (.sl [] (some 0) _))=>if(A2 st.hp id).isNone&&decide (id<1000000) then⟨st.env,(id,.sl ty s [])::Bm rid (.bx (cs.set k (.ls id 0 0 none))) st.hp⟩else st
   | _=>st
  | _=>st
def Gh.run:Gh->St->St
 | .nlbS rid slot id ty s,st=>match A2 st.env slot with
  | some (.t (.v (.int _ n)))=>qBa rid n.toNat id ty s st
  | _=>st
 | .renS a base slot,st=>match A2 st.env slot with
  | some (.t (.v (.int _ n)))=>Fp a (base+n.toNat) st
  | _=>st
 | .keepB ks rs base N,st=>q4n ks rs base N st
 | .keepE ks,st=>⟨Lg.keep ks st.env,st.hp⟩
 | .drop ids,st=>Ej ids st
 | .toR id,st=>match A2 st.hp id with
  | some (.sl ty s es)=>⟨st.env,Bm id (.rs ty s (es.map fun e=>e.map .t)) st.hp⟩
  | _=>st
 | .toM id,st=>match A2 st.hp id with
  | some (.mp [])=>⟨st.env,Bm id (.mr []) st.hp⟩
  | _=>st
 | .ren a b,st=>Fp a b st
 | .renB a b n,st=>qHg a b n st
 | .frzs base n,st=>qAQ base n st
 | .keep ks rs,st =>
  let s1:=Ej ((st.hp.map (·.1)).filter fun id=>!rs.contains id) ⟨Lg.keep ks st.env,st.hp⟩
  ⟨s1.env,Lg.keep rs s1.hp⟩
 | .frz id,st=>st.freeze id
 | .nl slot id ty s,st=>match A2 st.env slot with
  | some (.t (.sl [] (some 0) _))=>if(A2 st.hp id).isNone&&decide (id<1000000) then⟨(slot,.ls id 0 0 none)::st.env,(id,.sl ty s [])::st.hp⟩else st
  | _=>st
 | .nlb rid k id ty s,st=>match A2 st.hp rid with
  | some (.bx cs)=>match cs[k]? with
   | some (.t (.sl [] (some 0) _))=>if(A2 st.hp id).isNone&&decide (id<1000000) then⟨st.env,(id,.sl ty s [])::Bm rid (.bx (cs.set k (.ls id 0 0 none))) st.hp⟩else st
   | _=>st
  | _=>st
inductive IC where
 | skip
 | reg (ros:List RO) (gs:List Gh)
 | seq (a b:IC)
 | cond (c:Operand) (a b:IC)
 | block (id:Nat) (a:IC)
 | loop (a:IC)
 | exit (id:Nat)
 | ret
 | scope (a:IC)
 | gh (a:IC) (gs:List Gh)
 | ghW (a:IC)
 | pre (gs:List Gh) (a:IC)
 | dead
inductive AX where
 | normal
 | exit (id:Nat)
 | ret
def Cj (P:Program) (N:Nat):IC->Code->Bool
 | .skip,.skip=>true
 | .skip,.label _=>true
 | .reg ros _,.region _ ops dr=>Oh P N ops.toList ros ops.toList&&(!dr||qAL ros ops.toList)
 | .seq a b,.seq c d=>Cj P N a c&&Cj P N b d
 | .cond x a b,.cond y c d=>Av x y&&A9 x&&Cj P N a c&&Cj P N b d
 | .block i a,.block j c=>i==j&&Cj P N a c
 | .loop a,.loop c=>Cj P N a c
 | .exit i,.exit j=>i==j
 | .ret,.ret=>true
 | .scope a,.scope c=>Cj P N a c
 | .gh a _,c=>Cj P N a c
 | .ghW a,c=>Cj P N a c
 | .pre _ a,c=>Cj P N a c
 | .dead,_=>true
 | _,_=>false
def B1 (n:St->Prop) (Q:AX->St->Prop):AX->St->Prop
 | .normal,s=>n s
 | e,s=>Q e s
def F2 (id:Nat) (Q:AX->St->Prop):AX->St->Prop
 | .exit i,s=>if i=id then Q .normal s else Q (.exit i) s
 | e,s=>Q e s
def q92 (F:(AX->St->Prop)->St->Prop) (Q:AX->St->Prop):Nat->St->Prop
 | 0,_=>False
 | n+1,s=>F (B1 (q92 F Q n) Q) s
def Imp (Γ:Tables) (s s':St):Prop:=∀ (L:List Nat) (w0:World) (B:Nat) (κ:Be) (X0:Nat->Prop) (N:Nat) (a:Act) (w:World),G3 L Γ w0 B κ X0 N s a w->G3 L Γ w0 B κ X0 N s' a w
def W6 (P:Program) (Γ:Tables):IC->(AX->St->Prop)->St->Prop
 | .skip,Q,s=>Q .normal s
 | .reg ros gs,Q,s=>∃ s1,Lx P Γ ros s s1/\Q .normal (gs.foldl (fun s g=>g.run s) s1)
 | .seq a b,Q,s=>W6 P Γ a (B1 (W6 P Γ b Q) Q) s
 | .cond c a b,Q,s=>∃ t,ev Γ s.env c=some (.t (.v (.bool t)))/\(t=true->W6 P Γ a Q s)/\(t=false->W6 P Γ b Q s)
 | .block id a,Q,s=>W6 P Γ a (F2 id Q) s
 | .loop a,Q,s=>∃ n,q92 (W6 P Γ a) Q n s
 | .exit i,Q,s=>Q (.exit i) s
 | .ret,Q,s=>Q .ret s
 | .scope a,Q,s=>W6 P Γ a Q s
 | .gh a gs,Q,s=>W6 P Γ a (B1 (fun s=>Q .normal (gs.foldl (fun s g=>g.run s) s)) Q) s
 | .ghW a,Q,s=>W6 P Γ a (B1 (fun s=>∃ s',Imp Γ s s'/\Q .normal s') Q) s
 | .pre gs a,Q,s=>W6 P Γ a Q (gs.foldl (fun s g=>g.run s) s)
 | .dead,_,_=>False
def AX.to:AX->Exit
 | .normal=>.normal
 | .exit i=>.exit i
 | .ret=>.ret
section
variable {P:Program} {Γ:Tables} {w0:World} {B:Nat} {κ:Be} {X0 X:Nat->Prop} {st st1:St} {N:Nat} {a:Act} {w:World} {L:List Nat}
theorem Ai:∀ {c:IC} {Q Q':AX->St->Prop} {s:St},W6 P Γ c Q s->(∀ e s,Q e s->Q' e s)->W6 P Γ c Q' s
 | .skip,_,_,_,h,hq=>hq _ _ h
 | .reg _ _,_,_,_,⟨s1,h1,h2⟩,hq=>⟨s1,h1,hq _ _ h2⟩
 | .seq a b,Q,Q',s,h,hq=>Ai (c:=a) h fun e s h=>by
  cases e with
  | normal=>exact Ai (c:=b) h hq
  | exit i=>exact hq _ _ h
  | ret=>exact hq _ _ h
 | .cond _ a b,_,_,_,⟨t,h1,h2,h3⟩,hq=>⟨t,h1,fun e=>Ai (c:=a) (h2 e) hq,fun e=>Ai (c:=b) (h3 e) hq⟩
 | .block id a,Q,Q',s,h,hq=>Ai (c:=a) h fun e s h=>by
  cases e with
  | normal=>exact hq _ _ h
  | exit i=>simp only[F2]at h ⊢;split<;>rename_i hi<;>simp only[hi,if_true,if_false]at h<;>exact hq _ _ h
  | ret=>exact hq _ _ h
 | .loop a,Q,Q',s,⟨n,h⟩,hq=>by
  refine⟨n,?_⟩
  induction n generalizing s with
  | zero=>exact h
  | succ n ih =>
   refine Ai (c:=a) h fun e s h=>?_
   cases e with
   | normal=>exact ih _ h
   | exit i=>exact hq _ _ h
   | ret=>exact hq _ _ h
 | .exit _,_,_,_,h,hq=>hq _ _ h
 | .ret,_,_,_,h,hq=>hq _ _ h
 | .scope a,_,_,_,h,hq=>Ai (c:=a) h hq
 | .gh a gs,_,_,_,h,hq=>Ai (c:=a) h fun e s h=>by
  cases e with
  | normal=>exact hq _ _ h
  | exit i=>exact hq _ _ h
  | ret=>exact hq _ _ h
 | .ghW a,_,_,_,h,hq=>Ai (c:=a) h fun e s h=>by
  cases e with
  | normal=>obtain⟨s',h1,h2⟩:=h;exact⟨s',h1,hq _ _ h2⟩
  | exit i=>exact hq _ _ h
  | ret=>exact hq _ _ h
 | .pre _ a,_,_,_,h,hq=>Ai (c:=a) h hq
 | .dead,_,_,_,h,_=>h.elim
theorem G4:∀ {c:IC} {Q:AX->St->Prop} {s:St},W6 P Γ c Q s->∃ e s',Q e s'/\W6 P Γ c (fun e2 s2=>e2=e/\s2=s') s
 | .skip,_,_,h=>⟨_,_,h,rfl,rfl⟩
 | .reg _ _,_,_,⟨s1,h1,h2⟩=>⟨_,_,h2,s1,h1,rfl,rfl⟩
 | .seq a b,Q,s,h=>by
  obtain⟨e,s1,h1,h2⟩:=G4 (c:=a) h
  cases e with
  | normal =>
   obtain⟨e2,s2,h3,h4⟩:=G4 (c:=b) h1
   exact⟨e2,s2,h3,Ai (c:=a) h2 fun e s ⟨he,hs⟩=>by subst he;subst hs;exact h4⟩
  | exit i=>exact⟨_,_,h1,Ai (c:=a) h2 fun e s ⟨he,hs⟩=>by subst he;subst hs;exact⟨rfl,rfl⟩⟩
  | ret=>exact⟨_,_,h1,Ai (c:=a) h2 fun e s ⟨he,hs⟩=>by subst he;subst hs;exact⟨rfl,rfl⟩⟩
 | .cond c a b,Q,s,⟨t,h1,h2,h3⟩=>by
  cases t with
  | true =>
   obtain⟨e,s1,h4,h5⟩:=G4 (c:=a) (h2 rfl)
   exact⟨e,s1,h4,true,h1,fun _=>h5,fun h=>by cases h⟩
  | false =>
   obtain⟨e,s1,h4,h5⟩:=G4 (c:=b) (h3 rfl)
   exact⟨e,s1,h4,false,h1,(fun h=>by cases h),fun _=>h5⟩
 | .block id a,Q,s,h=>by
  obtain⟨e,s1,h1,h2⟩:=G4 (c:=a) h
  cases e with
  | normal=>exact⟨_,_,h1,Ai (c:=a) h2 fun e s ⟨he,hs⟩=>by subst he;subst hs;exact⟨rfl,rfl⟩⟩
  | ret=>exact⟨_,_,h1,Ai (c:=a) h2 fun e s ⟨he,hs⟩=>by subst he;subst hs;exact⟨rfl,rfl⟩⟩
  | exit i =>
   by_cases hi:i=id
   ·simp only[F2,hi,if_true]at h1
    exact⟨_,_,h1,Ai (c:=a) h2 fun e s ⟨he,hs⟩=>by subst he;subst hs;simp[F2,hi]⟩
   ·simp only[F2,hi,if_false]at h1
    exact⟨_,_,h1,Ai (c:=a) h2 fun e s ⟨he,hs⟩=>by subst he;subst hs;simp[F2,hi]⟩
 | .loop a,Q,s,⟨n,h⟩=>by
  induction n generalizing s with
  | zero=>exact h.elim
  | succ n ih =>
   obtain⟨e,s1,h1,h2⟩:=G4 (c:=a) h
   cases e with
   | normal =>
    obtain⟨e2,s2,h3,m,h4⟩:=ih _ h1
    exact⟨e2,s2,h3,m+1,Ai (c:=a) h2 fun e s ⟨he,hs⟩=>by subst he;subst hs;exact h4⟩
   | exit i=>exact⟨_,_,h1,1,Ai (c:=a) h2 fun e s ⟨he,hs⟩=>by subst he;subst hs;exact⟨rfl,rfl⟩⟩
   | ret=>exact⟨_,_,h1,1,Ai (c:=a) h2 fun e s ⟨he,hs⟩=>by subst he;subst hs;exact⟨rfl,rfl⟩⟩
 | .exit _,_,_,h=>⟨_,_,h,rfl,rfl⟩
 | .ret,_,_,h=>⟨_,_,h,rfl,rfl⟩
 | .scope a,Q,s,h=>G4 (c:=a) h
 | .gh a gs,Q,s,h=>by
  obtain⟨e,s1,h1,h2⟩:=G4 (c:=a) h
  cases e with
  | normal=>exact⟨_,_,h1,Ai (c:=a) h2 fun e s ⟨he,hs⟩=>by subst he;subst hs;exact⟨rfl,rfl⟩⟩
  | exit i=>exact⟨_,_,h1,Ai (c:=a) h2 fun e s ⟨he,hs⟩=>by subst he;subst hs;exact⟨rfl,rfl⟩⟩
  | ret=>exact⟨_,_,h1,Ai (c:=a) h2 fun e s ⟨he,hs⟩=>by subst he;subst hs;exact⟨rfl,rfl⟩⟩
 | .ghW a,Q,s,h=>by
  obtain⟨e,s1,h1,h2⟩:=G4 (c:=a) h
  cases e with
  | normal=>obtain⟨s',h3,h4⟩:=h1;exact⟨_,_,h4,Ai (c:=a) h2 fun e s ⟨he,hs⟩=>by subst he;subst hs;exact⟨s',h3,rfl,rfl⟩⟩
  | exit i=>exact⟨_,_,h1,Ai (c:=a) h2 fun e s ⟨he,hs⟩=>by subst he;subst hs;exact⟨rfl,rfl⟩⟩
  | ret=>exact⟨_,_,h1,Ai (c:=a) h2 fun e s ⟨he,hs⟩=>by subst he;subst hs;exact⟨rfl,rfl⟩⟩
 | .pre _ a,_,_,h=>G4 (c:=a) h
 | .dead,_,_,h=>h.elim
theorem qDh {c:IC} {Q:AX->St->Prop} {s:St} (h:W6 P Γ c (B1 (W6 P Γ (.loop c) Q) Q) s):W6 P Γ (.loop c) Q s:=by
 obtain⟨e,s1,h1,h2⟩:=G4 h
 cases e with
 | normal =>
  obtain⟨n,h1⟩:=h1
  exact⟨n+1,Ai h2 fun e s ⟨he,hs⟩=>by subst he;subst hs;exact h1⟩
 | exit i=>exact⟨1,Ai h2 fun e s ⟨he,hs⟩=>by subst he;subst hs;exact h1⟩
 | ret=>exact⟨1,Ai h2 fun e s ⟨he,hs⟩=>by subst he;subst hs;exact h1⟩
theorem S3:∀ {ids:List Nat} {st:St} {X:Nat->Prop} {μ:Be} {tm:Array Value},B0 w0 B κ X μ st tm w->B0 w0 B κ X μ (Ej ids st) tm w
 | [],_,_,_,_,h=>h
 | id::ids,_,_,_,_,h=>S3 (ids:=ids) (h.kill id)
theorem Rh:∀ {ids:List Nat} {st:St} {t:Nat},A2 (Ej ids st).hp t≠none->t∉ids/\A2 st.hp t≠none
 | [],_,_,h=>⟨by simp,h⟩
 | id::ids,st,t,h=>by
  obtain⟨h1,h2⟩:=Rh (ids:=ids) h
  rw[Ru]at h2
  split at h2
  ·exact absurd rfl h2
  ·rename_i hne
   refine⟨by simp[hne,h1],fun e=>h2 (by rw[e];rfl)⟩
theorem q5N {α:Type}:∀ {l:List (Nat×α)} {t:Nat},A2 l t≠none->t∈l.map (·.1)
 | [],_,h=>absurd rfl h
 | (k,v)::l,t,h=>by
  simp only[A2]at h
  split at h
  ·rename_i e;simp[e]
  ·exact List.mem_cons_of_mem _ (q5N h)
theorem q1W {α:Type} {ks:List Nat} {l:List (Nat×α)} {t:Nat} (h:A2 l t≠none->t∈ks):A2 (Lg.keep ks l) t=A2 l t:=by
 cases hq:A2 (Lg.keep ks l) t with
 | some a=>exact((Rt ks l t a hq).1).symm
 | none =>
  cases hl:A2 l t with
  | none=>rfl
  | some a =>
   exfalso
   have hm:=h (by rw[hl];simp)
   clear h
   induction ks with
   | nil=>cases hm
   | cons k ks ih =>
    unfold Lg.keep at hq ih
    rw[List.filterMap_cons]at hq
    cases hk:A2 l k with
    | none =>
     rw[hk]at hq
     rcases List.mem_cons.1 hm with rfl|hm
     ·rw[hl]at hk;cases hk
     ·exact ih hq hm
    | some v =>
     rw[hk]at hq
     simp only[Option.map_some,A2]at hq
     split at hq
     ·cases hq
     ·rename_i hne
      rcases List.mem_cons.1 hm with rfl|hm
      ·exact hne rfl
      ·exact ih hq hm
theorem B0.hpc {X:Nat->Prop} {μ:Be} {tm:Array Value} {hp:List (Nat×Aj)} (h:B0 w0 B κ X μ st tm w) (hl:∀ t,A2 hp t=A2 st.hp t):B0 w0 B κ X μ ⟨st.env,hp⟩ tm w:=by
 have hs:St.sh ⟨st.env,hp⟩=st.sh:=funext fun t=>by simp only[St.sh,hl]
 refine⟨fun t a ht=>?_,fun id r hr=>?_,?_,?_,?_,h.kbig,h.xlt,h.os,h.tape,h.output,h.size,h.fr⟩
 ·rw[hs];exact h.env t a ht
 ·rw[hs];exact h.reg id r (by rw[<- hl];exact hr)
 ·rw[hs];exact h.inj
 ·rw[hs];exact h.loc
 ·rw[hs];exact h.kap
theorem B0.slot {X:Nat->Prop} {μ:Be} {tm:Array Value} {t:Nat} {b:AV} (h:B0 w0 B κ X μ st tm w) (hb:AR w X μ st.sh b (tm.getD t undef)):B0 w0 B κ X μ ⟨(t,b)::st.env,st.hp⟩ tm w:=by
 refine⟨fun u a ha=>?_,h.reg,h.inj,h.loc,h.kap,h.kbig,h.xlt,h.os,h.tape,h.output,h.size,h.fr⟩
 simp only[A2]at ha
 split at ha
 ·rename_i e;subst e;simp only[Option.some.injEq]at ha;subst ha;exact hb
 ·exact h.env u a ha
theorem TR.nil_inv {X:Nat->Prop} {nl:Option Bool} {v:Value} (h:TR w X (.sl [] (some 0) nl) v):∃ a,v=.slice a 0 0:=by
 cases h with
 | nil cap nl a c hc hn hz=>exact⟨a,by rw[hc 0 rfl]⟩
 | sl es cap nl s b off c f hcell hlen hrel hone hx hle hc hn=>exact⟨_,by rw[hc 0 rfl];rfl⟩
theorem B0.addNil {X:Nat->Prop} {μ:Be} {tm:Array Value} {id:Nat} (h:B0 w0 B κ X μ st tm w) (hi:A2 st.hp id=none) (hlt:id<1000000) (ty s:Nat):B0 w0 B κ X (μ.set id none) ⟨st.env,(id,.sl ty s [])::st.hp⟩ tm w:=by
 refine h.addReg hi hlt (.sl ty s []) none (fun g n e=>by cases e) ⟨fun i e h=>by simp at h,.inl ⟨rfl,by simp[Be.set]⟩⟩
theorem q1X {a b t:Nat}:∀ {hp:List (Nat×Aj)},A2 hp b=none->a≠b->A2 (Nl a b hp) t=if t=b then(A2 hp a).map (Bj (Ed a b))else if t=a then none else(A2 hp t).map (Bj (Ed a b))
 | [],_,_=>by simp[Nl,A2]
 | (k,r)::l,hb,hab=>by
  simp only[A2]at hb
  split at hb
  ·cases hb
  rename_i hkb
  have ih:=q1X (t:=t) hb hab
  simp only[Nl,A2,ih]
  by_cases hka:k=a
  ·subst hka
   by_cases htb:t=b
   ·subst htb;simp
   ·simp[htb,Ne.symm htb]
    by_cases hta:t=k
    ·simp[hta]
    ·simp[hta,Ne.symm hta]
  ·simp only[hka,if_false]
   by_cases htb:t=b
   ·subst htb;simp[hkb]
   ·by_cases hkt:k=t
    ·subst hkt;simp[htb,hka]
    ·simp[hkt,htb]
theorem B0.rename {X:Nat->Prop} {μ:Be} {tm:Array Value} (h:B0 w0 B κ X μ st tm w) {x y:Nat} (hb:A2 st.hp y=none) (ha:A2 st.hp x≠none) (hx:x<1000000) (hy:y<1000000) :
  B0 w0 B κ X (fun i=>if i=y then μ x else μ i) ⟨st.env.map fun p=>(p.1,Ag (Ed x y) p.2),Nl x y st.hp⟩ tm w:=by
 have hne:x≠y:=fun e=>ha (e ▸ hb)
 have hl:=fun t=>q1X (t:=t) hb hne
 have hsh:∀ t,St.sh ⟨st.env.map fun p=>(p.1,Ag (Ed x y) p.2),Nl x y st.hp⟩ t=if t=y then st.sh x else if t=x then none else st.sh t:=by
  intro t
  simp only[St.sh,hl]
  split
  ·cases A2 st.hp x<;>simp[N2]
  ·split
   ·rfl
   ·cases A2 st.hp t<;>simp[N2]
 have hyn:st.sh y=none:=St.sh_none.2 hb
 have hφ:∀ i j q,Ed x y i=some j->st.sh i=some q->St.sh ⟨st.env.map fun p=>(p.1,Ag (Ed x y) p.2),Nl x y st.hp⟩ j=some q/\(if j=y then μ x else μ j)=μ i:=by
  intro i j q hj hq
  rw[hsh]
  simp only[Ed]at hj
  split at hj<;>simp only[Option.some.injEq]at hj<;>subst hj
  ·rename_i e;subst e;simp[hq]
  ·rename_i e
   have:i≠y:=fun e=>by rw[e,hyn]at hq;cases hq
   simp[this,e,hq]
 -- the elder name
 have hback:∀ t,St.sh ⟨st.env.map fun p=>(p.1,Ag (Ed x y) p.2),Nl x y st.hp⟩ t≠none->∃ u,st.sh u≠none/\(if t=y then μ x else μ t)=μ u/\(t=y/\u=x\/t≠y/\t≠x/\u=t):=by
  intro t ht
  rw[hsh]at ht
  by_cases e:t=y
  ·exact⟨x,by simpa[e]using ht,by simp[e],.inl ⟨e,rfl⟩⟩
  ·by_cases f:t=x
   ·rw[if_neg e,if_pos f]at ht
    exact absurd rfl ht
   ·exact⟨t,by simpa[e,f]using ht,by simp[e],.inr ⟨e,f,rfl⟩⟩
 refine⟨?_,?_,?_,?_,?_,h.kbig,h.xlt,h.os,h.tape,h.output,h.size,h.fr⟩
 ·intro t a ht
  have h1:A2 (st.env.map fun p=>(p.1,Ag (Ed x y) p.2)) t=(A2 st.env t).map (Ag (Ed x y)):=Cc _ _ _
  have ht':A2 (st.env.map fun p=>(p.1,Ag (Ed x y) p.2)) t=some a:=ht
  rw[h1,Option.map_eq_some_iff]at ht'
  obtain⟨b,hb,rfl⟩:=ht'
  exact(h.env t b hb).ren hφ
 ·intro t r hr
  have hr':A2 (Nl x y st.hp) t=some r:=hr
  rw[hl]at hr'
  split at hr'
  ·rename_i e;subst e
   rw[Option.map_eq_some_iff]at hr'
   obtain⟨q,hq,rfl⟩:=hr'
   exact(h.reg x q hq).ren hφ (by simp)
  ·rename_i e
   split at hr'
   ·cases hr'
   ·rw[Option.map_eq_some_iff]at hr'
    obtain⟨q,hq,rfl⟩:=hr'
    exact(h.reg t q hq).ren hφ (by simp[e])
 ·intro a b g n n' ha' hb' hma hmb
  obtain⟨u,h1,h2,h3⟩:=hback a ha'
  obtain⟨v,h4,h5,h6⟩:=hback b hb'
  have:=h.inj u v g n n' h1 h4 (h2 ▸ hma) (h5 ▸ hmb)
  subst this
  rcases h3 with⟨h3,h3'⟩|⟨h3,h3',h3''⟩<;>rcases h6 with⟨h6,h6'⟩|⟨h6,h6',h6''⟩
  ·rw[h3,h6]
  ·exact absurd (h6''.symm.trans h3') h6'
  ·exact absurd (h3''.symm.trans h6') h3'
  ·rw[<- h3'',<- h6'']
 ·intro t g n ht hm
  obtain⟨u,h1,h2,_⟩:=hback t ht
  exact h.loc u g n h1 (h2 ▸ hm)
 ·intro t hbig ht
  obtain⟨u,h1,h2,h3⟩:=hback t ht
  rcases h3 with⟨h3,_⟩|⟨_,_,h3⟩
  ·omega
  ·subst h3
   exact h2.trans (h.kap u hbig h1)
theorem G3.freeze (hI:G3 L Γ w0 B κ X0 N st a w) (id:Nat):G3 L Γ w0 B κ X0 N (st.freeze id) a w:=by
 obtain⟨X,μ,hsim,hg,h0,hbd,hsz,hds⟩:=hI
 simp only[St.freeze]
 split
 ·rename_i r hl
  split
  ·rename_i hc
   refine⟨_,μ,hsim.freeze hl hc,hg.mono (fun _ _=>rfl) (fun _ hb=>.inl hb),fun b hb=>.inl (h0 b hb),fun b hb=>?_,hsz,hds⟩
   rcases hb with hb|⟨n,hb⟩
   ·exact hbd b hb
   ·rcases Nat.lt_or_ge b B with hlt|hge
    ·obtain⟨id',n',hk⟩:=(hsim.loc id b n (by simp[By hl]) hb).2.2 hlt
     exact .inr (.inr ⟨id',n',hk⟩)
    ·exact .inr (.inl hge)
  ·exact⟨X,μ,hsim,hg,h0,hbd,hsz,hds⟩
 ·exact⟨X,μ,hsim,hg,h0,hbd,hsz,hds⟩
theorem qBb {base:Nat}:∀ {n:Nat} {st:St},G3 L Γ w0 B κ X0 N st a w->G3 L Γ w0 B κ X0 N (qAQ base n st) a w
 | 0,_,h=>h
 | n+1,_,h=>qBb (n:=n) (h.freeze (base+n))
theorem q5O (x y:Nat) (hI:G3 L Γ w0 B κ X0 N st a w):G3 L Γ w0 B κ X0 N (Fp x y st) a w:=by
 obtain⟨X,μ,hsim,hg,h0,hbd,hsz,hds⟩:=hI
 simp only[Fp]
 split
 ·rename_i hc
  simp only[Bool.and_eq_true,Option.isNone_iff_eq_none,decide_eq_true_eq,Option.isSome_iff_ne_none]at hc
  exact⟨X,_,hsim.rename hc.1.1.1 hc.1.1.2 hc.1.2 hc.2,hg,h0,hbd,hsz,hds⟩
 ·exact⟨X,μ,hsim,hg,h0,hbd,hsz,hds⟩
theorem q93 (rid k id ty s:Nat) (hI:G3 L Γ w0 B κ X0 N st a w):G3 L Γ w0 B κ X0 N (qBa rid k id ty s st) a w:=by
 obtain⟨X,μ,hsim,hg,h0,hbd,hsz,hds⟩:=hI
 unfold qBa
 split
 ·rename_i cs hl
  split
  ·rename_i nl hk
   split
   ·rename_i hc
    simp only[Bool.and_eq_true,Option.isNone_iff_eq_none,decide_eq_true_eq]at hc
    have h1:=hsim.addNil hc.1 hc.2 ty s
    have hne:rid≠id:=fun e=>by rw[e,hc.1]at hl;cases hl
    have hlk:∀ t,A2 ((id,Aj.sl ty s [])::Bm rid (.bx (cs.set k (.ls id 0 0 none))) st.hp) t=if t=rid then some (.bx (cs.set k (.ls id 0 0 none)))else A2 ((id,Aj.sl ty s [])::st.hp) t:=by
     intro t
     simp only[A2]
     by_cases e:id=t
     ·subst e;simp[Ne.symm hne]
     ·simp only[e,if_false]
      rw[Bg,hl];rfl
    have hsh:∀ t,St.sh ⟨st.env,(id,Aj.sl ty s [])::Bm rid (.bx (cs.set k (.ls id 0 0 none))) st.hp⟩ t=St.sh ⟨st.env,(id,Aj.sl ty s [])::st.hp⟩ t:=by
     intro t
     simp only[St.sh,hlk]
     split
     ·rename_i e;subst e;simp[A2,Ne.symm hne,hl,Aj.sh]
     ·rfl
    have hsf:St.sh ⟨st.env,(id,Aj.sl ty s [])::Bm rid (.bx (cs.set k (.ls id 0 0 none))) st.hp⟩=St.sh ⟨st.env,(id,Aj.sl ty s [])::st.hp⟩:=funext hsh
    refine⟨X,μ.set id none,⟨fun t b hb=>?_,fun t r hr=>?_,?_,?_,?_,h1.kbig,h1.xlt,h1.os,h1.tape,h1.output,h1.size,h1.fr⟩,hg,h0,hbd,hsz,hds⟩
    ·rw[hsf];exact h1.env t b hb
    ·rw[hsf]
     simp only[hlk]at hr
     split at hr
     ·rename_i e;subst e
      simp only[Option.some.injEq]at hr;subst hr
      obtain⟨h2,g,arr,ty',hm,hg',hle,hrel⟩:=h1.reg t (.bx cs) (by simp[A2,Ne.symm hne,hl])
      obtain⟨ad,hv⟩:∃ ad,arr[k]? = some (.slice ad 0 0):=by
       have hklt:=(List.getElem?_eq_some_iff.1 hk).1
       have hka:k<arr.size:=by rw[<- hle];exact hklt
       have h3:=hrel k _ arr[k] hk (by simp[hka])
       obtain⟨ad,e⟩:=h3.t_inv.nil_inv
       exact⟨ad,by simp[hka,e]⟩
      refine⟨fun j b hb=>?_,g,arr,ty',hm,hg',by simpa using hle,fun j b x hb hx=>?_⟩
      ·rw[List.getElem?_set]at hb
       split at hb
       ·split at hb
        ·simp only[Option.some.injEq]at hb;subst hb;rfl
        ·cases hb
       ·exact h2 j b hb
      ·rw[List.getElem?_set]at hb
       split at hb
       ·rename_i e;subst e
        split at hb
        ·simp only[Option.some.injEq]at hb;subst hb
         rw[hv]at hx;cases hx
         exact .lsnil id s 0 (by simp[St.sh,A2,Aj.sh]) (by simp[Be.set]) ad none (fun q h=>by cases h)
        ·cases hb
       ·exact hrel j b x hb hx
     ·exact h1.reg t r hr
    ·rw[hsf];exact h1.inj
    ·rw[hsf];exact h1.loc
    ·rw[hsf];exact h1.kap
   ·exact⟨X,μ,hsim,hg,h0,hbd,hsz,hds⟩
  ·exact⟨X,μ,hsim,hg,h0,hbd,hsz,hds⟩
 ·exact⟨X,μ,hsim,hg,h0,hbd,hsz,hds⟩
theorem B0.swap {w0:World} {B:Nat} {κ:Be} {X:Nat->Prop} {μ:Be} {st:St} {tm:Array Value} {w:World} (h:B0 w0 B κ X μ st tm w) {id:Nat} {r r':Aj} (hl:A2 st.hp id=some r) (hs:r'.sh=r.sh) (hr:Bv w X μ st.sh id r'):B0 w0 B κ X μ ⟨st.env,Bm id r' st.hp⟩ tm w:=by
 have hlk:∀ t,A2 (Bm id r' st.hp) t=if t=id then some r' else A2 st.hp t:=fun t=>by rw[Bg,hl];rfl
 have hsh:St.sh ⟨st.env,Bm id r' st.hp⟩=st.sh:=funext fun t=>by
  simp only[St.sh,hlk]
  split
  ·rename_i e;subst e;simp[hl,hs]
  ·rfl
 refine⟨fun t a ha=>?_,fun t q hq=>?_,?_,?_,?_,h.kbig,h.xlt,h.os,h.tape,h.output,h.size,h.fr⟩
 ·rw[hsh];exact h.env t a ha
 ·rw[hsh]
  simp only[hlk]at hq
  split at hq
  ·rename_i e;subst e;simp only[Option.some.injEq]at hq;subst hq;exact hr
  ·exact h.reg t q hq
 ·rw[hsh];exact h.inj
 ·rw[hsh];exact h.loc
 ·rw[hsh];exact h.kap
theorem Gh.run_ok (g:Gh) (hI:G3 L Γ w0 B κ X0 N st a w):G3 L Γ w0 B κ X0 N (g.run st) a w:=by
 obtain⟨X,μ,hsim,hg,h0,hbd,hsz,hds⟩:=hI
 cases g with
 | keep ks rs =>
  have h1:B0 w0 B κ X μ ⟨Lg.keep ks st.env,st.hp⟩ a.tmps w:=hsim.sub _ fun t b ht=>(Rt ks _ t b ht).1
  have h2:=S3 (ids:=(st.hp.map (·.1)).filter fun id=>!rs.contains id) h1
  refine⟨X,μ,h2.hpc fun t=>q1W fun hne=>?_,hg,h0,hbd,hsz,hds⟩
  obtain⟨h3,h4⟩:=Rh hne
  have h5:=q5N h4
  simp only[List.mem_filter,not_and,Bool.not_eq_true',Bool.not_eq_true]at h3
  have:=h3 h5
  simpa using this
 | frz id=>exact G3.freeze ⟨X,μ,hsim,hg,h0,hbd,hsz,hds⟩ id
 | frzs base n=>exact qBb ⟨X,μ,hsim,hg,h0,hbd,hsz,hds⟩
 | drop ids=>exact⟨X,μ,S3 (ids:=ids) hsim,hg,h0,hbd,hsz,hds⟩
 | keepE ks=>exact⟨X,μ,hsim.sub _ fun t b ht=>(Rt ks _ t b ht).1,hg,h0,hbd,hsz,hds⟩
 | toR id =>
  simp only[Gh.run]
  split
  ·rename_i ty s es hl
   exact⟨X,μ,hsim.swap hl (by simp[Aj.sh]) (Bv.rs_sl.1 (hsim.reg id _ hl)),hg,h0,hbd,hsz,hds⟩
  ·exact⟨X,μ,hsim,hg,h0,hbd,hsz,hds⟩
 | toM id =>
  simp only[Gh.run]
  split
  ·rename_i hl
   refine⟨X,μ,hsim.swap hl rfl ?_,hg,h0,hbd,hsz,hds⟩
   obtain⟨g,n,clock,ms,hm,hh,hle,hr⟩:=hsim.reg id _ hl
   have:ms=[]:=List.eq_nil_of_length_eq_zero hle.symm
   subst this
   exact⟨g,n,clock,[],hm,hh,⟨fun m h=>(by cases h),List.nodup_nil⟩,rfl,fun i e m h1 _=>by simp at h1⟩
  ·exact⟨X,μ,hsim,hg,h0,hbd,hsz,hds⟩
 | renB x y n =>
  have key:∀ (n:Nat) (st:St),G3 L Γ w0 B κ X0 N st a w->G3 L Γ w0 B κ X0 N (qHg x y n st) a w:=by
   intro n
   induction n with
   | zero=>exact fun st h=>h
   | succ n ih=>exact fun st h=>ih _ (q5O _ _ h)
  exact key n st ⟨X,μ,hsim,hg,h0,hbd,hsz,hds⟩
 | ren x y=>exact q5O x y ⟨X,μ,hsim,hg,h0,hbd,hsz,hds⟩
 | renS x base slot =>
  simp only[Gh.run]
  split
  ·exact q5O _ _ ⟨X,μ,hsim,hg,h0,hbd,hsz,hds⟩
  ·exact⟨X,μ,hsim,hg,h0,hbd,hsz,hds⟩
 | keepB ks rs base n =>
  have h1:B0 w0 B κ X μ ⟨Lg.keep ks st.env,st.hp⟩ a.tmps w:=hsim.sub _ fun t b ht=>(Rt ks _ t b ht).1
  have h2:=S3 (ids:=(st.hp.map (·.1)).filter fun id=>!rs.contains id && !(decide (base<=id)&&decide (id<base+n))) h1
  refine⟨X,μ,h2.hpc fun t=>?_,hg,h0,hbd,hsz,hds⟩
  rw[B8]
  by_cases ht:t∈rs
  ·rw[q1W (fun _=>ht)]
   cases hl:A2 (Ej ((st.hp.map (·.1)).filter fun id=>!rs.contains id && !(decide (base<=id)&&decide (id<base+n))) ⟨Lg.keep ks st.env,st.hp⟩).hp t with
   | some r=>rfl
   | none =>
    simp only[Option.none_or]
    cases hk:A2 (Lg.keep (List.range' base n) (Ej ((st.hp.map (·.1)).filter fun id=>!rs.contains id && !(decide (base<=id)&&decide (id<base+n))) ⟨Lg.keep ks st.env,st.hp⟩).hp) t with
    | none=>rfl
    | some r=>have:=(Rt _ _ t r hk).1;rw[hl]at this;cases this
  ·have e:A2 (Lg.keep rs (Ej ((st.hp.map (·.1)).filter fun id=>!rs.contains id && !(decide (base<=id)&&decide (id<base+n))) ⟨Lg.keep ks st.env,st.hp⟩).hp) t=none:=by
    cases hk:A2 (Lg.keep rs (Ej ((st.hp.map (·.1)).filter fun id=>!rs.contains id && !(decide (base<=id)&&decide (id<base+n))) ⟨Lg.keep ks st.env,st.hp⟩).hp) t with
    | none=>rfl
    | some r=>exact absurd (Rt _ _ t r hk).2 ht
   rw[e,Option.none_or]
   refine q1W fun hne=>?_
   obtain⟨h3,h4⟩:=Rh hne
   have h5:=q5N h4
   simp only[List.mem_filter,not_and,Bool.not_eq_true',Bool.not_eq_true]at h3
   have:=h3 h5
   simp[ht]at this
   rw[List.mem_range'_1];omega
 | nl slot id ty s =>
  simp only[Gh.run]
  split
  ·rename_i nl hl
   split
   ·rename_i hc
    simp only[Bool.and_eq_true,Option.isNone_iff_eq_none,decide_eq_true_eq]at hc
    have h1:=hsim.addNil hc.1 hc.2 ty s
    obtain⟨ad,hv⟩:=(hsim.env slot _ hl).t_inv.nil_inv
    refine⟨X,μ.set id none,h1.slot ?_,hg,h0,hbd,hsz,hds⟩
    rw[hv]
    exact .lsnil id s 0 (by simp[St.sh,A2,Aj.sh]) (by simp[Be.set]) ad none (fun q h=>by cases h)
   ·exact⟨X,μ,hsim,hg,h0,hbd,hsz,hds⟩
  ·exact⟨X,μ,hsim,hg,h0,hbd,hsz,hds⟩
 | nlb rid k id ty s=>exact q93 rid k id ty s ⟨X,μ,hsim,hg,h0,hbd,hsz,hds⟩
 | nlbS rid slot id ty s =>
  simp only[Gh.run]
  split
  ·exact q93 _ _ _ _ _ ⟨X,μ,hsim,hg,h0,hbd,hsz,hds⟩
  ·exact⟨X,μ,hsim,hg,h0,hbd,hsz,hds⟩
theorem Xw:∀ {gs:List Gh} {st:St},G3 L Γ w0 B κ X0 N st a w->G3 L Γ w0 B κ X0 N (gs.foldl (fun s g=>g.run s) st) a w
 | [],_,h=>h
 | g::gs,_,h=>Xw (gs:=gs) (Gh.run_ok g h)
def q94 (L:List Nat) (Γ:Tables) (w0:World) (B:Nat) (κ:Be) (X0:Nat->Prop) (N:Nat) (Q:AX->St->Prop):Exit->Act->World->Prop:=fun e a w=>∃ x s,e=x.to/\G3 L Γ w0 B κ X0 N s a w/\Q x s
abbrev post:=q94 []
theorem G3.drawn (h:G3 L Γ w0 B κ X0 N st a w) (n:Nat):G3 L Γ w0 B κ X0 N st a { w with drawn:=n }:=by
 have hb:RowKit.Below w.heap.size w { w with drawn:=n }:=by constructor<;>simp
 obtain⟨X,μ,hsim,hg,h0,hbd,hsz,hds⟩:=h
 have hs:Same X w { w with drawn:=n }:=fun _ _=>rfl
 exact⟨X,μ,hsim.grow hb (fun _ hb=>hb) (fun _ hb=>.inl hb),hg.mono hs (fun _ hb=>hb),h0,hbd,hsz,hds⟩
def noC (L:List Nat):IC->Bool
 | .reg ros _=>noD L ros
 | .seq a b=>noC L a&&noC L b
 | .cond _ a b=>noC L a&&noC L b
 | .block _ a=>noC L a
 | .loop a=>noC L a
 | .scope a=>noC L a
 | .gh a _=>noC L a
 | .ghW a=>noC L a
 | .pre _ a=>noC L a
 | _=>true
theorem Nn:∀ {c:IC},noC [] c=true
 | .reg _ _=>q7u
 | .seq a b=>by simp only[noC,Nn (c:=a),Nn (c:=b),Bool.and_self]
 | .cond _ a b=>by simp only[noC,Nn (c:=a),Nn (c:=b),Bool.and_self]
 | .block _ a=>Nn (c:=a)
 | .loop a=>Nn (c:=a)
 | .scope a=>Nn (c:=a)
 | .gh a _=>Nn (c:=a)
 | .ghW a=>Nn (c:=a)
 | .pre _ a=>Nn (c:=a)
 | .skip=>rfl
 | .exit _=>rfl
 | .ret=>rfl
 | .dead=>rfl
theorem D3 (hN:N<=1000000) (hm:P.follows .mixedOrders=true):∀ {c:IC} {d:Code} {Q:AX->St->Prop} {st:St} {a:Act} {w:World},Cj P N c d=true->G3 L Γ w0 B κ X0 N st a w->W6 P Γ c Q st->noC L c=true->d.wp P (q94 L Γ w0 B κ X0 N Q) a w
 | .skip,d,Q,st,a,w,hc,hI,h,hL=>by
  cases d<;>simp[Cj]at hc
  ·exact wp_skip ⟨.normal,st,rfl,hI,h⟩
  ·exact wp_label ⟨.normal,st,rfl,hI,h⟩
 | .reg ros gs,d,Q,st,a,w,hc,hI,h,hL=>by
  cases d<;>simp only[Cj,Bool.false_eq_true]at hc
  rename_i id ops dr
  simp only[Bool.and_eq_true,Bool.or_eq_true,Bool.not_eq_true']at hc
  obtain⟨s1,h1,h2⟩:=h
  have fin:∀ a' w',G3 L Γ w0 B κ X0 N s1 a' w'->q94 L Γ w0 B κ X0 N Q .normal a' w':=fun a' w' hI'=>⟨.normal,_,rfl,Xw hI',h2⟩
  cases dr with
  | false =>
   refine wp_region_list ?_
   have:=Zh (Q:=q94 L Γ w0 B κ X0 N Q) (ops:=ops.toList) hN hI hc.1 h1 fin hL
   rwa [Array.toArray_toList]at this
  | true =>
   have hd:=hc.2.resolve_left (by simp)
   refine wp_region_any hm ?_
   have:=q5L (Q:=q94 L Γ w0 B κ X0 N Q) (ops:=ops.toList) hN (hI.drawn (w.drawn+1)) hc.1 hd h1 fin hL
   rwa [Array.toArray_toList]at this
 | .seq x y,d,Q,st,a,w,hc,hI,h,hL=>by
  have hL:noC L x=true/\noC L y=true:=by simpa only[noC,Bool.and_eq_true]using hL
  cases d<;>simp only[Cj,Bool.false_eq_true]at hc
  simp only[Bool.and_eq_true]at hc
  refine wp_seq (wp_mono (D3 hN hm (c:=x) hc.1 hI h hL.1) ?_)
  rintro e a w ⟨x,s,rfl,hI,hq⟩
  cases x with
  | normal=>exact D3 hN hm (c:=y) hc.2 hI hq hL.2
  | exit i=>exact⟨_,s,rfl,hI,hq⟩
  | ret=>exact⟨_,s,rfl,hI,hq⟩
 | .cond o x y,d,Q,st,a,w,hc,hI,h,hL=>by
  have hL:noC L x=true/\noC L y=true:=by simpa only[noC,Bool.and_eq_true]using hL
  cases d<;>simp only[Cj,Bool.false_eq_true]at hc
  simp only[Bool.and_eq_true]at hc
  obtain⟨⟨⟨h1,h2⟩,h3⟩,h4⟩:=hc
  have:=A8 h1;subst this
  obtain⟨t,h5,h6,h7⟩:=h
  obtain⟨X,μ,hsim,hg,h0,hbd,hsz,hds⟩:=id hI
  have hev:=(Ah (ds:=a.defers) hsim hg h5 h2).t_inv.v_inv
  refine wp_cond_split (t:=t) hev (fun e=>D3 hN hm (c:=x) h3 hI (h6 e) hL.1) (fun e=>D3 hN hm (c:=y) h4 hI (h7 e) hL.2)
 | .block i x,d,Q,st,a,w,hc,hI,h,hL=>by
  cases d<;>simp only[Cj,Bool.false_eq_true]at hc
  simp only[Bool.and_eq_true,beq_iff_eq]at hc
  obtain⟨rfl,hc⟩:=hc
  refine wp_block (wp_mono (D3 hN hm (c:=x) hc hI h hL) ?_)
  rintro e a w ⟨x,s,rfl,hI,hq⟩
  cases x with
  | normal=>exact⟨.normal,s,rfl,hI,hq⟩
  | ret=>exact⟨.ret,s,rfl,hI,hq⟩
  | exit j =>
   simp only[F2]at hq
   simp only[AX.to,Exit.inBlock]
   split
   ·rename_i hj;rw[if_pos hj]at hq;exact⟨.normal,s,rfl,hI,hq⟩
   ·rename_i hj;rw[if_neg hj]at hq;exact⟨.exit j,s,rfl,hI,hq⟩
 | .loop x,d,Q,st,a,w,hc,hI,h,hL=>by
  cases d<;>simp only[Cj,Bool.false_eq_true]at hc
  rename_i y
  have least:∀ p:Nat->Prop,(∃ n,p n)->∃ n,p n/\∀ m,p m->n<=m:=by
   intro p ⟨n,hn⟩
   induction n using Nat.strongRecOn with
   | _ n ih =>
    by_cases hlt:∃ m,m<n/\p m
    ·obtain⟨m,hm,hp⟩:=hlt;exact ih m hm hp
    ·exact⟨n,hn,fun m hm=>by rcases Nat.lt_or_ge m n with h|h;exact absurd ⟨m,h,hm⟩ hlt;exact h⟩
  let p:Act->World->Nat->Prop:=fun a w n=>∃ s,G3 L Γ w0 B κ X0 N s a w/\q92 (W6 P Γ x) Q n s
  classical
  refine wp_loop (fun a w=>∃ n,p a w n) (fun a w=>if hp:∃ n,p a w n then Classical.choose (least _ hp)else 0) ?_ ?_
  ·obtain⟨n,h⟩:=h;exact⟨n,st,hI,h⟩
  ·intro a w hp
   have hn:=Classical.choose_spec (least _ hp)
   generalize hnn:Classical.choose (least _ hp)=n at hn
   obtain⟨⟨s,hI,hl⟩,hmin⟩:=hn
   cases n with
   | zero=>exact hl.elim
   | succ n =>
    refine wp_mono (D3 hN hm (c:=x) hc hI hl hL) ?_
    rintro e a' w' ⟨x',s',rfl,hI',hq⟩
    cases x' with
    | normal =>
     have hp':∃ n,p a' w' n:=⟨n,s',hI',hq⟩
     refine⟨hp',?_⟩
     show(if hp:∃ n,p a' w' n then Classical.choose (least _ hp)else 0)<(if hp:∃ n,p a w n then Classical.choose (least _ hp)else 0)
     rw[dif_pos hp',dif_pos hp,hnn]
     have:=(Classical.choose_spec (least _ hp')).2 n ⟨s',hI',hq⟩
     omega
    | exit i=>exact⟨_,s',rfl,hI',hq⟩
    | ret=>exact⟨_,s',rfl,hI',hq⟩
 | .exit i,d,Q,st,a,w,hc,hI,h,hL=>by
  cases d<;>simp only[Cj,Bool.false_eq_true,beq_iff_eq]at hc
  subst hc
  exact wp_exit ⟨.exit i,st,rfl,hI,h⟩
 | .ret,d,Q,st,a,w,hc,hI,h,hL=>by
  cases d<;>simp[Cj]at hc
  exact wp_ret ⟨.ret,st,rfl,hI,h⟩
 | .scope x,d,Q,st,a,w,hc,hI,h,hL=>by
  cases d<;>simp only[Cj,Bool.false_eq_true]at hc
  refine wp_scope_straight (wp_mono (D3 hN hm (c:=x) hc hI h hL) ?_)
  rintro e a w ⟨x,s,rfl,hI,hq⟩
  cases x with
  | normal=>exact⟨.normal,s,rfl,hI,hq⟩
  | exit i=>exact⟨.exit i,s,rfl,hI,hq⟩
  | ret=>exact⟨.ret,s,rfl,hI,hq⟩
 | .gh x gs,d,Q,st,a,w,hc,hI,h,hL=>by
  have hc':Cj P N x d=true:=by cases d<;>simpa only[Cj]using hc
  refine wp_mono (D3 hN hm (c:=x) hc' hI h hL) ?_
  rintro e a w ⟨x,s,rfl,hI,hq⟩
  cases x with
  | normal=>exact⟨.normal,_,rfl,Xw hI,hq⟩
  | exit i=>exact⟨.exit i,s,rfl,hI,hq⟩
  | ret=>exact⟨.ret,s,rfl,hI,hq⟩
 | .ghW x,d,Q,st,a,w,hc,hI,h,hL=>by
  have hc':Cj P N x d=true:=by cases d<;>simpa only[Cj]using hc
  refine wp_mono (D3 hN hm (c:=x) hc' hI h hL) ?_
  rintro e a w ⟨x,s,rfl,hI,hq⟩
  cases x with
  | normal=>obtain⟨s',h1,h2⟩:=hq;exact⟨.normal,s',rfl,h1 _ _ _ _ _ _ _ _ hI,h2⟩
  | exit i=>exact⟨.exit i,s,rfl,hI,hq⟩
  | ret=>exact⟨.ret,s,rfl,hI,hq⟩
 | .pre gs x,d,Q,st,a,w,hc,hI,h,hL=>by
  have hc':Cj P N x d=true:=by cases d<;>simpa only[Cj]using hc
  exact D3 hN hm (c:=x) hc' (Xw hI) h hL
 | .dead,d,Q,st,a,w,hc,hI,h,hL=>h.elim
theorem Jh (hN:N<=1000000) (hm:P.follows .mixedOrders=true) {c:IC} {d:Code} {Q:AX->St->Prop} {st:St} {a:Act} {w:World} (hc:Cj P N c d=true) (hI:Inv Γ w0 B κ X0 N st a w) (h:W6 P Γ c Q st):d.wp P (post Γ w0 B κ X0 N Q) a w :=
 D3 hN hm hc hI h Nn
theorem Imp.refl (s:St):Imp Γ s s:=fun _ _ _ _ _ _ _ _ h=>h
theorem Imp.trans {s s1 s2:St} (h:Imp Γ s s1) (h':Imp Γ s1 s2):Imp Γ s s2:=fun _ _ _ _ _ _ _ _ hI=>h' _ _ _ _ _ _ _ _ (h _ _ _ _ _ _ _ _ hI)
theorem Imp.gh (g:Gh) (s:St):Imp Γ s (g.run s):=fun _ _ _ _ _ _ _ _ hI=>Gh.run_ok g hI
theorem Imp.ghs (gs:List Gh) (s:St):Imp Γ s (gs.foldl (fun s g=>g.run s) s):=fun _ _ _ _ _ _ _ _ hI=>Xw hI
end
end Go.Lg
namespace Go.Lg
open Go
section
variable {P:Program} {l n:Nat} {ops:Array Oper} {Q:Exit->Act->World->Prop} {K:Act->World->Prop} {o:Oper} {a:Act} {w:World}
abbrev FR (l:Nat):Fence:=Fence.wide.inRound l
theorem qFf {row:String} {args:Array Value} {R:Value->World->Prop} (h:Rows P row args w R):RowsIn (FR l) n P row args w R:=fun c cs _=>by
 obtain⟨v,w',h1,h2⟩:=h c cs
 exact⟨v,w',h1,stepsIn_wide.2 h2⟩
theorem qFg:∀ {r:Result Next},o.upon P a K Q r->o.uponIn (FR l) n P a K Q r:=by
 intro r h
 cases r with
 | ok x w' =>
  cases x with
  | value v=>exact h
  | skip=>exact h
  | «defer» d=>exact h
  | enter f args=>exact⟨fun hh=>by simp[Fence.wide]at hh,CallsIn.inRound l (callsIn_wide.2 h)⟩
  | row row args=>exact⟨fun hh=>by simp[Fence.wide]at hh,qFf h⟩
  | _=>exact h.elim
 | halt c w'=>cases c<;>exact h
theorem qDi (hd:∀ c,o.op ≠ .defer c) (h:o.wp P a w K Q):o.wpIn (FR l) n P a w K Q :=
 ⟨fun _ _=>trivial,by rw[Oper.semAt_eq _ _ _ hd];exact qFg h⟩
theorem q7z (hq:¬ LetsOut Q):∀ {os:List Oper} {a:Act} {w:World},(∀ o∈os,∀ c,o.op ≠ .defer c)->wpList P ops Q os a w->wpListIn (FR l) n P ops Q os a w
 | [],_,_,_,h=>h
 | o::os,a,w,hd,h=>by
  unfold wpList at h
  unfold wpListIn
  split at h
  ·rename_i hw
   rw[if_pos hw]
   rcases h with h|h
   ·exact Oper.wpIn_mono (fun a w h=>q7z hq (fun o ho=>hd o (List.mem_cons_of_mem _ ho)) h) (qDi (hd o (List.mem_cons_self ..)) h)
   ·exact absurd h.2 hq
  ·rename_i hw
   rw[if_neg hw]
   exact⟨fun _ _=>trivial,q7z hq (fun o ho=>hd o (List.mem_cons_of_mem _ ho)) h⟩
theorem q80 {md:Region.Mode} (hq:¬ LetsOut Q) (hd:∀ o∈ops.toList,∀ c,o.op ≠ .defer c):∀ {fuel:Nat} {listed:Array Bool} {a:Act} {w:World},wpAny P md ops Q fuel listed a w->wpAnyIn (FR l) n P md ops Q fuel listed a w
 | 0,_,_,_,h=>h
 | fuel+1,listed,a,w,h=>by
  refine⟨h.1,fun i hi=>?_⟩
  have h2:=h.2 i hi
  unfold wpOp at h2
  unfold wpOpIn
  split at h2
  ·rename_i ho;rw[ho];exact q80 hq hd h2
  ·rename_i o ho
   rw[ho]
   have hdo:∀ c,o.op ≠ .defer c:=hd o (by obtain⟨h3,h4⟩:=Array.getElem?_eq_some_iff.1 ho;rw[<- h4];simp)
   simp only
   split at h2
   ·rename_i hw
    rw[if_pos hw]
    rcases h2 with h2|h2
    ·exact Oper.wpIn_mono (fun a w h=>q80 hq hd h) (qDi hdo h2)
    ·exact absurd h2.2 hq
   ·rename_i hw
    rw[if_neg hw]
    exact⟨fun _ _=>trivial,q80 hq hd h2⟩
end
theorem qHh {P:Program} {io:B6} {op:Op} (h:Iy P io op=true):∀ c,op ≠ .defer c:=by
 rintro c rfl
 cases io<;>simp[Iy]at h
theorem q95 {P:Program} {N:Nat} {ops:List Oper}:∀ {ros:List RO} {os:List Oper},Oh P N ops ros os=true->∀ o∈os,∀ c,o.op ≠ .defer c
 | [],[],_,o,ho=>by cases ho
 | [],_::_,h,_,_=>by simp[Oh]at h
 | _::_,[],h,_,_=>by simp[Oh]at h
 | ro::ros,o::os,h,o',ho=>by
  simp only[Oh,Bool.and_eq_true]at h
  rcases List.mem_cons.1 ho with rfl|ho
  ·have:=h.1
   simp only[q3B,Bool.and_eq_true]at this
   exact qHh this.1.1.1.1.2
  ·exact q95 h.2 o' ho
section
variable {P:Program} {Γ:Tables} {w0:World} {B N l n:Nat} {κ:Be} {X0:Nat->Prop}
def noS:IC->Bool
 | .scope _=>false
 | .seq a b=>noS a&&noS b
 | .cond _ a b=>noS a&&noS b
 | .block _ a=>noS a
 | .loop a=>noS a
 | .gh a _=>noS a
 | .ghW a=>noS a
 | .pre _ a=>noS a
 | _=>true
theorem q96 {Q:AX->St->Prop}:¬ LetsOut (post Γ w0 B κ X0 N Q):=fun⟨a,w,x,s,h,_⟩=>by cases x<;>cases h
theorem Dt (hN:N<=1000000) (hm:P.follows .mixedOrders=true):∀ {c:IC} {d:Code} {Q:AX->St->Prop} {st:St} {a:Act} {w:World},Cj P N c d=true->Inv Γ w0 B κ X0 N st a w->W6 P Γ c Q st->noS c=true->d.wpIn (FR l) n P (post Γ w0 B κ X0 N Q) a w
 | .skip,d,Q,st,a,w,hc,hI,h,hL=>by
  cases d<;>simp[Cj]at hc
  ·exact wpIn_skip ⟨.normal,st,rfl,hI,h⟩
  ·exact wpIn_label ⟨.normal,st,rfl,hI,h⟩
 | .reg ros gs,d,Q,st,a,w,hc,hI,h,hL=>by
  cases d<;>simp only[Cj,Bool.false_eq_true]at hc
  rename_i id ops dr
  simp only[Bool.and_eq_true,Bool.or_eq_true,Bool.not_eq_true']at hc
  obtain⟨s1,h1,h2⟩:=h
  have fin:∀ a' w',Inv Γ w0 B κ X0 N s1 a' w'->post Γ w0 B κ X0 N Q .normal a' w':=fun a' w' hI'=>⟨.normal,_,rfl,Xw hI',h2⟩
  have hnd:=q95 hc.1
  cases dr with
  | false =>
   refine wpIn_region_list (q7z q96 hnd ?_)
   have:=Zh (Q:=post Γ w0 B κ X0 N Q) (ops:=ops.toList) hN hI hc.1 h1 fin q7u
   rwa [Array.toArray_toList]at this
  | true =>
   have hd:=hc.2.resolve_left (by simp)
   refine wpIn_region_any hm (q80 q96 hnd ?_)
   have:=q5L (Q:=post Γ w0 B κ X0 N Q) (ops:=ops.toList) hN (hI.drawn (w.drawn+1)) hc.1 hd h1 fin q7u
   rwa [Array.toArray_toList]at this
 | .seq x y,d,Q,st,a,w,hc,hI,h,hL=>by
  have hL:noS x=true/\noS y=true:=by simpa only[noS,Bool.and_eq_true]using hL
  cases d<;>simp only[Cj,Bool.false_eq_true]at hc
  simp only[Bool.and_eq_true]at hc
  refine wpIn_seq (wpIn_mono (Dt hN hm (c:=x) hc.1 hI h hL.1) ?_)
  rintro e a w ⟨x,s,rfl,hI,hq⟩
  cases x with
  | normal=>exact Dt hN hm (c:=y) hc.2 hI hq hL.2
  | exit i=>exact⟨_,s,rfl,hI,hq⟩
  | ret=>exact⟨_,s,rfl,hI,hq⟩
 | .cond o x y,d,Q,st,a,w,hc,hI,h,hL=>by
  have hL:noS x=true/\noS y=true:=by simpa only[noS,Bool.and_eq_true]using hL
  cases d<;>simp only[Cj,Bool.false_eq_true]at hc
  simp only[Bool.and_eq_true]at hc
  obtain⟨⟨⟨h1,h2⟩,h3⟩,h4⟩:=hc
  have:=A8 h1;subst this
  obtain⟨t,h5,h6,h7⟩:=h
  obtain⟨X,μ,hsim,hg,h0,hbd,hsz,hds⟩:=id hI
  have hev:=(Ah (ds:=a.defers) hsim hg h5 h2).t_inv.v_inv
  refine wpIn_cond_split (t:=t) hev (fun e=>Dt hN hm (c:=x) h3 hI (h6 e) hL.1) (fun e=>Dt hN hm (c:=y) h4 hI (h7 e) hL.2)
 | .block i x,d,Q,st,a,w,hc,hI,h,hL=>by
  cases d<;>simp only[Cj,Bool.false_eq_true]at hc
  simp only[Bool.and_eq_true,beq_iff_eq]at hc
  obtain⟨rfl,hc⟩:=hc
  refine wpIn_block (wpIn_mono (Dt hN hm (c:=x) hc hI h hL) ?_)
  rintro e a w ⟨x,s,rfl,hI,hq⟩
  cases x with
  | normal=>exact⟨.normal,s,rfl,hI,hq⟩
  | ret=>exact⟨.ret,s,rfl,hI,hq⟩
  | exit j =>
   simp only[F2]at hq
   simp only[AX.to,Exit.inBlock]
   split
   ·rename_i hj;rw[if_pos hj]at hq;exact⟨.normal,s,rfl,hI,hq⟩
   ·rename_i hj;rw[if_neg hj]at hq;exact⟨.exit j,s,rfl,hI,hq⟩
 | .loop x,d,Q,st,a,w,hc,hI,h,hL=>by
  cases d<;>simp only[Cj,Bool.false_eq_true]at hc
  rename_i y
  have least:∀ p:Nat->Prop,(∃ n,p n)->∃ n,p n/\∀ m,p m->n<=m:=by
   intro p ⟨n,hn⟩
   induction n using Nat.strongRecOn with
   | _ n ih =>
    by_cases hlt:∃ m,m<n/\p m
    ·obtain⟨m,hm,hp⟩:=hlt;exact ih m hm hp
    ·exact⟨n,hn,fun m hm=>by rcases Nat.lt_or_ge m n with h|h;exact absurd ⟨m,h,hm⟩ hlt;exact h⟩
  let p:Act->World->Nat->Prop:=fun a w n=>∃ s,Inv Γ w0 B κ X0 N s a w/\q92 (W6 P Γ x) Q n s
  classical
  refine wpIn_loop (fun a w=>∃ n,p a w n) (fun a w=>if hp:∃ n,p a w n then Classical.choose (least _ hp)else 0) ?_ ?_
  ·obtain⟨n,h⟩:=h;exact⟨n,st,hI,h⟩
  ·intro a w hp
   have hn:=Classical.choose_spec (least _ hp)
   generalize hnn:Classical.choose (least _ hp)=n at hn
   obtain⟨⟨s,hI,hl⟩,hmin⟩:=hn
   cases n with
   | zero=>exact hl.elim
   | succ n =>
    refine wpIn_mono (Dt hN hm (c:=x) hc hI hl hL) ?_
    rintro e a' w' ⟨x',s',rfl,hI',hq⟩
    cases x' with
    | normal =>
     have hp':∃ n,p a' w' n:=⟨n,s',hI',hq⟩
     refine⟨hp',?_⟩
     show(if hp:∃ n,p a' w' n then Classical.choose (least _ hp)else 0)<(if hp:∃ n,p a w n then Classical.choose (least _ hp)else 0)
     rw[dif_pos hp',dif_pos hp,hnn]
     have:=(Classical.choose_spec (least _ hp')).2 n ⟨s',hI',hq⟩
     omega
    | exit i=>exact⟨_,s',rfl,hI',hq⟩
    | ret=>exact⟨_,s',rfl,hI',hq⟩
 | .exit i,d,Q,st,a,w,hc,hI,h,hL=>by
  cases d<;>simp only[Cj,Bool.false_eq_true,beq_iff_eq]at hc
  subst hc
  exact wpIn_exit ⟨.exit i,st,rfl,hI,h⟩
 | .ret,d,Q,st,a,w,hc,hI,h,hL=>by
  cases d<;>simp[Cj]at hc
  exact wpIn_ret ⟨.ret,st,rfl,hI,h⟩
 | .scope x,d,Q,st,a,w,hc,hI,h,hL=>by cases hL
 | .gh x gs,d,Q,st,a,w,hc,hI,h,hL=>by
  have hc':Cj P N x d=true:=by cases d<;>simpa only[Cj]using hc
  refine wpIn_mono (Dt hN hm (c:=x) hc' hI h hL) ?_
  rintro e a w ⟨x,s,rfl,hI,hq⟩
  cases x with
  | normal=>exact⟨.normal,_,rfl,Xw hI,hq⟩
  | exit i=>exact⟨.exit i,s,rfl,hI,hq⟩
  | ret=>exact⟨.ret,s,rfl,hI,hq⟩
 | .ghW x,d,Q,st,a,w,hc,hI,h,hL=>by
  have hc':Cj P N x d=true:=by cases d<;>simpa only[Cj]using hc
  refine wpIn_mono (Dt hN hm (c:=x) hc' hI h hL) ?_
  rintro e a w ⟨x,s,rfl,hI,hq⟩
  cases x with
  | normal=>obtain⟨s',h1,h2⟩:=hq;exact⟨.normal,s',rfl,h1 _ _ _ _ _ _ _ _ hI,h2⟩
  | exit i=>exact⟨.exit i,s,rfl,hI,hq⟩
  | ret=>exact⟨.ret,s,rfl,hI,hq⟩
 | .pre gs x,d,Q,st,a,w,hc,hI,h,hL=>by
  have hc':Cj P N x d=true:=by cases d<;>simpa only[Cj]using hc
  exact Dt hN hm (c:=x) hc' (Xw hI) h hL
 | .dead,d,Q,st,a,w,hc,hI,h,hL=>h.elim
end
end Go.Lg
