/- THE LOGIC, part 36: a range over a function whose iterator keeps its state in cells of its own. Conditions: none. -/
import Derived.Test.YtjhbkddcmcfpaaaGreatDoorPkC
import Derived.RangeFuncWrites
import Derived.RangeFuncLeaves
import Derived.Defers
set_option linter.unusedSimpArgs false
set_option linter.unusedVariables false
namespace Go.Lg
open Go Go.RowKit
structure K8 (S:Nat->Prop) (W W':World):Prop where
 os:W'.os=W.os
 tape:W'.tape=W.tape
 output:W'.output=W.output
 size:W.heap.size<=W'.heap.size
 same:∀ k,k<W.heap.size->¬ S k->W'.heap[k]? = W.heap[k]?
theorem K8.refl (S:Nat->Prop) (W:World):K8 S W W:=⟨rfl,rfl,rfl,Nat.le_refl _,fun _ _ _=>rfl⟩
theorem K8.trans {S:Nat->Prop} {A B C:World} (h:K8 S A B) (k:K8 S B C):K8 S A C :=
 ⟨k.os.trans h.os,k.tape.trans h.tape,k.output.trans h.output,Nat.le_trans h.size k.size,fun i hi hs=>(k.same i (Nat.lt_of_lt_of_le hi h.size) hs).trans (h.same i hi hs)⟩
theorem K8.alloc (S:Nat->Prop) (W:World) (o:Obj):K8 S W (W.alloc o):=⟨rfl,rfl,rfl,by simp,fun k hk _=>Below.heap_alloc W o k hk⟩
theorem K8.putObj {S:Nat->Prop} {W:World} {l:Nat} (o:Obj) (h:S l):K8 S W (W.putObj l o):=⟨rfl,rfl,rfl,by simp,fun k _ hs=>World.putObj_heap_other (fun e=>hs (e ▸ h))⟩
theorem K8.mono {S S':Nat->Prop} {W W':World} (h:K8 S W W') (hs:∀ k,S k->S' k):K8 S' W W':=⟨h.os,h.tape,h.output,h.size,fun k hk hn=>h.same k hk fun hk2=>hn (hs k hk2)⟩
def Ab (S:Nat->Prop) (J:World->Prop):Prop:=∀ W W',J W->K8 S W W'->J W'
def q4R (K:Nat->Prop) (W W':World):Prop:=W.heap.size<=W'.heap.size/\∀ k,K k->k<W.heap.size->W'.heap[k]? = W.heap[k]?
def qDj {α:Type} (P:Program) (g:Nat) (lb:Array Value) (enc:α->Value) (S:Nat->Prop) (xs:List α) (C:World->Prop):Prop :=
 ∀ (l:Nat) (J Jx:List α->World->Prop) (W:World),C W->(∀ s,Ab S (J s))->(∀ s,Ab S (Jx s)) ->
  (∀ pre x W1,pre++[x] <+: xs->J pre W1->YieldAt Fence.wide 0 P l #[enc x] W1 fun e W' =>
   (e=.returned (.bool true)/\J (pre++[x]) W'/\q4R S W1 W')\/(e=.returned (.bool false)/\Jx (pre++[x]) W')) ->
  J [] W ->
  CallsIn Fence.wide 0 P g (#[.func (.yield l) #[] #[]]++lb) W fun e W'=>(∃ v,e=.returned v)/\(J xs W'\/∃ pre,Jx pre W')
def qKM {α:Type} (K:Nat->Prop) (I:List α->World->Prop) (Ix:Code->List α->World->Prop) (xs:List α) (W:World):Exit->Act->World->Prop
 | .normal,_,W'=>q4R K W W'/\I xs W'
 | .ret,_,W'=>q4R K W W'/\Ix .ret xs W'
 | .exit id,_,W'=>q4R K W W'/\Ix (.exit id) xs W'
 | _,_,_=>False
theorem qCf {α:Type} {P:Program} {g:Operand} {ps:Array Tmp} {assign body:Code} {Q:Exit->Act->World->Prop} {a:Act} {w:World}
  {gf:Nat} {lb:Array Value} (hg:a.eval g=.func (.func gf) #[] lb) (eg:∀ args w,(callFunc gf args).run P w=.ok (.enter gf args) w)
  {enc:α->Value} {S:Nat->Prop} {xs:List α} {C:World->Prop} (hseq:qDj P gf lb enc S xs C) (hS:∀ k,S k->k<w.heap.size)
  (hC:∀ W',(∀ k,k<w.heap.size->W'.heap[k]? = w.heap[k]?)->C W') (hps:ps.size=1)
  (I:List α->World->Prop) (Ix:Code->List α->World->Prop) (hI:∀ s,Ab (fun k=>S k\/k=w.heap.size\/k=w.heap.size+1) (I s)) (hIx:∀ c s,Ab (fun k=>S k\/k=w.heap.size\/k=w.heap.size+1) (Ix c s)) (h0:I [] w) (a₁:α->Act)
  (hassign:∀ (l:Nat) (x:α) (W:World) (K:Act->World->Prop),K (a₁ x) W ->
   assign.wpIn (FR l) 0 P (Exit.then K (fun _ _ _=>False)) { tmps:=(ps.zip #[enc x]).foldl (fun t (p,v)=>t.setIfInBounds p v) a.tmps,defers:=[] } W)
  (hbody:∀ (l:Nat) (pre:List α) (x:α) (W:World),pre++[x] <+: xs->I pre W->w.heap.size+1<W.heap.size->body.wpIn (FR l) 0 P (qKM (fun k=>S k\/k=w.heap.size\/k=w.heap.size+1) I Ix (pre++[x]) W) (a₁ x) W)
  (hdone:∀ (W:World),I xs W->W.heap[w.heap.size]? = some (.deferred (some []))->Q .normal { a with defers:={ target:=.collected w.heap.size,args:=#[] }::a.defers } W)
  (hstop:∀ (c:Code) (pre:List α) (W:World),Ix c pre W->W.heap[w.heap.size]? = some (.deferred (some []))->c.wpIn Fence.wide 0 P Q { a with defers:={ target:=.collected w.heap.size,args:=#[] }::a.defers } W) :
  (Code.rangeFunc g ps assign body).wp P Q a w:=by
 refine(wpIn_wide (n:=0)).1 ?_
 refine wpIn_rangeFunc ?_
 intro fn hfn
 obtain⟨rec,hrec⟩:∃ rec:LoopState->Option Code->Loop,rec=fun st pe=>{ state:=st,pending:=pe,fn,tmps:=a.tmps,params:=ps,assign,body,defers:=w.heap.size }:=⟨_,rfl⟩
 obtain⟨W1,hW1⟩:∃ W1,(w.alloc (.deferred (some []))).alloc (.loop (rec .ready none))=W1:=⟨_,rfl⟩
 have hL1:W1.heap[w.heap.size+1]? = some (.loop (rec .ready none)):=by
  rw[<- hW1];have:=World.alloc_heap_new (w.alloc (.deferred (some []))) (.loop (rec .ready none));rwa [World.size_alloc]at this
 have hK1:W1.heap[w.heap.size]? = some (.deferred (some [])):=by
  rw[<- hW1];exact(Below.heap_alloc _ _ _ (by simp)).trans (World.alloc_heap_new w _)
 have hI1:I [] W1:=by rw[<- hW1];exact hI _ _ _ (hI _ _ _ h0 (K8.alloc _ _ _)) (K8.alloc _ _ _)
 have hC1:C W1:=hC W1 fun k hk=>by rw[<- hW1];exact(Below.heap_alloc _ _ _ (by simp;omega)).trans (Below.heap_alloc _ _ _ hk)
 refine⟨w.heap.size+1,[{ target:=.collected w.heap.size,args:=#[] }],W1,{ target:=.fn (.func gf) lb,args:=#[.func (.yield (w.heap.size+1)) #[] #[]] },W1,gf,
  #[.func (.yield (w.heap.size+1)) #[] #[]]++lb,W1,?_,?_,?_,?_,(fun hh=>by cases hh),?_⟩
 ·rw[<- hW1,hrec];exact run_enterLoop_outer _ _ _ _ _
 ·simp only[resolve,hg]
  simp[go_sem]
 ·intro f' hf';trivial
 ·simp[invoke,go_sem,eg]
 ·have hSl:∀ k,S k->k≠w.heap.size+1:=fun k hk=>by have:=hS k hk;omega
  have hSd:∀ k,S k->k≠w.heap.size:=fun k hk=>by have:=hS k hk;omega
  have kp:∀ {A B:World} {o:Obj} (k:Nat),¬ S k->K8 S A B->A.heap[k]? = some o->B.heap[k]? = some o:=fun k hk ht ho=>(ht.same k (Array.getElem?_eq_some_iff.1 ho).1 hk).trans ho
  refine(hseq (w.heap.size+1)
   (fun pre W=>I pre W/\W.heap[w.heap.size+1]? = some (.loop (rec .ready none))/\W.heap[w.heap.size]? = some (.deferred (some [])))
   (fun pre W=>∃ c,Ix c pre W/\W.heap[w.heap.size+1]? = some (.loop (rec .done (some c)))/\W.heap[w.heap.size]? = some (.deferred (some [])))
   W1 hC1
   (fun s A B hs ht=>⟨hI s A B hs.1 (ht.mono fun k hk=>.inl hk),kp _ (fun h=>hSl _ h rfl) ht hs.2.1,kp _ (fun h=>hSd _ h rfl) ht hs.2.2⟩)
   (fun s A B hs ht=>by
    obtain⟨c,hc,hl,hk⟩:=hs
    exact⟨c,hIx c s A B hc (ht.mono fun k hk=>.inl hk),kp _ (fun h=>hSl _ h rfl) ht hl,kp _ (fun h=>hSd _ h rfl) ht hk⟩)
   ?_ ⟨hI1,hL1,hK1⟩).mono ?_
  ·rintro pre x W hpx ⟨hi,hl,hk⟩
   have hlt:w.heap.size+1<W.heap.size:=(Array.getElem?_eq_some_iff.1 hl).1
   have hy:=run_yield (P:=P) (args:=#[enc x]) hl (by rw[hrec];simp[hps])
   rw[hrec]at hy
   refine⟨fn,_,assign,body,hy,roundIn_of_wpIn hfn (hassign _ x W _ ⟨_,run_beginRound hl (by rw[hrec]),?_⟩)⟩
   have hl2:(W.putObj (w.heap.size+1) (.loop { rec .ready none with state:=.busy })).heap[w.heap.size+1]? = some (.loop { rec .ready none with state:=.busy }):=World.putObj_heap_same hlt
   have hk2:(W.putObj (w.heap.size+1) (.loop { rec .ready none with state:=.busy })).heap[w.heap.size]? = some (.deferred (some [])):=(World.putObj_heap_other (by omega)).trans hk
   refine wpIn_mono (hbody _ pre x _ hpx (hI _ _ _ hi (K8.putObj _ (.inr (.inr rfl)))) (by simpa using hlt)) ?_
   have fin:∀ (jump:Option Code) (W3:World),q4R (fun k=>S k\/k=w.heap.size\/k=w.heap.size+1) (W.putObj (w.heap.size+1) (.loop { rec .ready none with state:=.busy })) W3 ->
     (Instr.endRound (w.heap.size+1) jump).run P W3=.ok (.bool jump.isNone) (W3.putObj (w.heap.size+1) (.loop (rec (if jump.isNone then .ready else .done) jump))) /\
     (W3.putObj (w.heap.size+1) (.loop (rec (if jump.isNone then .ready else .done) jump))).heap[w.heap.size+1]? = some (.loop (rec (if jump.isNone then .ready else .done) jump)) /\
     (W3.putObj (w.heap.size+1) (.loop (rec (if jump.isNone then .ready else .done) jump))).heap[w.heap.size]? = some (.deferred (some [])) /\
     q4R S W (W3.putObj (w.heap.size+1) (.loop (rec (if jump.isNone then .ready else .done) jump))):=fun jump W3 hk3=>by
    have hl3:=(hk3.2 _ (.inr (.inr rfl)) (by simpa using hlt)).trans hl2
    have:=run_endRound (P:=P) jump hl3
    rw[hrec]at this ⊢
    refine⟨this,World.putObj_heap_same (Array.getElem?_eq_some_iff.1 hl3).1,(World.putObj_heap_other (by omega)).trans ((hk3.2 _ (.inr (.inl rfl)) (by simp;omega)).trans hk2),by have:=hk3.1;simpa using this,fun k hs hkl=>?_⟩
    exact(World.putObj_heap_other (hSl k hs)).trans ((hk3.2 k (.inl hs) (by simpa using hkl)).trans (World.putObj_heap_other (hSl k hs)))
   rintro e a3 W3 hp
   cases e with
   | normal =>
    obtain⟨hk3,hi3⟩:=hp
    obtain⟨hr,hl4,hk4,hkk⟩:=fin none W3 hk3
    exact⟨_,_,hr,.inl ⟨rfl,⟨hI _ _ _ hi3 (K8.putObj _ (.inr (.inr rfl))),hl4,hk4⟩,hkk⟩⟩
   | ret =>
    obtain⟨hk3,hi3⟩:=hp
    obtain⟨hr,hl4,hk4,hkk⟩:=fin (some .ret) W3 hk3
    exact⟨_,_,hr,.inr ⟨rfl,.ret,hIx _ _ _ _ hi3 (K8.putObj _ (.inr (.inr rfl))),hl4,hk4⟩⟩
   | exit id =>
    obtain⟨hk3,hi3⟩:=hp
    obtain⟨hr,hl4,hk4,hkk⟩:=fin (some (.exit id)) W3 hk3
    exact⟨_,_,hr,.inr ⟨rfl,.exit id,hIx _ _ _ _ hi3 (K8.putObj _ (.inr (.inr rfl))),hl4,hk4⟩⟩
   | goto t=>exact hp.elim
   | panic ch=>exact hp.elim
   | outgrown=>exact hp.elim
  ·rintro e W2 ⟨⟨v,rfl⟩,(⟨hi,hl,hk⟩|⟨pre,c,hi,hl,hk⟩)⟩
   ·exact⟨none,_,by have:=run_endLoop (P:=P) hl (by rw[hrec];simp);rw[hrec]at this;exact this,hdone _ (hI _ _ _ hi (K8.putObj _ (.inr (.inr rfl)))) ((World.putObj_heap_other (by omega)).trans hk)⟩
   ·exact⟨some c,_,by have:=run_endLoop (P:=P) hl (by rw[hrec];simp);rw[hrec]at this;exact this,hstop c pre _ (hIx _ _ _ _ hi (K8.putObj _ (.inr (.inr rfl)))) ((World.putObj_heap_other (by omega)).trans hk)⟩
section
variable {P:Program} {Γ:Tables} {w0:World} {B N l n:Nat} {κ:Be} {X:Nat->Prop} {μ:Be} {st:St} {tm:Array Value} {W:World}
theorem B0.turn {S:Nat->Prop} {W':World} (h:B0 w0 B κ X μ st tm W) (ht:K8 S W W') (hB:∀ k,S k->B<=k) (hX:∀ k,S k->¬ X k) (hμ:∀ id g n,st.sh id≠none->μ id=some (g,n)->¬ S g):B0 w0 B κ X μ st tm W':=by
 have hs:Same X W W':=fun b hx=>ht.same b (h.xlt b hx) fun hk=>hX b hk hx
 refine⟨fun t a hta=>(h.env t a hta).mono hs (fun _ hb=>hb) (fun id q hq=>⟨hq,rfl⟩),fun id r hr=>(h.reg id r hr).mono hs (fun _ hb=>hb) (fun id q hq=>⟨hq,rfl⟩) rfl ?_,h.inj,?_,h.kap,h.kbig,fun b hx=>Nat.lt_of_lt_of_le (h.xlt b hx) ht.size,
  ht.os.trans h.os,ht.tape.trans h.tape,ht.output.trans h.output,Nat.le_trans h.size ht.size,fun k hk hn=>(ht.same k (Nat.lt_of_lt_of_le hk h.size) fun hs=>by have:=hB k hs;omega).trans (h.fr k hk hn)⟩
 ·intro g n hm
  have hid:st.sh id≠none:=by simp[St.sh,hr]
  exact ht.same g (h.loc id g n hid hm).2.1 (hμ id g n hid hm)
 ·intro id g n hi hm
  obtain⟨h1,h2,h3⟩:=h.loc id g n hi hm
  exact⟨h1,Nat.lt_of_lt_of_le h2 ht.size,h3⟩
theorem Gl.turn {S:Nat->Prop} {W':World} (h:Gl Γ W X) (hx:∀ b,X b->b<W.heap.size) (ht:K8 S W W') (hX:∀ k,S k->¬ X k):Gl Γ W' X :=
 h.mono (fun b hb=>ht.same b (hx b hb) fun hk=>hX b hk hb) fun _ hb=>hb
theorem qFh {c:IC} {d:Code} {rs:List Nat} {Qb:AX->St->Prop} (hN:N<=1000000) (hm:P.follows .mixedOrders=true) (hc:Cj P N c d=true) (hsc:noS c=true) (hsim:B0 w0 B κ X μ st tm W) (hg:Gl Γ W X)
  {env:List (Nat×AV)} {tms:Array Value} (henv:∀ t a,A2 env t=some a->AR W X (Gm μ st rs) (St.sh ⟨[],Ba rs st.hp⟩) a (tms.getD t undef)) (htm:tms.size=N) (h:W6 P Γ c Qb ⟨env,Ba rs st.hp⟩) :
  d.wpIn (FR l) n P (fun e _ W'=>∃ x s',e=x.to/\Qb x s'/\∃ X' μ',B0 W W.heap.size (Gm μ st rs) X' μ' ⟨[],s'.hp⟩ #[] W'/\Gl Γ W' X'/\(∀ b,X b->X' b)/\(∀ b,X' b->X b\/W.heap.size<=b\/∃ id n,Gm μ st rs id=some (b,n)))
   { tmps:=tms,defers:=[] } W:=by
 have hh:=hsim.hand rs
 have hI:Inv Γ W W.heap.size (Gm μ st rs) X N ⟨env,Ba rs st.hp⟩ { tmps:=tms,defers:=[] } W :=
  ⟨X,Gm μ st rs,⟨henv,hh.reg,hh.inj,hh.loc,hh.kap,hh.kbig,hh.xlt,hh.os,hh.tape,hh.output,hh.size,hh.fr⟩,hg,fun _ hb=>hb,fun _ hb=>.inl hb,htm,rfl⟩
 refine wpIn_mono (Dt hN hm hc hI h hsc) ?_
 rintro e a' W' ⟨x,s',rfl,⟨X',μ',hs',hg',h0',hbd',_,_⟩,hq⟩
 exact⟨x,s',rfl,hq,X',μ',⟨fun t a ht=>by simp[A2]at ht,hs'.reg,hs'.inj,hs'.loc,hs'.kap,hs'.kbig,hs'.xlt,hs'.os,hs'.tape,hs'.output,hs'.size,hs'.fr⟩,hg',h0',hbd'⟩
def RI (Γ:Tables) (w0:World) (B:Nat) (κ:Be) (X0:Nat->Prop) (tm:Array Value) (S:Nat->Prop) (s:St) (W:World):Prop :=
 ∃ X μ,B0 w0 B κ X μ s tm W/\Gl Γ W X/\(∀ b,X0 b->X b)/\(∀ b,X b->X0 b\/B<=b\/∃ id n,κ id=some (b,n))/\(∀ k,S k->¬ X k)/\∀ id g n,s.sh id≠none->μ id=some (g,n)->¬ S g
theorem RI.ab {X0 S:Nat->Prop} {s:St} (hB:∀ k,S k->B<=k):Ab S (RI Γ w0 B κ X0 tm S s):=fun W W' ⟨X,μ,h1,h2,h3,h4,h5,h6⟩ ht=>⟨X,μ,h1.turn ht hB h5 h6,h2.turn h1.xlt ht h5,h3,h4,h5,h6⟩
theorem RI.back {X0 S:Nat->Prop} {s:St} {W':World} {rs:List Nat} {base:Nat} {hp':List (Nat×Aj)} {X':Nat->Prop} {μ':Be} (hnd:rs.Nodup) (hsim:B0 w0 B κ X μ s tm W) (hg:Gl Γ W X) (h0:∀ b,X0 b->X b)
  (hbd:∀ b,X b->X0 b\/B<=b\/∃ id n,κ id=some (b,n)) (hSX:∀ k,S k->¬ X k) (hSμ:∀ id g n,s.sh id≠none->μ id=some (g,n)->¬ S g) (hS:∀ k,S k->k<W.heap.size)
  (hs':B0 W W.heap.size (Gm μ s rs) X' μ' ⟨[],hp'⟩ #[] W') (hg':Gl Γ W' X') (hX:∀ b,X b->X' b) (hX':∀ b,X' b->X b\/W.heap.size<=b\/∃ id n,Gm μ s rs id=some (b,n)) (hok:Qf rs base s.hp hp') :
  RI Γ w0 B κ X0 tm S (C6 rs base hp' s) W'/\q4R S W W':=by
 obtain⟨h1,h2,h3⟩:=hsim.back hnd hs' hok hX hX'
 refine⟨⟨X',_,h1,hg',fun b hb=>hX b (h0 b hb),fun b hb=>?_,fun k hk hxk=>?_,fun id g n hid hm hk=>?_⟩,hs'.size,fun k hk hlt=>hs'.fr k hlt fun id n hkc=>?_⟩
 ·rcases hX' b hb with hb|hb|⟨id,n,hk⟩
  ·exact hbd b hb
  ·exact .inr (.inl (Nat.le_trans hsim.size hb))
  ·obtain⟨t',h8,h9,h10⟩:=D2 hk
   rcases Nat.lt_or_ge b B with hlt|hge
   ·obtain⟨id',n',hq⟩:=(hsim.loc t' b n h9 h10).2.2 hlt
    exact .inr (.inr ⟨id',n',hq⟩)
   ·exact .inr (.inl hge)
 ·rcases hX' k hxk with hb|hb|⟨id,n,hkk⟩
  ·exact hSX k hk hb
  ·have:=hS k hk;omega
  ·obtain⟨t',h8,h9,h10⟩:=D2 hkk
   exact hSμ t' k n h9 h10 hk
 ·unfold Kz at hm
  split at hm
  ·rename_i hc
   have hsid:St.sh ⟨[],hp'⟩ (id-base)≠none:=by
    have:=hc.2.2
    simp only[St.sh]
    cases hl:A2 hp' (id-base) with
    | none=>exact absurd hl this
    | some r=>simp
   have hl:=hs'.loc (id-base) g n hsid hm
   have hgs:=hS g hk
   obtain⟨id',n',hkc⟩:=hl.2.2 hgs
   obtain⟨t',h8,h9,h10⟩:=D2 hkc
   exact hSμ t' g n' h9 h10 hk
  ·rename_i hc
   have hsid:s.sh id≠none:=by
    intro hn
    apply hid
    simp only[St.sh,C6,B8,q0Y,Il]
    have hl:A2 s.hp id=none:=by
     simp only[St.sh]at hn
     cases hl:A2 s.hp id with
     | none=>rfl
     | some r=>rw[hl]at hn;simp at hn
    have hnn:(if base<=id/\id-base<1000000 then(A2 hp' (id-base)).map (Bj fun i=>some (P2 rs base i))else none)=none:=by
     split
     ·rename_i hb
      cases hq:A2 hp' (id-base) with
      | none=>rfl
      | some r=>exact absurd ⟨hb.1,hb.2,by simp[hq]⟩ hc
     ·rfl
    rw[hnn,hl]
    simp
   exact hSμ id g n hsid hm hk
 ·obtain⟨t',h8,h9,h10⟩:=D2 hkc
  exact hSμ t' k n h9 h10 hk
theorem q3F:∀ hp:List (Nat×Aj),∃ M,1000000<=M/\∀ id,A2 hp id≠none->id<M
 | []=>⟨1000000,Nat.le_refl _,fun id h=>absurd rfl h⟩
 | (k,v)::hp=>by
  obtain⟨M,h1,h2⟩:=q3F hp
  refine⟨M+k+1,by omega,fun id h=>?_⟩
  simp only[A2]at h
  split at h
  ·omega
  ·have:=h2 id h;omega
def swK (μ:Be) (s:St) (M:Nat):Be:=fun id=>if 1000000<=id/\s.sh id≠none then μ id else if M<=id/\s.sh (id-M)≠none then μ (id-M)else none
theorem W7 {s:St} {M:Nat} (hM:1000000<=M) {id:Nat} {q:Nat×Nat} (h:swK μ s M id=some q):1000000<=id/\∃ j,s.sh j≠none/\μ j=some q:=by
 unfold swK at h
 split at h
 ·rename_i hc;exact⟨hc.1,id,hc.2,h⟩
 ·split at h
  ·rename_i hc;exact⟨Nat.le_trans hM hc.1,id-M,hc.2,h⟩
  ·cases h
theorem qFi {s:St} {M:Nat} (hlt:∀ id,A2 s.hp id≠none->id<M) {j:Nat} {q:Nat×Nat} (hj:s.sh j≠none) (hm:μ j=some q):∃ id,swK μ s M id=some q:=by
 refine⟨M+j,?_⟩
 have hn:s.sh (M+j)=none:=by
  rw[St.sh_none]
  exact Classical.byContradiction fun h=>by have:=hlt _ h;omega
 unfold swK
 rw[if_neg (fun hc=>hc.2 hn),if_pos ⟨Nat.le_add_right _ _,by rw[Nat.add_sub_cancel_left];exact hj⟩,Nat.add_sub_cancel_left]
 exact hm
theorem B0.switch {s:St} {M:Nat} (h:B0 w0 B κ X μ s tm W) (hM:1000000<=M) (hlt:∀ id,A2 s.hp id≠none->id<M):B0 W W.heap.size (swK μ s M) X μ s tm W :=
 ⟨h.env,h.reg,h.inj,fun id g n hi hm=>⟨(h.loc id g n hi hm).1,(h.loc id g n hi hm).2.1,fun _=>by obtain⟨id',e⟩:=qFi hlt hi hm;exact⟨id',n,e⟩⟩,
  fun id hk hi=>by unfold swK;rw[if_pos ⟨hk,hi⟩],fun id q hq=>(W7 hM hq).1,h.xlt,rfl,rfl,rfl,Nat.le_refl _,fun _ _ _=>rfl⟩
theorem B0.unswitch {s s2:St} {M:Nat} {X2:Nat->Prop} {μ2:Be} {tm2:Array Value} {W2:World} (h:B0 w0 B κ X μ s tm W) (hM:1000000<=M) (h2:B0 W W.heap.size (swK μ s M) X2 μ2 s2 tm2 W2)
  (hnew:∀ id,1000000<=id->A2 s2.hp id≠none->A2 s.hp id≠none):B0 w0 B κ X2 μ2 s2 tm2 W2:=by
 refine⟨h2.env,h2.reg,h2.inj,fun id g n hi hm=>?_,fun id hk hi=>?_,h.kbig,h2.xlt,h2.os.trans h.os,h2.tape.trans h.tape,h2.output.trans h.output,Nat.le_trans h.size h2.size,fun k hk hn=>?_⟩
 ·obtain⟨h3,h4,h5⟩:=h2.loc id g n hi hm
  refine⟨h3,h4,fun hg=>?_⟩
  obtain⟨id',n',e⟩:=h5 (Nat.lt_of_lt_of_le hg h.size)
  obtain⟨_,j,hj,hmj⟩:=W7 hM e
  exact(h.loc j g n' hj hmj).2.2 hg
 ·have hs:s.sh id≠none:=fun e=>hnew id hk (fun e2=>hi (St.sh_none.2 e2)) (St.sh_none.1 e)
  have h3:=h2.kap id hk hi
  unfold swK at h3
  rw[if_pos ⟨hk,hs⟩]at h3
  rw[h3]
  exact h.kap id hk hs
 ·refine(h2.fr k (Nat.lt_of_lt_of_le hk h.size) fun id n e=>?_).trans (h.fr k hk hn)
  obtain⟨_,j,hj,hmj⟩:=W7 hM e
  obtain⟨id',n',e'⟩:=(h.loc j k n hj hmj).2.2 hk
  exact hn id' n' e'
theorem B0.unswitchX {s:St} {M:Nat} {X0 X2:Nat->Prop} (h:B0 w0 B κ X μ s tm W) (hM:1000000<=M) (hbd:∀ b,X b->X0 b\/B<=b\/∃ id n,κ id=some (b,n))
  (h2:∀ b,X2 b->X b\/W.heap.size<=b\/∃ id n,swK μ s M id=some (b,n)):∀ b,X2 b->X0 b\/B<=b\/∃ id n,κ id=some (b,n):=fun b hb=>by
 rcases h2 b hb with hb|hb|⟨id,n,e⟩
 ·exact hbd b hb
 ·exact .inr (.inl (Nat.le_trans h.size hb))
 ·obtain⟨_,j,hj,hmj⟩:=W7 hM e
  rcases Nat.lt_or_ge b B with hlt|hge
  ·obtain⟨id',n',e'⟩:=(h.loc j b n hj hmj).2.2 hlt
   exact .inr (.inr ⟨id',n',e'⟩)
  ·exact .inr (.inl hge)
def q1Y (Γ:Tables) (s s1:St):Prop:=Imp Γ s s1/\∀ id,1000000<=id->A2 s1.hp id≠none->A2 s.hp id≠none
theorem q1Y.refl (s:St):q1Y Γ s s:=⟨Imp.refl s,fun _ _ h=>h⟩
theorem q1Y.trans {s s1 s2:St} (h:q1Y Γ s s1) (h2:q1Y Γ s1 s2):q1Y Γ s s2:=⟨h.1.trans h2.1,fun id hk hi=>h.2 id hk (h2.2 id hk hi)⟩
theorem RI.imp {X0 S:Nat->Prop} {s s1:St} (h:RI Γ w0 B κ X0 tm S s W) (hi:q1Y Γ s s1) (hS:∀ k,S k->k<W.heap.size):RI Γ w0 B κ X0 tm S s1 W:=by
 obtain⟨X,μ,h1,h2,h3,h4,h5,h6⟩:=h
 obtain⟨M,hM,hlt⟩:=q3F s.hp
 have hsw:=h1.switch hM hlt
 obtain⟨X',μ',k1,k2,k3,k4,_,_⟩:=hi.1 [] W W.heap.size (swK μ s M) X tm.size ⟨tm,[]⟩ W ⟨X,μ,hsw,h2,fun _ hb=>hb,fun _ hb=>.inl hb,rfl,rfl⟩
 have out:∀ k n id,S k->swK μ s M id≠some (k,n):=fun k n id hk e=>by
  obtain⟨_,j,hj,hmj⟩:=W7 hM e
  exact h6 j k n hj hmj hk
 refine⟨X',μ',h1.unswitch hM k1 hi.2,k2,fun b hb=>k3 b (h3 b hb),h1.unswitchX hM h4 k4,fun k hk hx=>?_,fun id g n hid hm hk=>?_⟩
 ·rcases k4 k hx with h|h|⟨id,n,e⟩
  ·exact h5 k hk h
  ·have:=hS k hk;omega
  ·exact out k n id hk e
 ·obtain⟨id',n',e⟩:=(k1.loc id g n hid hm).2.2 (hS g hk)
  exact out g n' id' hk e
def q3G (Γ:Tables) (rs:List Nat) (base:Nat) (s s1:St) (G:Prop) (sx:AX->St) (L:AX->Prop):AX->St->Prop
 | .normal,s'=>G/\Qf rs base s.hp s'.hp/\q1Y Γ (C6 rs base s'.hp s) s1
 | x,s'=>L x/\Qf rs base s.hp s'.hp/\q1Y Γ (C6 rs base s'.hp s) (sx x)
def qFj (enc:Value) (tm tms:Array Value) (rs:List Nat) (s:St) (env:List (Nat×AV)):Prop :=
 ∀ t a,A2 env t=some a->(a=.t (.v enc)/\tms.getD t undef=enc)\/∃ a0,A2 s.env t=some a0/\a=Ag (Uc rs) a0/\tms.getD t undef=tm.getD t undef
theorem q97 {α:Type} {g:Operand} {ps:Array Tmp} {assign body:Code} {Q:Exit->Act->World->Prop} {a:Act} {w:World} {c:IC} {X0:Nat->Prop}
  (hN:N<=1000000) (hm:P.follows .mixedOrders=true) (hc:Cj P N c body=true) (hsc:noS c=true)
  {gf:Nat} {lb:Array Value} (hg:a.eval g=.func (.func gf) #[] lb) (eg:∀ args w,(callFunc gf args).run P w=.ok (.enter gf args) w)
  {enc:α->Value} {S:Nat->Prop} {xs:List α} {C:World->Prop} (hseq:qDj P gf lb enc S xs C) (hS:∀ k,S k->k<w.heap.size/\B<=k)
  (hC:∀ W',(∀ k,k<w.heap.size->W'.heap[k]? = w.heap[k]?)->C W') (hps:ps.size=1)
  (s:List α->St) (G:List α->Prop) (hG:G []) (sx:List α->AX->St) (L:List α->AX->Prop) (h0:RI Γ w0 B κ X0 a.tmps S (s []) w) (tms:α->Array Value) (htm:∀ x,(tms x).size=N)
  (hassign:∀ (l:Nat) (x:α) (W:World) (K:Act->World->Prop),K { tmps:=tms x,defers:=[] } W ->
   assign.wpIn (FR l) 0 P (Exit.then K (fun _ _ _=>False)) { tmps:=(ps.zip #[enc x]).foldl (fun t (p,v)=>t.setIfInBounds p v) a.tmps,defers:=[] } W)
  (hround:∀ pre x,pre++[x] <+: xs->G pre->∃ rs base env,rs.Nodup/\qFj (enc x) a.tmps (tms x) rs (s pre) env/\W6 P Γ c (q3G Γ rs base (s pre) (s (pre++[x])) (G (pre++[x])) (sx (pre++[x])) (L (pre++[x]))) ⟨env,Ba rs (s pre).hp⟩)
  (hdone:∀ (W:World),G xs->RI Γ w0 B κ X0 a.tmps (fun k=>S k\/k=w.heap.size\/k=w.heap.size+1) (s xs) W->W.heap[w.heap.size]? = some (.deferred (some []))->Q .normal { a with defers:={ target:=.collected w.heap.size,args:=#[] }::a.defers } W)
  (hret:∀ (pre:List α) (W:World),L pre .ret->RI Γ w0 B κ X0 a.tmps (fun k=>S k\/k=w.heap.size\/k=w.heap.size+1) (sx pre .ret) W->W.heap[w.heap.size]? = some (.deferred (some []))->Q .ret { a with defers:={ target:=.collected w.heap.size,args:=#[] }::a.defers } W)
  (hexit:∀ (i:Nat) (pre:List α) (W:World),L pre (.exit i)->RI Γ w0 B κ X0 a.tmps (fun k=>S k\/k=w.heap.size\/k=w.heap.size+1) (sx pre (.exit i)) W->W.heap[w.heap.size]? = some (.deferred (some []))->Q (.exit i) { a with defers:={ target:=.collected w.heap.size,args:=#[] }::a.defers } W) :
  (Code.rangeFunc g ps assign body).wp P Q a w:=by
 have hS':∀ k,(S k\/k=w.heap.size\/k=w.heap.size+1)->B<=k:=by
  obtain⟨X,μ,hs,_⟩:=h0
  rintro k (h|rfl|rfl)
  ·exact(hS k h).2
  ·exact hs.size
  ·exact Nat.le_succ_of_le hs.size
 have h0':RI Γ w0 B κ X0 a.tmps (fun k=>S k\/k=w.heap.size\/k=w.heap.size+1) (s []) w:=by
  obtain⟨X,μ,h1,h2,h3,h4,h5,h6⟩:=h0
  refine⟨X,μ,h1,h2,h3,h4,?_,?_⟩
  ·rintro k (h|rfl|rfl) hx
   ·exact h5 k h hx
   ·have:=h1.xlt _ hx;omega
   ·have:=h1.xlt _ hx;omega
  ·rintro id g n hid hmm (h|h|h)
   ·exact h6 id g n hid hmm h
   ·have:=(h1.loc id g n hid hmm).2.1;omega
   ·have:=(h1.loc id g n hid hmm).2.1;omega
 refine qCf hg eg hseq (fun k hk=>(hS k hk).1) hC hps (fun pre W=>G pre/\RI Γ w0 B κ X0 a.tmps (fun k=>S k\/k=w.heap.size\/k=w.heap.size+1) (s pre) W)
  (fun c pre W=>∃ x:AX,(x=.ret/\c=.ret\/∃ i,x=.exit i/\c=.exit i)/\L pre x/\RI Γ w0 B κ X0 a.tmps (fun k=>S k\/k=w.heap.size\/k=w.heap.size+1) (sx pre x) W)
  (fun pre W W' h ht=>⟨h.1,RI.ab hS' _ _ h.2 ht⟩) (fun c pre W W' ⟨x,h1,hl,h2⟩ ht=>⟨x,h1,hl,RI.ab hS' _ _ h2 ht⟩) ⟨hG,h0'⟩ (fun x=>{ tmps:=tms x,defers:=[] }) hassign ?_ ?_ ?_
 ·rintro l pre x W hpx ⟨hGp,X,μ,h1,h2,h3,h4,h5,h6⟩ hlt
  obtain⟨rs,base,env,hnd,hsl,haw⟩:=hround pre x hpx hGp
  have hSW:∀ k,(S k\/k=w.heap.size\/k=w.heap.size+1)->k<W.heap.size:=by
   rintro k (h|rfl|rfl)
   ·have:=(hS k h).1;omega
   ·omega
   ·exact hlt
  refine wpIn_mono (qFh (rs:=rs) hN hm hc hsc h1 h2 (fun t av hav=>?_) (htm x) haw) ?_
  ·rcases hsl t av hav with⟨rfl,he⟩|⟨a0,ha0,rfl,he⟩
   ·rw[he];exact .t _ _ (.v _)
   ·rw[he]
    have:=W5 (rs:=rs) h1 (as:=[a0]) (xs:=[a.tmps.getD t undef]) ⟨rfl,fun k b y hb hy=>by
     cases k with
     | zero=>simp at hb hy;subst hb;subst hy;simpa using h1.env t _ ha0
     | succ k=>simp at hb⟩
    exact this.2 0 _ _ rfl rfl
  ·rintro e a' W' ⟨x',s',rfl,hq,X',μ',k1,k2,k3,k4⟩
   have hSW':∀ k,(S k\/k=w.heap.size\/k=w.heap.size+1)->k<W'.heap.size:=fun k hk=>Nat.lt_of_lt_of_le (hSW k hk) k1.size
   cases x' with
   | normal =>
    obtain⟨hGn,hok,hs1⟩:=hq
    obtain⟨r1,r2⟩:=RI.back hnd h1 h2 h3 h4 h5 h6 hSW k1 k2 k3 k4 hok
    exact⟨r2,hGn,r1.imp hs1 hSW'⟩
   | ret =>
    obtain⟨hL,hok,hs1⟩:=hq
    obtain⟨r1,r2⟩:=RI.back hnd h1 h2 h3 h4 h5 h6 hSW k1 k2 k3 k4 hok
    exact⟨r2,.ret,.inl ⟨rfl,rfl⟩,hL,r1.imp hs1 hSW'⟩
   | exit i =>
    obtain⟨hL,hok,hs1⟩:=hq
    obtain⟨r1,r2⟩:=RI.back hnd h1 h2 h3 h4 h5 h6 hSW k1 k2 k3 k4 hok
    exact⟨r2,.exit i,.inr ⟨i,rfl,rfl⟩,hL,r1.imp hs1 hSW'⟩
 ·intro W h1 h2
  exact hdone W h1.1 h1.2 h2
 ·rintro c pre W ⟨x,(⟨rfl,rfl⟩|⟨i,rfl,rfl⟩),hL,h1⟩ h2
  ·exact wpIn_ret (hret pre W hL h1 h2)
  ·exact wpIn_exit (hexit i pre W hL h1 h2)
end
end Go.Lg
namespace Go.Lg
open Go
inductive RV where
 | tmp (t:Nat)
 | cell (t n:Nat) (g:Bool)
def q98 (P:Program):RV->ResultVar->Bool
 | .tmp t,.tmp u=>t==u
 | .cell t n g,.cell u ty=>t==u&&Ic P ty==some n&&Vx P ty==some g&&(g||n==1)
 | _,_=>false
def C4 (P:Program):List RV->List ResultVar->Bool
 | [],[]=>true
 | a::as,b::bs=>q98 P a b&&C4 P as bs
 | _,_=>false
def q2F (s:St):RV->Option (Prop×AV)
 | .tmp t=>(A2 s.env t).map fun a=>(True,a)
 | .cell t n g=>match A2 s.env t with
  | some (.lp id _ k)=>match A2 s.hp id with
   | some (.bx cs)=>some (k+n<=cs.length,Je g ((cs.drop k).take n))
   | _=>none
  | _=>none
def q1Z (s:St) (rv:RV):Option (Prop×T):=(q2F s rv).bind fun q=>(Aq s.hp 4 q.2).map fun t=>(q.1,t)
def S4 (s:St):List RV->Option (Prop×T)
 | []=>some (True,.tup [])
 | [a]=>q1Z s a
 | [a,b]=>(q1Z s a).bind fun p=>(q1Z s b).map fun q=>(p.1/\q.1,.tup [p.2,q.2])
 | [a,b,c]=>(q1Z s a).bind fun p=>(q1Z s b).bind fun q=>(q1Z s c).map fun r=>(p.1/\q.1/\r.1,.tup [p.2,q.2,r.2])
 | [a,b,c,d]=>(q1Z s a).bind fun p=>(q1Z s b).bind fun q=>(q1Z s c).bind fun r=>(q1Z s d).map fun u=>(p.1/\q.1/\r.1/\u.1,.tup [p.2,q.2,r.2,u.2])
 | _=>none
def Ax (P:Program) (f:FuncId) (ic:IC) (N n:Nat) (rvs:List RV):Bool:=match P.funcs[f]? with
 | some fn=>(match fn.body with|some c=>Cj P N ic c|none=>false) && !(fn.name == "runtime.NumGoroutine")&&fn.ntmps==N&&decide (N<=1000000)&&decide (n<=N)&&C4 P rvs fn.results.toList&&P.follows .mixedOrders
 | none=>false
def params:Nat->List T->List (Nat×AV)
 | _,[]=>[]
 | k,t::ts=>(k,.t t)::params (k+1) ts
theorem q99 {ts:List T}:∀ {k i:Nat} {a:AV},A2 (params k ts) i=some a->k<=i/\∃ t,ts[i-k]? = some t/\a=.t t:=by
 induction ts with
 | nil=>intro k i a h;simp[params,A2]at h
 | cons t ts ih =>
  intro k i a h
  simp only[params,A2]at h
  split at h
  ·rename_i e;subst e;simp only[Option.some.injEq]at h;subst h;exact⟨Nat.le_refl _,t,by simp,rfl⟩
  ·obtain⟨h1,u,h2,h3⟩:=ih h
   refine⟨by omega,u,?_,h3⟩
   have:i-k=i-(k+1)+1:=by omega
   rw[this];simpa using h2
def qKN (rvs:List RV) (res:T):AX->St->Prop
 | .exit _,_=>False
 | _,s=>∃ c,S4 s rvs=some (c,res)/\c
section
variable {P:Program} {Γ:Tables} {w0:World} {B:Nat} {κ:Be} {X0 X:Nat->Prop} {μ:Be} {st:St} {N:Nat} {a:Act} {w:World} {tm:Array Value}
def q7E (tm:Array Value):ResultVar->Go.Sem Value
 | .tmp t=>pure (tm.getD t undef)
 | .cell a t=>do loadVar t (<- asAddr (tm.getD a undef))
theorem Xx (h:B0 w0 B κ X μ st tm w) {rv:RV} {r:ResultVar} (hc:q98 P rv r=true) {c:Prop} {x:AV} (hr:q2F st rv=some (c,x)) (hcc:c):∃ v,(q7E tm r).run P w=.ok v w/\AR w X μ st.sh x v:=by
 cases rv with
 | tmp t =>
  cases r<;>simp[q98]at hc
  subst hc
  simp only[q2F,Option.map_eq_some_iff,Prod.mk.injEq]at hr
  obtain⟨b,hb,_,rfl⟩:=hr
  exact⟨_,rfl,h.env t b hb⟩
 | cell t n g =>
  cases r<;>simp[q98]at hc
  rename_i u ty
  obtain⟨⟨⟨rfl,hz⟩,ha⟩,hn⟩:=hc
  have hn:(g||n==1)=true:=by simpa using hn
  simp only[q2F]at hr
  split at hr
  ·rename_i id i k hl0
   split at hr
   ·rename_i cs hl
    simp only[Option.some.injEq,Prod.mk.injEq]at hr
    obtain⟨rfl,rfl⟩:=hr
    obtain⟨gb,m,hm,hp⟩:=(h.env t _ hl0).lp_inv
    rcases hp with⟨s,q,hs,_⟩|⟨hs,rfl,he⟩
    ·rw[By hl]at hs;cases hs
    obtain⟨h1,g',arr,ty',hm',hheap,hsz,hr⟩:=h.reg id _ hl
    rw[hm]at hm';cases hm'
    have hr:Gf w X μ st.sh cs arr.toList:=⟨by simp[hsz],fun k a x h2 h3=>hr k a x h2 (by simpa using h3)⟩
    have h1:Aw cs=true:=List.all_eq_true.2 fun t ht=>by obtain⟨j,hj,rfl⟩:=List.getElem_of_mem ht;exact h1 j _ (by simp[hj])
    have hlen:((arr.toList.drop k).take n).length=n:=by simp;omega
    refine⟨if g then .agg ((arr.toList.drop k).take n).toArray else((arr.toList.drop k).take n).headD undef,?_,Z6 ((hr.drop k).take n) (Vz h1 k n) (by rw[hlen];exact hn)⟩
    have hrun:=Xk (P:=P) (w:=w) hz ha hn (b:=gb) (off:=k) hlen (fun j x hj=>by
     rw[List.getElem?_take]at hj
     split at hj
     ·rw[List.getElem?_drop]at hj
      rw[cell_of_row w gb _ arr ty' (0,0) hheap];simpa using hj
     ·cases hj)
    have e:q7E tm (.cell t ty)=(Instr.loadAt ty (.pointer (some ⟨gb,k,none⟩))):=by
     simp only[q7E,he,asAddr,Instr.loadAt,Instr.sureAddr]
    rw[e];exact hrun
   ·cases hr
  ·cases hr
theorem Pg (h:B0 w0 B κ X μ st tm w) {rv:RV} {r:ResultVar} (hc:q98 P rv r=true) {c:Prop} {t:T} (hr:q1Z st rv=some (c,t)) (hcc:c):∃ v,(q7E tm r).run P w=.ok v w/\TR w (fun b=>X b\/q7t st μ b) t v:=by
 simp only[q1Z,Option.bind_eq_some_iff,Option.map_eq_some_iff,Prod.mk.injEq]at hr
 obtain⟨⟨c',x⟩,hq,t',ht,rfl,rfl⟩:=hr
 obtain⟨v,h1,h2⟩:=Xx h hc hq hcc
 exact⟨v,h1,q5A h 4 h2 ht⟩
theorem q9A (h:B0 w0 B κ X μ st tm w) {fn:Func} {rvs:List RV} (hc:C4 P rvs fn.results.toList=true) {c:Prop} {res:T} (hr:S4 st rvs=some (c,res)) (hcc:c) :
  ∃ v,(results fn tm).run P w=.ok v w/\TR w (fun b=>X b\/q7t st μ b) res v:=by
 have hres:results fn tm=(do let vs <- fn.results.mapM (q7E tm);pure (if h:vs.size=1 then vs[0]else .tuple vs)):=rfl
 have hfr:fn.results=fn.results.toList.toArray:=by simp
 generalize hl:fn.results.toList=l at hc hfr
 match rvs,l,hc with
 | [],[],_ =>
  simp only[S4,Option.some.injEq,Prod.mk.injEq]at hr
  obtain⟨rfl,rfl⟩:=hr
  exact⟨.tuple #[],by rw[hres,hfr];simp,TR.mk_tup (Ds.nil _ _)⟩
 | [a],[x],hc =>
  simp only[C4,Bool.and_eq_true]at hc
  obtain⟨v,h1,h2⟩:=Pg h hc.1 hr hcc
  exact⟨v,by rw[hres,hfr];simp[h1],h2⟩
 | [a,b],[x,y],hc =>
  simp only[C4,Bool.and_eq_true]at hc
  simp only[S4,Option.bind_eq_some_iff,Option.map_eq_some_iff,Prod.mk.injEq]at hr
  obtain⟨p,hp,q,hq,rfl,rfl⟩:=hr
  obtain⟨v,h1,h2⟩:=Pg h hc.1 hp hcc.1
  obtain⟨u,h3,h4⟩:=Pg h hc.2.1 hq hcc.2
  exact⟨.tuple #[v,u],by rw[hres,hfr];simp[h1,h3],TR.mk_tup (Ds.cons h2 (Ds.cons h4 (Ds.nil _ _)))⟩
 | [a,b,d],[x,y,z],hc =>
  simp only[C4,Bool.and_eq_true]at hc
  simp only[S4,Option.bind_eq_some_iff,Option.map_eq_some_iff,Prod.mk.injEq]at hr
  obtain⟨p,hp,q,hq,r,hr,rfl,rfl⟩:=hr
  obtain⟨v,h1,h2⟩:=Pg h hc.1 hp hcc.1
  obtain⟨u,h3,h4⟩:=Pg h hc.2.1 hq hcc.2.1
  obtain⟨z,h5,h6⟩:=Pg h hc.2.2.1 hr hcc.2.2
  exact⟨.tuple #[v,u,z],by rw[hres,hfr];simp[h1,h3,h5],TR.mk_tup (Ds.cons h2 (Ds.cons h4 (Ds.cons h6 (Ds.nil _ _))))⟩
 | [a,b,d,e],[x,y,z,u],hc =>
  simp only[C4,Bool.and_eq_true]at hc
  simp only[S4,Option.bind_eq_some_iff,Option.map_eq_some_iff,Prod.mk.injEq]at hr
  obtain⟨p,hp,q,hq,r,hr,u,hu,rfl,rfl⟩:=hr
  obtain⟨v,h1,h2⟩:=Pg h hc.1 hp hcc.1
  obtain⟨u,h3,h4⟩:=Pg h hc.2.1 hq hcc.2.1
  obtain⟨z,h5,h6⟩:=Pg h hc.2.2.1 hr hcc.2.2.1
  obtain⟨y,h7,h8⟩:=Pg h hc.2.2.2.1 hu hcc.2.2.2
  exact⟨.tuple #[v,u,z,y],by rw[hres,hfr];simp[h1,h3,h5,h7],TR.mk_tup (Ds.cons h2 (Ds.cons h4 (Ds.cons h6 (Ds.cons h8 (Ds.nil _ _)))))⟩
 | _::_::_::_::_::_,_,_=>simp[S4]at hr
 | [_,_,_,_],[_],hc=>simp[C4]at hc
 | [_,_,_,_],[_,_],hc=>simp[C4]at hc
 | [_,_,_,_],[_,_,_],hc=>simp[C4]at hc
 | [_,_,_,_],_::_::_::_::_::_,hc=>simp[C4]at hc
 | [],_::_,hc=>simp[C4]at hc
 | _::_,[],hc=>simp[C4]at hc
 | [_],_::_::_,hc=>simp[C4]at hc
 | [_,_],[_],hc=>simp[C4]at hc
 | [_,_],_::_::_::_,hc=>simp[C4]at hc
 | [_,_,_],[_],hc=>simp[C4]at hc
 | [_,_,_],[_,_],hc=>simp[C4]at hc
 | [_,_,_],_::_::_::_::_,hc=>simp[C4]at hc
theorem Zo {f:FuncId} {ic:IC} {n:Nat} {rvs:List RV} (hc:Ax P f ic N n rvs=true) (vs:Array Value):(callFunc f vs).run P w=.ok (.enter f vs) w:=by
 unfold Ax at hc
 split at hc
 ·rename_i fn hf
  simp only[Bool.and_eq_true,Bool.not_eq_true']at hc
  obtain⟨⟨⟨⟨⟨⟨h1,h2⟩,h3⟩,h4⟩,h5⟩,h6⟩,h7⟩:=hc
  cases hb:fn.body with
  | none=>rw[hb]at h1;cases h1
  | some c =>
   have h2':¬ fn.name = "runtime.NumGoroutine" := by simpa using h2
   simp[callFunc,hf,h2',hb]
 ·cases hc
theorem Inv.start {ts:List T} {vs:List Value} (hg:Gl Γ w X) (hx:∀ b,X b->b<w.heap.size) (hts:Ds w X ts vs) (hn:vs.length<=N) :
  Inv Γ w w.heap.size (fun _=>none) X N ⟨params 0 ts,[]⟩ { tmps:=vs.toArray++Array.replicate (N-vs.toArray.size) undef,defers:=[] } w:=by
 refine⟨X,fun _=>none,⟨?_,fun id r h=>by simp[A2]at h,fun _ _ _ _ _ _ _ h=>(by cases h),fun _ _ _ _ h=>(by cases h),fun _ _ _=>rfl,fun _ _ h=>(by cases h),hx,rfl,rfl,rfl,Nat.le_refl _,fun _ _ _=>rfl⟩,hg,fun _ h=>h,fun _ h=>.inl h,?_,rfl⟩
 ·intro t a ht
  obtain⟨_,u,hu,rfl⟩:=q99 ht
  obtain⟨x,h1,h2⟩:=hts.get hu
  simp only[Nat.sub_zero]at h1
  have hlt:t<vs.length:=(List.getElem?_eq_some_iff.1 h1).1
  have:(vs.toArray++Array.replicate (N-vs.toArray.size) undef).getD t undef=x:=by
   rw[Array.getD_eq_getD_getElem?,Array.getElem?_append_left (by simpa using hlt)]
   simp[h1]
  rw[this];exact .t _ _ h2
 ·simp;omega
theorem q5P {f:FuncId} {ic:IC} {n:Nat} {rvs:List RV} {args:List T} {res:T} (hc:Ax P f ic N n rvs=true) (hn:args.length=n) (h:W6 P Γ ic (qKN rvs res) ⟨params 0 args,[]⟩):An P Γ f args res:=by
 intro w X vs hg hx hts
 refine .inl ⟨Zo hc _,?_⟩
 unfold Ax at hc
 split at hc
 case h_2=>cases hc
 rename_i fn hf
 simp only[Bool.and_eq_true,Bool.not_eq_true',decide_eq_true_eq,beq_iff_eq]at hc
 obtain⟨⟨⟨⟨⟨⟨h1,h2⟩,h3⟩,h4⟩,h5⟩,h6⟩,h7⟩:=hc
 cases hb:fn.body with
 | none=>rw[hb]at h1;cases h1
 | some c =>
  rw[hb]at h1
  subst h3
  refine calls_of_wp hf hb ?_
  have hI:=Inv.start (N:=fn.ntmps) hg hx hts (by rw[<- hts.1,hn];exact h5)
  refine wp_mono (Jh h4 h7 h1 hI h) ?_
  rintro e a w' ⟨x,s,rfl,⟨X',μ,hsim,hg',h0,hbd,hsz,hds⟩,hq⟩
  have fin:∀ c,S4 s rvs=some (c,res)->c->a.defers=[]/\∃ v,(results fn a.tmps).run P w'=.ok v w'/\∃ u,Ending.returned v=.returned u/\RowKit.Below w.heap.size w w'/\TR w' (fun b=>X b\/(w.heap.size<=b/\b<w'.heap.size)) res u:=by
   intro c hr hcc
   obtain⟨v,h8,h9⟩:=q9A hsim h6 hr hcc
   refine⟨hds,v,h8,v,rfl,⟨hsim.os,hsim.tape,hsim.output,hsim.size,fun k hk=>hsim.fr k hk (fun id n h=>by cases h)⟩,h9.mono (fun _ _=>rfl) fun b hb=>?_⟩
   rcases hb with hb|⟨id,n,hi,hm⟩
   ·rcases hbd b hb with h|h|⟨_,_,h⟩
    ·exact .inl h
    ·exact .inr ⟨h,hsim.xlt b hb⟩
    ·cases h
   ·obtain⟨_,h10,h11⟩:=hsim.loc id b n hi hm
    refine .inr ⟨?_,h10⟩
    rcases Nat.lt_or_ge b w.heap.size with h|h
    ·obtain⟨_,_,h⟩:=h11 h;cases h
    ·exact h
  cases x with
  | normal=>obtain⟨c,hr,hcc⟩:=hq;exact fin c hr hcc
  | ret=>obtain⟨c,hr,hcc⟩:=hq;exact fin c hr hcc
  | exit i=>exact hq.elim
def Gx:AV->Prop
 | .t x=>Df x=true
 | .ag cs=>∀ c∈cs,match c with
  | .t x=>Df x=true
  | .fn _ cs=>cs=[]
  | _=>True
 | .fn _ cs=>cs=[]
 | .tu cs=>∀ c∈cs,match c with
  | .t x=>Df x=true
  | .fn _ cs=>cs=[]
  | .ag ds=>∀ d∈ds,match d with
   | .t x=>Df x=true
   | .fn _ cs=>cs=[]
   | _=>True
  | _=>True
 | _=>True
def Ph:Aj->Prop
 | .sl _ _ es=>∀ e∈es,∀ t∈e,Df t=true
 | .bx cs=>∀ c∈cs,Gx c
 | .rs _ _ es=>∀ e∈es,∀ a∈e,Gx a
 | .mr es=>∀ e∈es,Gx e.2
 | .mp es=>∀ e∈es,Df e.2=true
 | .it _ _=>True
def J1 {α:Type} (p:α->Prop):List (Nat×α)->Prop
 | []=>True
 | x::l=>p x.2/\J1 p l
theorem q1a {α:Type} {p:α->Prop}:∀ {l:List (Nat×α)} {t:Nat} {a:α},J1 p l->A2 l t=some a->p a
 | [],_,_,_,h=>by simp[A2]at h
 | (k,v)::l,t,a,h,hl=>by
  simp only[A2]at hl
  split at hl
  ·simp only[Option.some.injEq]at hl;subst hl;exact h.1
  ·exact q1a h.2 hl
def Ek (s:St):Prop:=J1 Gx s.env/\J1 Ph s.hp
theorem q2G {sh:Nat->Option Sh} {a:AV} {x:Value} {Y:Nat->Prop} (h:AR w X μ sh a x) (hf:Gx a):AR w Y μ sh a x:=by
 have key:∀ {c:AV} {y:Value},AR w X μ sh c y->Bo c=true->(match c with | .t x=>Df x=true | .fn _ cs=>cs=[] | _=>True)->AR w Y μ sh c y:=by
  intro c y h hna hf
  cases h with
  | t y v hy=>exact .t _ _ (q59 hy hf)
  | fn f cs xs hlen hrel=>simp only at hf;subst hf;exact .fn f [] xs hlen (fun k a x h=>by simp at h)
  | ag=>simp[Bo]at hna
  | tu=>simp[Bo]at hna
  | lsnil i s n hs hm oa cap hq=>exact .lsnil i s n hs hm oa cap hq
  | ls i off len s n g m c cap hs hm hle hlc hcm hfit hfull hq ad had=>exact .ls i off len s n g m c cap hs hm hle hlc hcm hfit hfull hq ad had
  | lpsl i j k s n g m hs hm=>exact .lpsl i j k s n g m hs hm
  | lpbx i k g m hs hm=>exact .lpbx i k g m hs hm
  | lm i g m hs hm=>exact .lm i g m hs hm
  | lb i g m hs hm hle=>exact .lb i g m hs hm hle
  | li i g m hs hm=>exact .li i g m hs hm
  | dead v h=>exact .dead _ h
  | un=>exact .un
 by_cases hg:Bo a=true
 ·refine key h hg ?_
  cases a<;>first|exact hf|exact True.intro|simp[Bo]at hg
 ·cases a with
  | ag cs =>
   obtain⟨xs,rfl,h1,hr⟩:=h.ag_inv
   exact AR.mk_ag h1 ⟨hr.1,fun k c y hc hy=>key (hr.2 k c y hc hy) (Vw (K5 h1 hc)) (hf c (List.mem_of_getElem? hc))⟩
  | tu cs =>
   obtain⟨xs,rfl,h1,hr⟩:=h.tu_inv
   refine AR.mk_tu h1 ⟨hr.1,fun k c y hc hy=>?_⟩
   have hcf:=hf c (List.mem_of_getElem? hc)
   by_cases hn:Bo c=true
   ·refine key (hr.2 k c y hc hy) hn ?_
    cases c<;>first|exact hcf|exact True.intro|simp[Bo]at hn
   ·cases c with
    | ag ds =>
     obtain⟨ys,rfl,h2,hr2⟩:=(hr.2 k _ y hc hy).ag_inv
     exact AR.mk_ag h2 ⟨hr2.1,fun k c y hc hy=>key (hr2.2 k c y hc hy) (Vw (K5 h2 hc)) (hcf c (List.mem_of_getElem? hc))⟩
    | tu ds=>cases h1 k _ hc
    | _=>exact absurd rfl hn
  | _=>exact absurd rfl hg
theorem B0.flat (h:B0 w0 B κ X μ st tm w) (hf:Ek st):B0 w0 B κ (fun _=>False) μ st tm w:=by
 refine⟨fun t a ht=>q2G (h.env t a ht) (q1a hf.1 ht),?_,h.inj,fun id g n hi hm=>⟨fun h=>h,(h.loc id g n hi hm).2⟩,h.kap,h.kbig,fun _ h=>h.elim,h.os,h.tape,h.output,h.size,h.fr⟩
 intro id r hr
 have hfr:=q1a hf.2 hr
 have:=h.reg id r hr
 cases r with
 | sl ty s es =>
  refine⟨this.1,this.2.imp (fun h=>h) fun⟨g,arr,hm,hg,hle,hr⟩=>⟨g,arr,hm,hg,hle,fun i k e t x h1 h2 h3=>q59 (hr i k e t x h1 h2 h3) (hfr e (List.mem_of_getElem? h1) t (List.mem_of_getElem? h2))⟩⟩
 | it s pos=>exact this
 | mr es =>
  obtain⟨g,n,clock,ms,hm,hg,hbo,hle,hr⟩:=this
  exact⟨g,n,clock,ms,hm,hg,hbo,hle,fun i e m h1 h2=>⟨(hr i e m h1 h2).1,q2G (hr i e m h1 h2).2 (hfr e (List.mem_of_getElem? h1))⟩⟩
 | mp es =>
  obtain⟨g,n,clock,ms,hm,hg,hle,hr⟩:=this
  exact⟨g,n,clock,ms,hm,hg,hle,fun i e m h1 h2=>⟨(hr i e m h1 h2).1,q59 (hr i e m h1 h2).2 (hfr e (List.mem_of_getElem? h1))⟩⟩
 | rs ty s es =>
  exact⟨this.1,this.2.imp (fun h=>h) fun⟨g,arr,hm,hg,hle,hr⟩=>⟨g,arr,hm,hg,hle,fun i k e a x h1 h2 h3=>q2G (hr i k e a x h1 h2 h3) (hfr e (List.mem_of_getElem? h1) a (List.mem_of_getElem? h2))⟩⟩
 | bx cs =>
  obtain⟨h1,g,arr,ty,hm,hg,hle,hr⟩:=this
  exact⟨h1,g,arr,ty,hm,hg,hle,fun k a x ha hx=>q2G (hr k a x ha hx) (hfr a (List.mem_of_getElem? ha))⟩
def qGc (rvs:List RV) (res:T):AX->St->Prop
 | .exit _,_=>False
 | _,s=>∃ c,S4 s rvs=some (c,res)/\c/\Ek s
theorem q45 {f:FuncId} {ic:IC} {n:Nat} {rvs:List RV} {args:List T} {res:T} (hc:Ax P f ic N n rvs=true) (hn:args.length=n) (h:W6 P Γ ic (qGc rvs res) ⟨params 0 args,[]⟩):A6 P Γ f args res:=by
 intro w X vs hg hx hts
 refine .inl ⟨Zo hc _,?_⟩
 unfold Ax at hc
 split at hc
 case h_2=>cases hc
 rename_i fn hf
 simp only[Bool.and_eq_true,Bool.not_eq_true',decide_eq_true_eq,beq_iff_eq]at hc
 obtain⟨⟨⟨⟨⟨⟨h1,h2⟩,h3⟩,h4⟩,h5⟩,h6⟩,h7⟩:=hc
 cases hb:fn.body with
 | none=>rw[hb]at h1;cases h1
 | some c =>
  rw[hb]at h1
  subst h3
  refine calls_of_wp hf hb ?_
  have hI:=Inv.start (N:=fn.ntmps) hg hx hts (by rw[<- hts.1,hn];exact h5)
  refine wp_mono (Jh h4 h7 h1 hI h) ?_
  rintro e a w' ⟨x,s,rfl,⟨X',μ,hsim,hg',h0,hbd,hsz,hds⟩,hq⟩
  have fin:∀ c,S4 s rvs=some (c,res)->c->Ek s->a.defers=[]/\∃ v,(results fn a.tmps).run P w'=.ok v w'/\∃ u,Ending.returned v=.returned u/\RowKit.Below w.heap.size w w'/\TR w' (fun b=>w.heap.size<=b/\b<w'.heap.size) res u:=by
   intro c hr hcc hfl
   obtain⟨v,h8,h9⟩:=q9A (hsim.flat hfl) h6 hr hcc
   refine⟨hds,v,h8,v,rfl,⟨hsim.os,hsim.tape,hsim.output,hsim.size,fun k hk=>hsim.fr k hk (fun id n h=>by cases h)⟩,h9.mono (fun _ _=>rfl) fun b hb=>?_⟩
   rcases hb with hb|⟨id,n,hi,hm⟩
   ·exact hb.elim
   ·obtain⟨_,h10,h11⟩:=hsim.loc id b n hi hm
    refine⟨?_,h10⟩
    rcases Nat.lt_or_ge b w.heap.size with h|h
    ·obtain⟨_,_,h⟩:=h11 h;cases h
    ·exact h
  cases x with
  | normal=>obtain⟨c,hr,hcc,hfl⟩:=hq;exact fin c hr hcc hfl
  | ret=>obtain⟨c,hr,hcc,hfl⟩:=hq;exact fin c hr hcc hfl
  | exit i=>exact hq.elim
def Xy:Nat->List AV->List (Nat×AV)
 | _,[]=>[]
 | k,a::as=>(k,a)::Xy (k+1) as
theorem q0d {ts:List AV}:∀ {k i:Nat} {a:AV},A2 (Xy k ts) i=some a->k<=i/\ts[i-k]? = some a:=by
 induction ts with
 | nil=>intro k i a h;simp[Xy,A2]at h
 | cons t ts ih =>
  intro k i a h
  simp only[Xy,A2]at h
  split at h
  ·rename_i e;subst e;simp only[Option.some.injEq]at h;subst h;exact⟨Nat.le_refl _,by simp⟩
  ·obtain⟨h1,h2⟩:=ih h
   refine⟨by omega,?_⟩
   have:i-k=i-(k+1)+1:=by omega
   rw[this];simpa using h2
def toN (a:AV):AV:=match toT a with
 | some x=>.t x
 | none=>a
theorem q5Q {Y:Nat->Prop} {μ:Be} {sh:Nat->Option Sh} {w:World} {p:AV} {v:Value} (hp:AR w Y μ sh p v):AR w Y μ sh (toN p) v:=by
 unfold toN
 split
 ·rename_i x hx;exact .t _ _ (q51 hp hx)
 ·exact hp
def qFk (p q:AV):Option AV:=match toT p,toT q with
 | some x,some y=>some (.t (.tup [x,y]))
 | _,_=>if I9 (toN p)&&I9 (toN q)then some (.tu [toN p,toN q])else none
theorem qFl {Y:Nat->Prop} {μ:Be} {sh:Nat->Option Sh} {w:World} {p q r:AV} {v u:Value} (hp:AR w Y μ sh p v) (hq:AR w Y μ sh q u) (hr:qFk p q=some r):AR w Y μ sh r (.tuple #[v,u]):=by
 unfold qFk at hr
 split at hr
 ·rename_i x y hx hy
  simp only[Option.some.injEq]at hr;subst hr
  exact .t _ _ (TR.mk_tup (Ds.cons (q51 hp hx) (Ds.cons (q51 hq hy) (Ds.nil _ _))))
 ·split at hr
  ·rename_i h
   simp only[Bool.and_eq_true]at h
   simp only[Option.some.injEq]at hr;subst hr
   refine AR.mk_tu (cs:=[toN p,toN q]) (xs:=[v,u]) (fun k a ha=>?_) ⟨rfl,fun k a x ha hx=>?_⟩
   ·rcases k with _|_|k
    ·simp at ha;subst ha;exact h.1
    ·simp at ha;subst ha;exact h.2
    ·simp at ha
   ·rcases k with _|_|k
    ·simp at ha hx;subst ha;subst hx;exact q5Q hp
    ·simp at ha hx;subst ha;subst hx;exact q5Q hq
    ·simp at ha
  ·cases hr
def tri (p q u:AV):Option AV:=if I9 (toN p)&&I9 (toN q)&&I9 (toN u)then some (.tu [toN p,toN q,toN u])else none
theorem qHi {Y:Nat->Prop} {μ:Be} {sh:Nat->Option Sh} {w:World} {p q u r:AV} {v x y:Value} (hp:AR w Y μ sh p v) (hq:AR w Y μ sh q x) (hu:AR w Y μ sh u y) (hr:tri p q u=some r):AR w Y μ sh r (.tuple #[v,x,y]):=by
 unfold tri at hr
 split at hr
 ·rename_i h
  simp only[Bool.and_eq_true]at h
  simp only[Option.some.injEq]at hr;subst hr
  refine AR.mk_tu (cs:=[toN p,toN q,toN u]) (xs:=[v,x,y]) (fun k a ha=>?_) ⟨rfl,fun k a x ha hx=>?_⟩
  ·rcases k with _|_|_|k
   ·simp at ha;subst ha;exact h.1.1
   ·simp at ha;subst ha;exact h.1.2
   ·simp at ha;subst ha;exact h.2
   ·simp at ha
  ·rcases k with _|_|_|k
   ·simp at ha hx;subst ha;subst hx;exact q5Q hp
   ·simp at ha hx;subst ha;subst hx;exact q5Q hq
   ·simp at ha hx;subst ha;subst hx;exact q5Q hu
   ·simp at ha
 ·cases hr
def Vj (s:St):List RV->Option (Prop×AV)
 | []=>some (True,.t (.tup []))
 | [a]=>q2F s a
 | [a,b]=>(q2F s a).bind fun p=>(q2F s b).bind fun q=>(qFk p.2 q.2).map fun r=>(p.1/\q.1,r)
 | [a,b,c]=>(q2F s a).bind fun p=>(q2F s b).bind fun q=>(q2F s c).bind fun u=>(tri p.2 q.2 u.2).map fun r=>(p.1/\q.1/\u.1,r)
 | _=>none
def q0w (rvs:List RV) (res:AV) (hp':List (Nat×Aj)):AX->St->Prop
 | .exit _,_=>False
 | _,s=>∃ c,Vj s rvs=some (c,res)/\c/\s.hp=hp'
theorem q4o (h:B0 w0 B κ X μ st tm w) {fn:Func} {rvs:List RV} (hc:C4 P rvs fn.results.toList=true) {c:Prop} {res:AV} (hr:Vj st rvs=some (c,res)) (hcc:c) :
  ∃ v,(results fn tm).run P w=.ok v w/\AR w X μ st.sh res v:=by
 have hres:results fn tm=(do let vs <- fn.results.mapM (q7E tm);pure (if h:vs.size=1 then vs[0]else .tuple vs)):=rfl
 have hfr:fn.results=fn.results.toList.toArray:=by simp
 generalize hl:fn.results.toList=l at hc hfr
 match rvs,l,hc with
 | [],[],_ =>
  simp only[Vj,Option.some.injEq,Prod.mk.injEq]at hr
  obtain⟨rfl,rfl⟩:=hr
  exact⟨.tuple #[],by rw[hres,hfr];simp,.t _ _ (TR.mk_tup (Ds.nil _ _))⟩
 | [a],[x],hc =>
  simp only[C4,Bool.and_eq_true]at hc
  obtain⟨v,h1,h2⟩:=Xx h hc.1 hr hcc
  exact⟨v,by rw[hres,hfr];simp[h1],h2⟩
 | [a,b],[x,y],hc =>
  simp only[C4,Bool.and_eq_true]at hc
  simp only[Vj,Option.bind_eq_some_iff,Option.map_eq_some_iff,Prod.mk.injEq]at hr
  obtain⟨p,hp,q,hq,r',hr',rfl,rfl⟩:=hr
  obtain⟨v,h1,h2⟩:=Xx h hc.1 hp hcc.1
  obtain⟨u,h3,h4⟩:=Xx h hc.2.1 hq hcc.2
  exact⟨.tuple #[v,u],by rw[hres,hfr];simp[h1,h3],qFl h2 h4 hr'⟩
 | [a,b,d],[x,y,z],hc =>
  simp only[C4,Bool.and_eq_true]at hc
  simp only[Vj,Option.bind_eq_some_iff,Option.map_eq_some_iff,Prod.mk.injEq]at hr
  obtain⟨p,hp,q,hq,u,hu,r',hr',rfl,rfl⟩:=hr
  obtain⟨v1,h1,h2⟩:=Xx h hc.1 hp hcc.1
  obtain⟨v2,h3,h4⟩:=Xx h hc.2.1 hq hcc.2.1
  obtain⟨v3,h5,h6⟩:=Xx h hc.2.2.1 hu hcc.2.2
  exact⟨.tuple #[v1,v2,v3],by rw[hres,hfr];simp[h1,h3,h5],qHi h2 h4 h6 hr'⟩
 | _::_::_::_::_,_,_=>simp[Vj]at hr
 | [_,_,_],[],hc=>simp[C4]at hc
 | [_,_,_],[_],hc=>simp[C4]at hc
 | [_,_,_],[_,_],hc=>simp[C4]at hc
 | [_,_,_],_::_::_::_::_,hc=>simp[C4]at hc
 | [],_::_,hc=>simp[C4]at hc
 | _::_,[],hc=>simp[C4]at hc
 | [_],_::_::_,hc=>simp[C4]at hc
 | [_,_],[_],hc=>simp[C4]at hc
 | [_,_],_::_::_::_,hc=>simp[C4]at hc
theorem qBc {f:FuncId} {ic:IC} {n:Nat} {rvs:List RV} {args:List AV} {hp hp':List (Nat×Aj)} {res:AV} (hc:Ax P f ic N n rvs=true) (hn:args.length=n) (h:W6 P Γ ic (q0w rvs res hp') ⟨Xy 0 args,hp⟩):Bl P Γ f hp args res hp':=by
 intro w X κ vs hg hk hs hts
 refine .inl ⟨Zo hc _,?_⟩
 unfold Ax at hc
 split at hc
 case h_2=>cases hc
 rename_i fn hf
 simp only[Bool.and_eq_true,Bool.not_eq_true',decide_eq_true_eq,beq_iff_eq]at hc
 obtain⟨⟨⟨⟨⟨⟨h1,h2⟩,h3⟩,h4⟩,h5⟩,h6⟩,h7⟩:=hc
 cases hb:fn.body with
 | none=>rw[hb]at h1;cases h1
 | some c =>
  rw[hb]at h1
  subst h3
  refine calls_of_wp hf hb ?_
  have hlen:vs.length<=fn.ntmps:=by rw[<- hts.1,hn];exact h5
  have hI:Inv Γ w w.heap.size κ X fn.ntmps ⟨Xy 0 args,hp⟩ { tmps:=vs.toArray++Array.replicate (fn.ntmps-vs.toArray.size) undef,defers:=[] } w:=by
   refine⟨X,κ,⟨?_,hs.reg,hs.inj,hs.loc,hs.kap,hs.kbig,hs.xlt,rfl,rfl,rfl,Nat.le_refl _,fun _ _ _=>rfl⟩,hg,fun _ h=>h,fun _ h=>.inl h,?_,rfl⟩
   ·intro t a ht
    obtain⟨_,hu⟩:=q0d ht
    obtain⟨x,h1,h2⟩:=hts.get hu
    simp only[Nat.sub_zero]at h1
    have hlt:t<vs.length:=(List.getElem?_eq_some_iff.1 h1).1
    have:(vs.toArray++Array.replicate (fn.ntmps-vs.toArray.size) undef).getD t undef=x:=by
     rw[Array.getD_eq_getD_getElem?,Array.getElem?_append_left (by simpa using hlt)]
     simp[h1]
    rw[this];exact h2
   ·simp;omega
  refine wp_mono (Jh h4 h7 h1 hI h) ?_
  rintro e a w' ⟨x,s,rfl,⟨X',μ',hsim,hg',h0,hbd,hsz,hds⟩,hq⟩
  have fin:∀ c,Vj s rvs=some (c,res)->c->s.hp=hp'->a.defers=[]/\∃ v,(results fn a.tmps).run P w'=.ok v w'/\∃ u,Ending.returned v=.returned u /\
    ∃ X' μ',B0 w w.heap.size κ X' μ' ⟨[],hp'⟩ #[] w'/\AR w' X' μ' (St.sh ⟨[],hp'⟩) res u/\(∀ b,X b->X' b)/\(∀ b,X' b->X b\/w.heap.size<=b\/∃ id n,κ id=some (b,n)):=by
   intro c hr hcc hh
   obtain⟨v,h8,h9⟩:=q4o hsim h6 hr hcc
   subst hh
   exact⟨hds,v,h8,v,rfl,X',μ',⟨fun t a ht=>by simp[A2]at ht,hsim.reg,hsim.inj,hsim.loc,hsim.kap,hsim.kbig,hsim.xlt,hsim.os,hsim.tape,hsim.output,hsim.size,hsim.fr⟩,h9,h0,hbd⟩
  cases x with
  | normal=>obtain⟨c,hr,hcc,hh⟩:=hq;exact fin c hr hcc hh
  | ret=>obtain⟨c,hr,hcc,hh⟩:=hq;exact fin c hr hcc hh
  | exit i=>exact hq.elim
end
end Go.Lg
namespace Go.Lg
open Go Go.RowKit
section
variable {P:Program} {Γ:Tables} {w0:World} {B N:Nat} {κ:Be} {X0 X:Nat->Prop} {μ:Be} {st:St} {tm:Array Value} {W:World}
theorem q7F {L:List Nat} (hN:N<=1000000) (hL:∀ t∈L,1000000<=t) {ops:List Oper}:∀ {ros:List RO} {os:List Oper},Oh P N ops ros os=true->noD L ros=true
 | [],_,_=>rfl
 | ro::ros,[],h=>by simp[Oh]at h
 | ro::ros,o::os,h=>by
  simp only[Oh,Bool.and_eq_true]at h
  have ih:=q7F hN hL h.2
  unfold noD at ih ⊢
  rw[List.all_cons,ih,Bool.and_true]
  have h1:=h.1
  simp only[q3B,Bool.and_eq_true]at h1
  obtain⟨⟨⟨⟨⟨_,_⟩,_⟩,hd⟩,_⟩,_⟩:=h1
  cases hr:ro.dst with
  | none=>rfl
  | some d =>
   rw[hr]at hd
   simp only[decide_eq_true_eq]at hd
   simp only[Bool.not_eq_true',List.contains_eq_mem,decide_eq_false_iff_not]
   intro hm
   have:=hL d hm;omega
theorem Ji {L:List Nat} (hN:N<=1000000) (hL:∀ t∈L,1000000<=t):∀ {c:IC} {d:Code},Cj P N c d=true->noC L c=true
 | .skip,_,_=>rfl
 | .reg ros gs,d,h=>by
  cases d<;>simp only[Cj,Bool.false_eq_true]at h
  simp only[Bool.and_eq_true]at h
  exact q7F hN hL h.1
 | .seq a b,d,h=>by
  cases d<;>simp only[Cj,Bool.false_eq_true]at h
  simp only[Bool.and_eq_true]at h
  simp only[noC,Ji hN hL h.1,Ji hN hL h.2,Bool.and_self]
 | .cond x a b,d,h=>by
  cases d<;>simp only[Cj,Bool.false_eq_true]at h
  simp only[Bool.and_eq_true]at h
  simp only[noC,Ji hN hL h.1.2,Ji hN hL h.2,Bool.and_self]
 | .block i a,d,h=>by
  cases d<;>simp only[Cj,Bool.false_eq_true]at h
  simp only[Bool.and_eq_true]at h
  exact Ji (c:=a) hN hL h.2
 | .loop a,d,h=>by
  cases d<;>simp only[Cj,Bool.false_eq_true]at h
  exact Ji (c:=a) hN hL h
 | .exit _,_,_=>rfl
 | .ret,_,_=>rfl
 | .scope a,d,h=>by
  cases d<;>simp only[Cj,Bool.false_eq_true]at h
  exact Ji (c:=a) hN hL h
 | .gh a _,d,h=>by
  have h':Cj P N a d=true:=by cases d<;>simpa only[Cj]using h
  exact Ji (c:=a) hN hL h'
 | .ghW a,d,h=>by
  have h':Cj P N a d=true:=by cases d<;>simpa only[Cj]using h
  exact Ji (c:=a) hN hL h'
 | .pre _ a,d,h=>by
  have h':Cj P N a d=true:=by cases d<;>simpa only[Cj]using h
  exact Ji (c:=a) hN hL h'
 | .dead,_,_=>rfl
def qFm (Γ:Tables) (w0:World) (B:Nat) (κ:Be) (X0:Nat->Prop) (N:Nat) (ids:List Nat) (s':St) (a:Act) (w:World):Prop :=
 ∃ (W1:World) (s1:St) (X1:Nat->Prop) (μ1:Be) (M k:Nat) (tm1:Array Value),1000000<=M/\(∀ id,A2 s1.hp id≠none->id<M)/\B0 w0 B κ X1 μ1 s1 tm1 W1/\(∀ b,X0 b->X1 b)/\(∀ b,X1 b->X0 b\/B<=b\/∃ id n,κ id=some (b,n)) /\
  (∀ id∈ids,A2 s1.hp id≠none)/\W1.heap[k]? = some (.deferred (some []))/\(∀ j n,s1.sh j≠none->μ1 j≠some (k,n))/\¬ X1 k/\B<=k/\G3 [1000000000+k] Γ W1 W1.heap.size (swK μ1 s1 M) X1 N s' a w
theorem qFm.fin {ids:List Nat} {s':St} {a:Act} {w:World} (h:qFm Γ w0 B κ X0 N ids s' a w) (hnew:∀ id,1000000<=id->A2 s'.hp id≠none->id∈ids) :
  ∃ k,a.defers=[⟨.collected k,#[]⟩]/\w.heap[k]? = some (.deferred (some []))/\∃ X' μ',B0 w0 B κ X' μ' s' a.tmps (w.putObj k (.deferred none))/\Gl Γ (w.putObj k (.deferred none)) X'/\(∀ b,X0 b->X' b)/\(∀ b,X' b->X0 b\/B<=b\/∃ id n,κ id=some (b,n)):=by
 obtain⟨W1,s1,X1,μ1,M,k,tm1,hM,hlt,h1,h2,h3,hid,hk,hkμ,hkX,hkB,X',μ',k1,k2,k3,k4,k5,k6⟩:=h
 have hkl:k<W1.heap.size:=(Array.getElem?_eq_some_iff.1 hk).1
 have hout:∀ id n,swK μ1 s1 M id≠some (k,n):=fun id n e=>by
  obtain⟨_,j,hj,hmj⟩:=W7 hM e
  exact hkμ j n hj hmj
 have hkw:w.heap[k]? = some (.deferred (some [])):=(k1.fr k hkl hout).trans hk
 have hsim:=h1.unswitch hM k1 fun id hb hi=>hid id (hnew id hb hi)
 have hX'k:¬ X' k:=fun hx=>by
  rcases k4 k hx with h|h|⟨id,n,e⟩
  ·exact hkX h
  ·omega
  ·exact hout id n e
 have ht:K8 (fun b=>b=k) w (w.putObj k (.deferred none)):=K8.putObj _ rfl
 refine⟨k,?_,hkw,X',μ',hsim.turn ht (fun b hb=>by rw[hb];exact hkB) (fun b hb=>by rw[hb];exact hX'k) (fun id g n hid' hm hg=>?_),k2.turn hsim.xlt ht (fun b hb=>by rw[hb];exact hX'k),fun b hb=>k3 b (h2 b hb),h1.unswitchX hM h3 k4⟩
 ·rw[k6]
  simp[dfr]
 ·subst hg
  obtain⟨id',n',e⟩:=(k1.loc id g n hid' hm).2.2 hkl
  exact hout id' n' e
inductive SK where
 | rf
 | seqL (a:SK) (b:IC)
 | seqR (a:IC) (b:SK)
 | block (id:Nat) (a:SK)
 | scope (a:SK)
def qHj (p t:Nat):Code->Bool
 | .region _ ops false=>match ops.toList with
  | [o]=>decide (o.dst=some t)&&o.guard.isNone&&(match o.op with | .move (.tmp q) | .assign (.tmp q)=>q==p|_=>false)
  | _=>false
 | _=>false
def W8 (P:Program) (N:Nat) (g:Operand) (p t:Nat) (c:IC):SK->Code->Bool
 | .rf,.rangeFunc g' ps asg bd=>Av g g' && A9 g&&ps.toList==[p]&&qHj p t asg&&Cj P N c bd&&noS c&&decide (p<N)&&decide (t<N)
 | .seqL a b,.seq x y=>W8 P N g p t c a x&&Cj P N b y
 | .seqR a b,.seq x y=>Cj P N a x&&W8 P N g p t c b y
 | .block i a,.block j x=>i==j&&W8 P N g p t c a x
 | .scope a,.scope x=>W8 P N g p t c a x
 | _,_=>false
def q5R (P:Program) (Γ:Tables) (F R:St->Prop):SK->St->Prop
 | .rf,s=>F s
 | .seqL a _,s=>q5R P Γ F R a s
 | .seqR a b,s=>W6 P Γ a (fun e s=>match e with | .normal=>q5R P Γ F R b s | .ret=>R s | .exit _=>False) s
 | .block _ a,s=>q5R P Γ F R a s
 | .scope a,s=>q5R P Γ F R a s
def Zp (P:Program) (Γ:Tables):SK->(AX->St->Prop)->AX->St->Prop
 | .rf,Q=>Q
 | .seqL a b,Q=>Zp P Γ a (B1 (W6 P Γ b Q) Q)
 | .seqR _ b,Q=>Zp P Γ b Q
 | .block i a,Q=>Zp P Γ a (F2 i Q)
 | .scope a,Q=>Zp P Γ a Q
def qKO (P:Program) (Γ:Tables) (w0:World) (B:Nat) (κ:Be) (X0:Nat->Prop) (N:Nat) (ids:List Nat) (d:Code) (F:AX->St->Prop) (s:St):Prop :=
 ∀ (a:Act) (w:World) (Qc:Exit->Act->World->Prop),Inv Γ w0 B κ X0 N s a w->(∀ x s' a' w',F x s'->qFm Γ w0 B κ X0 N ids s' a' w'->Qc x.to a' w')->d.wp P Qc a w
theorem Zq {ids:List Nat} {g:Operand} {p t:Nat} {c:IC} {F:AX->St->Prop} {RFs:St->Prop} (hN:N<=1000000) (hm:P.follows .mixedOrders=true) (hrf:∀ d,W8 P N g p t c .rf d=true->∀ s,RFs s->qKO P Γ w0 B κ X0 N ids d F s) :
  ∀ {sk:SK} {d:Code} {Q:AX->St->Prop} {s:St} {a:Act} {w:World},W8 P N g p t c sk d=true->Inv Γ w0 B κ X0 N s a w->(∀ x s',F x s'->Zp P Γ sk Q x s')->q5R P Γ RFs (Q .ret) sk s ->
   d.wp P (fun e a w=>∃ x s,e=x.to/\Q x s/\(Inv Γ w0 B κ X0 N s a w\/qFm Γ w0 B κ X0 N ids s a w)) a w
 | .rf,d,Q,s,a,w,hc,hI,hF,hp=>hrf d hc s hp a w _ hI fun x s' a' w' hf hM=>⟨x,s',rfl,hF x s' hf,.inr hM⟩
 | .seqL x b,d,Q,s,a,w,hc,hI,hF,hp=>by
  cases d<;>simp only[W8,Bool.false_eq_true]at hc
  simp only[Bool.and_eq_true]at hc
  refine wp_seq (wp_mono (Zq hN hm hrf (sk:=x) (Q:=B1 (W6 P Γ b Q) Q) hc.1 hI hF hp) ?_)
  rintro e a w ⟨x,s,rfl,hq,hor⟩
  cases x with
  | normal =>
   rcases hor with hI|⟨W1,s1,X1,μ1,M,k,tm1,hM,hlt,h1,h2,h3,hid,hk,hkμ,hkX,hkB,hI⟩
   ·refine wp_mono (Jh hN hm (c:=b) hc.2 hI hq) ?_
    rintro e a w ⟨x,s,rfl,hI,hq⟩
    exact⟨x,s,rfl,hq,.inl hI⟩
   ·refine wp_mono (D3 hN hm (c:=b) hc.2 hI hq (Ji hN (fun t ht=>by simp at ht;omega) hc.2)) ?_
    rintro e a w ⟨x,s,rfl,hI,hq⟩
    exact⟨x,s,rfl,hq,.inr ⟨W1,s1,X1,μ1,M,k,tm1,hM,hlt,h1,h2,h3,hid,hk,hkμ,hkX,hkB,hI⟩⟩
  | exit i=>exact⟨_,s,rfl,hq,hor⟩
  | ret=>exact⟨_,s,rfl,hq,hor⟩
 | .seqR x b,d,Q,s,a,w,hc,hI,hF,hp=>by
  cases d<;>simp only[W8,Bool.false_eq_true]at hc
  simp only[Bool.and_eq_true]at hc
  refine wp_seq (wp_mono (Jh hN hm (c:=x) hc.1 hI hp) ?_)
  rintro e a w ⟨x,s,rfl,hI,hq⟩
  cases x with
  | normal=>exact Zq hN hm hrf (sk:=b) hc.2 hI hF hq
  | exit i=>exact hq.elim
  | ret=>exact⟨_,s,rfl,hq,.inl hI⟩
 | .block i x,d,Q,s,a,w,hc,hI,hF,hp=>by
  cases d<;>simp only[W8,Bool.false_eq_true]at hc
  simp only[Bool.and_eq_true,beq_iff_eq]at hc
  obtain⟨rfl,hc⟩:=hc
  refine wp_block (wp_mono (Zq hN hm hrf (sk:=x) (Q:=F2 i Q) hc hI hF hp) ?_)
  rintro e a w ⟨x,s,rfl,hq,hor⟩
  cases x with
  | normal=>exact⟨.normal,s,rfl,hq,hor⟩
  | ret=>exact⟨.ret,s,rfl,hq,hor⟩
  | exit j =>
   simp only[F2]at hq
   simp only[AX.to,Exit.inBlock]
   split
   ·rename_i hj;rw[if_pos hj]at hq;exact⟨.normal,s,rfl,hq,hor⟩
   ·rename_i hj;rw[if_neg hj]at hq;exact⟨.exit j,s,rfl,hq,hor⟩
 | .scope x,d,Q,s,a,w,hc,hI,hF,hp=>by
  cases d<;>simp only[W8,Bool.false_eq_true]at hc
  refine wp_scope_straight (wp_mono (Zq hN hm hrf (sk:=x) (Q:=Q) hc hI hF hp) ?_)
  rintro e a w ⟨x,s,rfl,hq,hor⟩
  cases x with
  | normal=>exact⟨.normal,s,rfl,hq,hor⟩
  | exit i=>exact⟨.exit i,s,rfl,hq,hor⟩
  | ret=>exact⟨.ret,s,rfl,hq,hor⟩
end
end Go.Lg
namespace Go.Lg
open Go Go.RowKit
section
variable {P:Program} {Γ:Tables} {w0:World} {B N:Nat} {κ:Be} {X0 X:Nat->Prop} {μ:Be} {st:St} {tm:Array Value} {W:World}
def qHk:AV->Option Value
 | .t (.v x)=>some x
 | .t (.fn f [])=>some (.func (.func f) #[] #[])
 | .fn f []=>some (fnV f [])
 | _=>none
theorem qFn {sh:Nat->Option Sh} {a:AV} {v x:Value} (h:AR W X μ sh a x) (hv:qHk a=some v):x=v:=by
 unfold qHk at hv
 split at hv<;>simp only[Option.some.injEq,reduceCtorEq]at hv
 ·subst hv;exact h.t_inv.v_inv
 ·subst hv
  have:=h.t_inv
  cases this with
  | fn f cs xs hlen hrel =>
   have:xs=[]:=List.eq_nil_of_length_eq_zero hlen.symm
   subst this;rfl
 ·subst hv
  cases h with
  | fn f cs xs hlen hrel =>
   have:xs=[]:=List.eq_nil_of_length_eq_zero hlen.symm
   subst this;rfl
def qHl (b:Nat):Value:=.pointer (some ⟨b,0,none⟩)
def qGd {α:Type} (P:Program) (gf:Nat) (vs:List Value) (enc:α->Value) (xs:List α):Prop :=
 ∀ bl:List Nat,bl.length=vs.length->bl.Nodup->∃ C:World->Prop,qDj P gf (bl.map qHl).toArray enc (fun k=>k∈bl) xs C /\
  ∀ W:World,(∀ (j b:Nat) (v:Value),bl[j]? = some b->vs[j]? = some v->∃ ty,W.heap[b]? = some (.cells #[v] ty (0,0)))->C W
def qHm (enc:Value) (p t:Nat) (rs:List Nat) (s:St) (env:List (Nat×AV)):Prop :=
 ∀ u a,A2 env u=some a->((u=t\/u=p)/\a=.t (.v enc))\/(u≠t/\u≠p/\∃ a0,A2 s.env u=some a0/\a=Ag (Uc rs) a0)
def RFc (P:Program) (Γ:Tables) (g:Operand) (p t:Nat) (c:IC) (ids:List Nat) (F:AX->St->Prop) (s:St):Prop :=
 ∃ (α:Type) (gf:Nat) (bids:List Nat) (vs:List Value) (enc:α->Value) (xs:List α) (sq:List α->St) (G:List α->Prop) (sx:List α->AX->St) (L:List α->AX->Prop),
  ev Γ s.env g=some (.fn gf (bids.map fun i=>.lp i 0 0))/\gf<1000000000/\bids.Nodup/\(∀ i∈bids,i<1000000)/\vs.length=bids.length /\
  (∀ (j i:Nat) (v:Value),bids[j]? = some i->vs[j]? = some v->∃ a,A2 s.hp i=some (.bx [a])/\qHk a=some v) /\
  qGd P gf vs enc xs/\(∀ args w,(callFunc gf args).run P w=.ok (.enter gf args) w) /\
  (∀ id∈ids,A2 s.hp id≠none)/\q1Y Γ (Ej bids s) (sq [])/\G [] /\
  (∀ pre x,pre++[x] <+: xs->G pre->∃ rs base env,rs.Nodup/\qHm (enc x) p t rs (sq pre) env/\W6 P Γ c (q3G Γ rs base (sq pre) (sq (pre++[x])) (G (pre++[x])) (sx (pre++[x])) (L (pre++[x]))) ⟨env,Ba rs (sq pre).hp⟩) /\
  (G xs->(∀ id∈ids,A2 (sq xs).hp id≠none)/\F .normal (sq xs)) /\
  ∀ pre e,L pre e->(∀ id∈ids,A2 (sx pre e).hp id≠none)/\F e (sx pre e)
theorem q9B {sh:Nat->Option Sh} {hp:List (Nat×Aj)} (hsh:∀ i,sh i=(A2 hp i).map Aj.sh):∀ {bids:List Nat} {xs:List Value},Gf W X μ sh (bids.map fun i=>AV.lp i 0 0) xs->(∀ i∈bids,∃ a,A2 hp i=some (.bx [a])) ->
  ∃ bl:List Nat,bl.length=bids.length/\xs=bl.map qHl/\∀ (j i b:Nat),bids[j]? = some i->bl[j]? = some b->∃ n,μ i=some (b,n)
 | [],xs,h,_=>⟨[],rfl,h.nil_inv,fun j i b h=>by simp at h⟩
 | i::bids,xs,h,hb=>by
  obtain⟨x,ys,rfl,hx,hs⟩:=h.cons_inv
  obtain⟨bl,h1,rfl,h3⟩:=q9B hsh hs fun i hi=>hb i (List.mem_cons_of_mem _ hi)
  obtain⟨g,m,hm,hp⟩:=hx.lp_inv
  obtain⟨a,ha⟩:=hb i (List.mem_cons_self ..)
  rcases hp with⟨s,n,he,_⟩|⟨_,_,rfl⟩
  ·rw[hsh,ha]at he;cases he
  ·refine⟨g::bl,by simp[h1],rfl,fun j i' b hj hbj=>?_⟩
   cases j with
   | zero=>simp at hj hbj;subst hj;subst hbj;exact⟨m,hm⟩
   | succ j=>simp at hj hbj;exact h3 j i' b hj hbj
theorem qHn {p t l:Nat} {asg:Code} (h:qHj p t asg=true) {K:Act->World->Prop} {a:Act} {W:World} (hK:K (a.put (some t) (a.tmps.getD p undef)) W):asg.wpIn (FR l) 0 P (Exit.then K (fun _ _ _=>False)) a W:=by
 unfold qHj at h
 split at h
 case h_2=>cases h
 rename_i id ops
 split at h
 case h_2=>cases h
 rename_i o ho
 simp only[Bool.and_eq_true,decide_eq_true_eq,Option.isNone_iff_eq_none]at h
 obtain⟨⟨h1,h2⟩,h3⟩:=h
 refine wpIn_region_list ?_
 rw[ho]
 unfold wpListIn
 have hw:∀ q,Region.wanted o q=true:=fun q=>by simp[Region.wanted,h2]
 rw[if_pos (hw _)]
 have hnd:∀ c,o.op ≠ .defer c:=by
  intro c e;rw[e]at h3;simp at h3
 refine qDi hnd ?_
 have hrun:(execOp a.eval o).run P W=.ok (.value (a.tmps.getD p undef)) W:=by
  split at h3
  ·rename_i q hop;simp only[beq_iff_eq]at h3;subst h3;simp[execOp,hop,Act.eval]
  ·rename_i q hop;simp only[beq_iff_eq]at h3;subst h3;simp[execOp,hop,Act.eval]
  ·cases h3
 unfold Oper.wp
 rw[hrun,Oper.upon_value,h1]
 unfold wpListIn
 exact hK
theorem qKP {ids:List Nat} {g:Operand} {p t:Nat} {c:IC} {F:AX->St->Prop} {d:Code} (hN:N<=1000000) (hm:P.follows .mixedOrders=true) (hκ:∀ id,κ id≠none->id∈ids) (hd:W8 P N g p t c .rf d=true) {s:St} (h:RFc P Γ g p t c ids F s):qKO P Γ w0 B κ X0 N ids d F s:=by
 intro a w Qc hI hQ
 cases d<;>simp only[W8,Bool.false_eq_true]at hd
 rename_i g' ps asg bd
 simp only[Bool.and_eq_true,decide_eq_true_eq,beq_iff_eq]at hd
 obtain⟨⟨⟨⟨⟨⟨⟨h1,h2⟩,h3⟩,h4⟩,h5⟩,h6⟩,h7⟩,h8⟩:=hd
 have:=A8 h1;subst this
 obtain⟨α,gf,bids,vs,enc,xs,sq,G,sx,L,k1,k2,k3,k4,k5,k6,k7,k8,k9,k10,k11,k12,k13,k15⟩:=h
 obtain⟨X,μ,hsim,hg,h0,hbd,hsz,hds⟩:=hI
 have hbx:∀ i∈bids,∃ a,A2 s.hp i=some (.bx [a]):=fun i hi=>by
  obtain⟨j,hj,rfl⟩:=List.getElem_of_mem hi
  obtain⟨a,ha,_⟩:=k6 j bids[j] vs[j] (by simp[hj]) (by simp[k5,hj])
  exact⟨a,ha⟩
 have hev:=Ah (ds:=a.defers) hsim hg k1 h2
 obtain⟨xv,hxv,hars⟩:∃ xv,Act.eval ⟨a.tmps,a.defers⟩ g=fnV gf xv/\Gf w X μ s.sh (bids.map fun i=>AV.lp i 0 0) xv:=by
  generalize Act.eval ⟨a.tmps,a.defers⟩ g=vv at hev
  cases hev with
  | fn f cs xv hlen hrel=>exact⟨xv,rfl,hlen,hrel⟩
 rw[q31 k2]at hxv
 obtain⟨bl,b1,rfl,b3⟩:=q9B (hp:=s.hp) (fun i=>rfl) hars hbx
 have hgv:a.eval g=.func (.func gf) #[] (bl.map qHl).toArray:=hxv
 have hsome:∀ k,k∈bl->∃ j i n,bids[j]? = some i/\bl[j]? = some k/\μ i=some (k,n)/\s.sh i≠none/\i∈bids:=fun k hk=>by
  obtain⟨j,hj,rfl⟩:=List.getElem_of_mem hk
  have hj2:j<bids.length:=by omega
  obtain⟨n,hn⟩:=b3 j bids[j] bl[j] (by simp[hj2]) (by simp[hj])
  obtain⟨av,hav⟩:=hbx bids[j] (List.getElem_mem hj2)
  exact⟨j,bids[j],n,List.getElem?_eq_getElem hj2,List.getElem?_eq_getElem hj,hn,by simp[St.sh,hav],List.getElem_mem hj2⟩
 have hnd:bl.Nodup:=by
  refine List.pairwise_iff_getElem.2 fun j1 j2 hj1 hj2 hlt he=>?_
  have i1:bids[j1]? = some (bids[j1]'(by omega)):=List.getElem?_eq_getElem _
  have i2:bids[j2]? = some (bids[j2]'(by omega)):=List.getElem?_eq_getElem _
  obtain⟨n1,m1⟩:=b3 j1 _ _ i1 (List.getElem?_eq_getElem hj1)
  obtain⟨n2,m2⟩:=b3 j2 _ _ i2 (List.getElem?_eq_getElem hj2)
  obtain⟨a1,s1⟩:=hbx _ (List.mem_of_getElem? i1)
  obtain⟨a2,s2⟩:=hbx _ (List.mem_of_getElem? i2)
  rw[he]at m1
  have:=hsim.inj _ _ _ _ _ (by simp[St.sh,s1]) (by simp[St.sh,s2]) m1 m2
  exact List.pairwise_iff_getElem.1 k3 j1 j2 (by omega) (by omega) hlt this
 obtain⟨C,hseq,hC⟩:=k7 bl (by omega) hnd
 have hS:∀ k,k∈bl->k<w.heap.size/\B<=k:=fun k hk=>by
  obtain⟨j,i,n,_,_,hmu,hsh,hib⟩:=hsome k hk
  obtain⟨_,hlt,hb⟩:=hsim.loc i k n hsh hmu
  refine⟨hlt,Nat.le_of_not_lt fun hkB=>?_⟩
  obtain⟨id',n',e⟩:=hb hkB
  have hid:=hκ id' (by rw[e];simp)
  have hbig:=hsim.kbig id' _ e
  have hsh':s.sh id' ≠ none:=fun e2=>k9 id' hid (St.sh_none.1 e2)
  have:=hsim.inj i id' k n n' hsh hsh' hmu ((hsim.kap id' hbig hsh').trans e)
  have:=k4 i hib
  omega
 have hds':a.defers=[]:=by rw[hds];rfl
 have hRI0:RI Γ w0 B κ X0 a.tmps (fun k=>k∈bl) (Ej bids s) w:=by
  refine⟨X,μ,S3 hsim,hg,h0,hbd,fun k hk hx=>?_,fun id gg n hid hmm hk=>?_⟩
  ·obtain⟨j,i,n,_,_,hmu,hsh,_⟩:=hsome k hk
   exact(hsim.loc i k n hsh hmu).1 hx
  ·obtain⟨j,i,n',_,_,hmu,hsh,hib⟩:=hsome gg hk
   obtain⟨e1,e2⟩:=Rh (ids:=bids) (st:=s) (t:=id) (fun e=>hid (St.sh_none.2 e))
   have:=hsim.inj id i gg n n' (fun e=>e2 (St.sh_none.1 e)) hsh hmm hmu
   exact e1 (this ▸ hib)
 have hRI:=hRI0.imp k10 fun k hk=>(hS k hk).1
 have hCw:∀ W',(∀ k,k<w.heap.size->W'.heap[k]? = w.heap[k]?)->C W':=fun W' hW=>by
  refine hC W' fun j b v hj hv=>?_
  have hjl:j<bids.length:=by
   have:=(List.getElem?_eq_some_iff.1 hj).1;omega
  have hi:bids[j]? = some bids[j]:=by simp[hjl]
  obtain⟨av,hav,hvv⟩:=k6 j _ v hi hv
  obtain⟨n,hmu⟩:=b3 j _ b hi hj
  obtain⟨_,g2,arr,ty,hm2,hh,hl,hr⟩:=hsim.reg _ _ hav
  rw[hmu]at hm2
  simp only[Option.some.injEq,Prod.mk.injEq]at hm2
  obtain⟨rfl,_⟩:=hm2
  have hl1:arr.size=1:=by simpa using hl.symm
  have har:=hr 0 av arr[0] rfl (by simp[hl1])
  have hval:=qFn har hvv
  refine⟨ty,(hW b (hS b (List.mem_of_getElem? hj)).1).trans ?_⟩
  rw[hh]
  congr 2
  apply Array.ext
  ·simp[hl1]
  ·intro q q1 q2
   have:q=0:=by omega
   subst this
   simpa using hval
 have hps:ps=#[p]:=by apply Array.toList_inj.1;simpa using h3
 let tms:α->Array Value:=fun x=>(a.tmps.setIfInBounds p (enc x)).setIfInBounds t (enc x)
 have htmg:∀ x u,(tms x).getD u undef=if u=t\/u=p then enc x else a.tmps.getD u undef:=fun x u=>by
  simp only[tms,Array.getD_eq_getD_getElem?,Array.getElem?_setIfInBounds,hsz]
  by_cases e1:u=t
  ·subst e1
   simp[Array.size_setIfInBounds,hsz,h8]
  ·by_cases e2:u=p
   ·subst e2;simp[Ne.symm e1,e1,hsz,h7]
   ·simp[Ne.symm e1,Ne.symm e2,e1,e2]
 have mk:∀ (e:AX) (s':St) (W2:World),F e s'->(∀ id∈ids,A2 s'.hp id≠none)->RI Γ w0 B κ X0 a.tmps (fun k=>k∈bl\/k=w.heap.size\/k=w.heap.size+1) s' W2->W2.heap[w.heap.size]? = some (.deferred (some []))->Qc e.to { a with defers:={ target:=.collected w.heap.size,args:=#[] }::a.defers } W2:=by
  intro e s' W2 hF hid ⟨X2,μ2,r1,r2,r3,r4,r5,r6⟩ hdf
  obtain⟨M,hM,hlt⟩:=q3F s'.hp
  refine hQ e s' _ W2 hF ⟨W2,s',X2,μ2,M,w.heap.size,a.tmps,hM,hlt,r1,r3,r4,hid,hdf,fun j n hj hmm=>r6 j _ n hj hmm (.inr (.inl rfl)),r5 _ (.inr (.inl rfl)),hsim.size,X2,μ2,r1.switch hM hlt,r2,fun _ h=>h,fun _ h=>.inl h,hsz,?_⟩
  rw[hds']
  simp[dfr]
 refine q97 (X0:=X0) hN hm h5 h6 hgv k8 hseq hS hCw (by rw[hps];rfl) sq G k11 sx L hRI tms (fun x=>by simp[tms,hsz]) ?_ ?_ ?_ ?_ ?_
 ·intro l x W2 K hK
  refine qHn h4 ?_
  have:((ps.zip #[enc x]).foldl (fun t (p,v)=>t.setIfInBounds p v) a.tmps)=a.tmps.setIfInBounds p (enc x):=by rw[hps];simp
  rw[this]
  have hgp:(a.tmps.setIfInBounds p (enc x)).getD p undef=enc x:=by simp[Array.getD_eq_getD_getElem?,Array.getElem?_setIfInBounds,hsz,h7]
  simp only[Act.put]
  rw[hgp]
  exact hK
 ·intro pre x hpx hGp
  obtain⟨rs,base,env,q1,q2,q3⟩:=k12 pre x hpx hGp
  refine⟨rs,base,env,q1,fun u av hu=>?_,q3⟩
  rcases q2 u av hu with⟨e1,e2⟩|⟨e1,e2,a0,e3,e4⟩
  ·exact .inl ⟨e2,by rw[htmg,if_pos e1]⟩
  ·exact .inr ⟨a0,e3,e4,by rw[htmg,if_neg (by simp[e1,e2])]⟩
 ·intro W2 hGx hr hdf
  exact mk .normal _ W2 (k13 hGx).2 (k13 hGx).1 hr hdf
 ·intro pre W2 hL hr hdf
  exact mk .ret _ W2 (k15 pre _ hL).2 (k15 pre _ hL).1 hr hdf
 ·intro i pre W2 hL hr hdf
  exact mk (.exit i) _ W2 (k15 pre _ hL).2 (k15 pre _ hL).1 hr hdf
def qBd (P:Program) (f:FuncId) (sk:SK) (c:IC) (g:Operand) (p t:Nat) (N n:Nat) (rvs:List RV):Bool:=match P.funcs[f]? with
 | some fn=>(match fn.body with|some d=>W8 P N g p t c sk d|none=>false) && !(fn.name == "runtime.NumGoroutine")&&fn.ntmps==N&&decide (N<=1000000)&&decide (n<=N)&&C4 P rvs fn.results.toList&&P.follows .mixedOrders
 | none=>false
theorem qFo {f:FuncId} {sk:SK} {c:IC} {g:Operand} {p t n:Nat} {rvs:List RV} {args:List AV} {hp hp':List (Nat×Aj)} {res:AV} {ids:List Nat} (hc:qBd P f sk c g p t N n rvs=true) (hn:args.length=n)
  (hids:∀ id,A2 hp id≠none->id∈ids) (hfin:∀ id,1000000<=id->A2 hp' id≠none->id∈ids)
  (h:q5R P Γ (RFc P Γ g p t c ids (Zp P Γ sk (q0w rvs res hp'))) (q0w rvs res hp' .ret) sk ⟨Xy 0 args,hp⟩):Bl P Γ f hp args res hp':=by
 intro w X κ vs hg hk hs hts
 unfold qBd at hc
 split at hc
 case h_2=>cases hc
 rename_i fn hf
 simp only[Bool.and_eq_true,Bool.not_eq_true',decide_eq_true_eq,beq_iff_eq]at hc
 obtain⟨⟨⟨⟨⟨⟨h1,h2⟩,h3⟩,h4⟩,h5⟩,h6⟩,h7⟩:=hc
 cases hb:fn.body with
 | none=>rw[hb]at h1;cases h1
 | some d =>
  rw[hb]at h1
  subst h3
  refine .inl ⟨?_,?_⟩
  ·have h2':¬ fn.name = "runtime.NumGoroutine" := by simpa using h2
   simp[callFunc,hf,h2',hb]
  refine callsIn_wide.1 (callsIn_of_wp_marks (n:=0) hf hb trivial ((wpIn_wide (n:=0)).2 ?_))
  have hlen:vs.length<=fn.ntmps:=by rw[<- hts.1,hn];exact h5
  have hI:Inv Γ w w.heap.size κ X fn.ntmps ⟨Xy 0 args,hp⟩ { tmps:=vs.toArray++Array.replicate (fn.ntmps-vs.toArray.size) undef,defers:=[] } w:=by
   refine⟨X,κ,⟨?_,hs.reg,hs.inj,hs.loc,hs.kap,hs.kbig,hs.xlt,rfl,rfl,rfl,Nat.le_refl _,fun _ _ _=>rfl⟩,hg,fun _ h=>h,fun _ h=>.inl h,?_,rfl⟩
   ·intro t a ht
    obtain⟨_,hu⟩:=q0d ht
    obtain⟨x,h1,h2⟩:=hts.get hu
    simp only[Nat.sub_zero]at h1
    have hlt:t<vs.length:=(List.getElem?_eq_some_iff.1 h1).1
    have:(vs.toArray++Array.replicate (fn.ntmps-vs.toArray.size) undef).getD t undef=x:=by
     rw[Array.getD_eq_getD_getElem?,Array.getElem?_append_left (by simpa using hlt)]
     simp[h1]
    rw[this];exact h2
   ·simp;omega
  refine wp_mono (Zq h4 h7 (RFs:=RFc P Γ g p t c ids (Zp P Γ sk (q0w rvs res hp'))) (fun d hd s hR=>qKP h4 h7 (fun id hi=>hids id (hk id hi)) hd hR) h1 hI (fun _ _ h=>h) h) ?_
  have endS:∀ (s:St) (tm:Array Value) (w':World) (X':Nat->Prop) (μ':Be),B0 w w.heap.size κ X' μ' s tm w'->(∀ b,X b->X' b)->(∀ b,X' b->X b\/w.heap.size<=b\/∃ id n,κ id=some (b,n))->∀ cc,Vj s rvs=some (cc,res)->cc->s.hp=hp' ->
    ∃ v,(results fn tm).run P w'=.ok v w'/\∃ u,Ending.returned v=.returned u/\∃ X' μ',B0 w w.heap.size κ X' μ' ⟨[],hp'⟩ #[] w'/\AR w' X' μ' (St.sh ⟨[],hp'⟩) res u/\(∀ b,X b->X' b)/\(∀ b,X' b->X b\/w.heap.size<=b\/∃ id n,κ id=some (b,n)):=by
   intro s tm w' X' μ' hsim h0 hbd cc hr hcc hh
   obtain⟨v,h8,h9⟩:=q4o hsim h6 hr hcc
   subst hh
   exact⟨v,h8,v,rfl,X',μ',⟨fun t a ht=>by simp[A2]at ht,hsim.reg,hsim.inj,hsim.loc,hsim.kap,hsim.kbig,hsim.xlt,hsim.os,hsim.tape,hsim.output,hsim.size,hsim.fr⟩,h9,h0,hbd⟩
  rintro e a w' ⟨x,s,rfl,hq,hor⟩
  have fin:∀ cc,Vj s rvs=some (cc,res)->cc->s.hp=hp'->LeavesInM Fence.wide 0 P fn a.tmps (fun e w'=>∃ u,e=.returned u/\∃ X' μ',B0 w w.heap.size κ X' μ' ⟨[],hp'⟩ #[] w'/\AR w' X' μ' (St.sh ⟨[],hp'⟩) res u/\(∀ b,X b->X' b)/\(∀ b,X' b->X b\/w.heap.size<=b\/∃ id n,κ id=some (b,n))) a.defers .returning w':=by
   intro cc hr hcc hh
   rcases hor with⟨X',μ',hsim,hg',h0,hbd,hsz,hds⟩|hM
   ·rw[hds]
    exact endS s a.tmps w' X' μ' hsim h0 hbd cc hr hcc hh
   ·obtain⟨k,hd,hkw,X',μ',hsim,hg',h0,hbd⟩:=hM.fin fun id hb hi=>hfin id hb (by rw[<- hh];exact hi)
    rw[hd]
    refine⟨by simp,.inl ⟨k,_,rfl,run_takeDeferred hkw,?_⟩⟩
    exact endS s a.tmps _ X' μ' hsim h0 hbd cc hr hcc hh
  cases x with
  | normal=>obtain⟨cc,hr,hcc,hh⟩:=hq;exact fin cc hr hcc hh
  | ret=>obtain⟨cc,hr,hcc,hh⟩:=hq;exact fin cc hr hcc hh
  | exit i=>exact hq.elim
end
end Go.Lg
namespace Go.Lg
open Go
def q81 (P:Program) (Γ:Tables) (f:FuncId) (hp:List (Nat×Aj)) (args:List AV) (hp':List (Nat×Aj)):Prop :=
 ∀ (w:World) (X:Nat->Prop) (κ:Be) (vs:List Value),Gl Γ w X->(∀ id,κ id≠none->A2 hp id≠none)->B0 w w.heap.size κ X κ ⟨[],hp⟩ #[] w->Gf w X κ (St.sh ⟨[],hp⟩) args vs ->
  (callFunc f vs.toArray).run P w=.ok (.enter f vs.toArray) w/\∀ u,CallsD P f vs.toArray u w fun e u' w'=>u'=u/\∃ v,e=.returned v/\∃ X' μ',B0 w w.heap.size κ X' μ' ⟨[],hp'⟩ #[] w'/\(∀ b,X b->X' b)/\(∀ b,X' b->X b\/w.heap.size<=b\/∃ id n,κ id=some (b,n))
section
variable {P:Program} {Γ:Tables} {N:Nat}
theorem qHo {f:FuncId} {ic:IC} {n:Nat} {rvs:List RV} {args:List AV} {hp hp':List (Nat×Aj)} {res:AV} (hc:Ax P f ic N n rvs=true) (hn:args.length=n) (h:W6 P Γ ic (q0w rvs res hp') ⟨Xy 0 args,hp⟩)
  {w:World} {X:Nat->Prop} {κ:Be} {vs:List Value} (hg:Gl Γ w X) (hs:B0 w w.heap.size κ X κ ⟨[],hp⟩ #[] w) (hts:Gf w X κ (St.sh ⟨[],hp⟩) args vs) :
  ∃ fn c,P.funcs[f]? = some fn/\fn.body=some c/\c.wp P (bodyPost P fn fun e w'=>∃ u,e=.returned u/\∃ X' μ',B0 w w.heap.size κ X' μ' ⟨[],hp'⟩ #[] w'/\AR w' X' μ' (St.sh ⟨[],hp'⟩) res u/\(∀ b,X b->X' b)/\(∀ b,X' b->X b\/w.heap.size<=b\/∃ id n,κ id=some (b,n)))
   { tmps:=vs.toArray++Array.replicate (fn.ntmps-vs.toArray.size) undef,defers:=[] } w:=by
 unfold Ax at hc
 split at hc
 case h_2=>cases hc
 rename_i fn hf
 simp only[Bool.and_eq_true,Bool.not_eq_true',decide_eq_true_eq,beq_iff_eq]at hc
 obtain⟨⟨⟨⟨⟨⟨h1,h2⟩,h3⟩,h4⟩,h5⟩,h6⟩,h7⟩:=hc
 cases hb:fn.body with
 | none=>rw[hb]at h1;cases h1
 | some c =>
  rw[hb]at h1
  subst h3
  refine⟨fn,c,hf,hb,?_⟩
  have hlen:vs.length<=fn.ntmps:=by rw[<- hts.1,hn];exact h5
  have hI:Inv Γ w w.heap.size κ X fn.ntmps ⟨Xy 0 args,hp⟩ { tmps:=vs.toArray++Array.replicate (fn.ntmps-vs.toArray.size) undef,defers:=[] } w:=by
   refine⟨X,κ,⟨?_,hs.reg,hs.inj,hs.loc,hs.kap,hs.kbig,hs.xlt,rfl,rfl,rfl,Nat.le_refl _,fun _ _ _=>rfl⟩,hg,fun _ h=>h,fun _ h=>.inl h,?_,rfl⟩
   ·intro t a ht
    obtain⟨_,hu⟩:=q0d ht
    obtain⟨x,h1,h2⟩:=hts.get hu
    simp only[Nat.sub_zero]at h1
    have hlt:t<vs.length:=(List.getElem?_eq_some_iff.1 h1).1
    have:(vs.toArray++Array.replicate (fn.ntmps-vs.toArray.size) undef).getD t undef=x:=by
     rw[Array.getD_eq_getD_getElem?,Array.getElem?_append_left (by simpa using hlt)]
     simp[h1]
    rw[this];exact h2
   ·simp;omega
  refine wp_mono (Jh h4 h7 h1 hI h) ?_
  rintro e a w' ⟨x,s,rfl,⟨X',μ',hsim,hg',h0,hbd,hsz,hds⟩,hq⟩
  have fin:∀ c,Vj s rvs=some (c,res)->c->s.hp=hp'->a.defers=[]/\∃ v,(results fn a.tmps).run P w'=.ok v w'/\∃ u,Ending.returned v=.returned u /\
    ∃ X' μ',B0 w w.heap.size κ X' μ' ⟨[],hp'⟩ #[] w'/\AR w' X' μ' (St.sh ⟨[],hp'⟩) res u/\(∀ b,X b->X' b)/\(∀ b,X' b->X b\/w.heap.size<=b\/∃ id n,κ id=some (b,n)):=by
   intro c hr hcc hh
   obtain⟨v,h8,h9⟩:=q4o hsim h6 hr hcc
   subst hh
   exact⟨hds,v,h8,v,rfl,X',μ',⟨fun t a ht=>by simp[A2]at ht,hsim.reg,hsim.inj,hsim.loc,hsim.kap,hsim.kbig,hsim.xlt,hsim.os,hsim.tape,hsim.output,hsim.size,hsim.fr⟩,h9,h0,hbd⟩
  cases x with
  | normal=>obtain⟨c,hr,hcc,hh⟩:=hq;exact fin c hr hcc hh
  | ret=>obtain⟨c,hr,hcc,hh⟩:=hq;exact fin c hr hcc hh
  | exit i=>exact hq.elim
theorem qDk {f:FuncId} {ic:IC} {n:Nat} {rvs:List RV} {args:List AV} {hp hp':List (Nat×Aj)} {res:AV} (hc:Ax P f ic N n rvs=true) (hn:args.length=n) (h:W6 P Γ ic (q0w rvs res hp') ⟨Xy 0 args,hp⟩):q81 P Γ f hp args hp':=by
 intro w X κ vs hg hk hs hts
 refine⟨Zo hc _,fun u=>?_⟩
 obtain⟨fn,c,hf,hb,hw⟩:=qHo hc hn h hg hs hts
 refine(callsD_of_wp (u:=u) hf hb hw).mono ?_
 rintro e u' w' ⟨rfl,v,he,X',μ',h1,_,h2,h3⟩
 exact⟨rfl,v,he,X',μ',h1,h2,h3⟩
def qHp (P:Program) (f:FuncId) (A0 A1 R:IC) (N n:Nat) (rvs:List RV) (t:Nat) (g:FuncId) (caps:List Operand):Bool:=match P.funcs[f]? with
 | some fn=>(match fn.body with
  | some (.seq a (.seq b (.seq (.region _ ops false) r)))=>Cj P N A0 a&&Cj P N A1 b&&Cj P N R r&&noC [t] R&&(match ops.toList with
   | [o1,o2]=>q3B P N [o1,o2] ⟨some t,.mkf g caps,none,none⟩ o1&&o2.dst.isNone&&o2.guard.isNone&&(match o2.op with
    | .defer c=>(match c.callee with | .value (.tmp s)=>s==t&&c.args.isEmpty|_=>false)
    | _=>false)
   | _=>false)
  | _=>false) && !(fn.name == "runtime.NumGoroutine")&&fn.ntmps==N&&decide (N<=1000000)&&decide (n<=N)&&decide (t<N)&&C4 P rvs fn.results.toList&&P.follows .mixedOrders
 | none=>false
def q9C (P:Program) (Γ:Tables) (rvs:List RV) (t:Nat) (g:FuncId) (rt:T) (ids:List Nat) (hp':List (Nat×Aj)):AX->St->Prop
 | .exit _,_=>False
 | _,s=>∃ av cs rs base hp2,A2 s.env t=some av/\q0n av=some (g,cs)/\rs.Nodup/\q81 P Γ g (Ba rs s.hp) (cs.map (Ag (Uc rs))) hp2/\Qf rs base s.hp hp2 /\
   ∃ c,Vj (C6 rs base hp2 s) rvs=some (c,.t rt)/\c/\(Gh.run (.keep [] ids) (C6 rs base hp2 s)).hp=hp'
theorem qFp {f:FuncId} {A0 A1 R:IC} {n:Nat} {rvs:List RV} {args:List AV} {hp hp':List (Nat×Aj)} {rt:T} {t:Nat} {g:FuncId} {caps:List Operand} {gs:List Gh} {ids:List Nat} (hc:qHp P f A0 A1 R N n rvs t g caps=true) (hn:args.length=n)
  (h:W6 P Γ (.seq A0 (.seq A1 (.reg [⟨some t,.mkf g caps,none,none⟩] gs))) (fun e s=>e=.normal/\W6 P Γ R (q9C P Γ rvs t g rt ids hp') s) ⟨Xy 0 args,hp⟩):Bl P Γ f hp args (.t rt) hp':=by
 intro w X κ vs hg hk hs hts
 unfold qHp at hc
 split at hc
 case h_2=>cases hc
 rename_i fn hf
 simp only[Bool.and_eq_true,Bool.not_eq_true',decide_eq_true_eq,beq_iff_eq]at hc
 obtain⟨⟨⟨⟨⟨⟨⟨h1,h2⟩,h3⟩,h4⟩,h5⟩,ht⟩,h6⟩,h7⟩:=hc
 split at h1
 case h_2=>cases h1
 rename_i c a b idr ops r hb
 simp only[Bool.and_eq_true]at h1
 obtain⟨⟨⟨⟨hca,hcb⟩,hcr⟩,hno⟩,hops⟩:=h1
 split at hops
 case h_2=>cases hops
 rename_i l o1 o2 hol
 simp only[Bool.and_eq_true,Option.isNone_iff_eq_none]at hops
 obtain⟨⟨⟨hk1,hd2⟩,hg2⟩,hdf⟩:=hops
 have hent:(callFunc f vs.toArray).run P w=.ok (.enter f vs.toArray) w:=by
  have h2':¬ fn.name = "runtime.NumGoroutine" := by simpa using h2
  simp[callFunc,hf,h2',hb]
 refine .inl ⟨hent,?_⟩
 subst h3
 refine calls_of_wp_defers hf hb ?_
 have hlen:vs.length<=fn.ntmps:=by rw[<- hts.1,hn];exact h5
 have hI:Inv Γ w w.heap.size κ X fn.ntmps ⟨Xy 0 args,hp⟩ { tmps:=vs.toArray++Array.replicate (fn.ntmps-vs.toArray.size) undef,defers:=[] } w:=by
  refine⟨X,κ,⟨?_,hs.reg,hs.inj,hs.loc,hs.kap,hs.kbig,hs.xlt,rfl,rfl,rfl,Nat.le_refl _,fun _ _ _=>rfl⟩,hg,fun _ h=>h,fun _ h=>.inl h,?_,rfl⟩
  ·intro t a ht
   obtain⟨_,hu⟩:=q0d ht
   obtain⟨x,h1,h2⟩:=hts.get hu
   simp only[Nat.sub_zero]at h1
   have hlt:t<vs.length:=(List.getElem?_eq_some_iff.1 h1).1
   have:(vs.toArray++Array.replicate (fn.ntmps-vs.toArray.size) undef).getD t undef=x:=by
    rw[Array.getD_eq_getD_getElem?,Array.getElem?_append_left (by simpa using hlt)]
    simp[h1]
   rw[this];exact h2
  ·simp;omega
 -- the end
 have fin:∀ (s:St) (a:Act) (w':World),G3 [t] Γ w w.heap.size κ X fn.ntmps s a w'->q9C P Γ rvs t g rt ids hp' .normal s->Leaves P fn a.tmps (fun e w'=>∃ v,e=.returned v/\∃ X' μ',B0 w w.heap.size κ X' μ' ⟨[],hp'⟩ #[] w'/\AR w' X' μ' (St.sh ⟨[],hp'⟩) (.t rt) v/\(∀ b,X b->X' b)/\(∀ b,X' b->X b\/w.heap.size<=b\/∃ id n,κ id=some (b,n))) a.defers .returning w':=by
  rintro s a w' ⟨X',μ',hsim,hg',h0,hbd,hsz,hds⟩ ⟨av,cs,rs,base,hp2,hl,hfn,hnd,hcall,hok,c,hr,hcc,hh⟩
  obtain⟨ys,hy,hys⟩:=q7v hfn (hsim.env t av hl)
  have hd:a.defers=[⟨.fn (.func g) ys.toArray,#[]⟩]:=by rw[hds];simp[dfr,hy,show ¬ 1000000000<=t by omega]
  obtain⟨hrun,hcd⟩:=hcall w' X' (Gm μ' s rs) ys hg' (fun id hi=>by
   cases hk:Gm μ' s rs id with
   | none=>exact absurd hk hi
   | some l =>
    unfold Gm at hk
    split at hk
    ·rename_i hc
     have e0:=q2B hc.2.1
     have hm:rs.getD (id-1000000) 0∈rs:=by rw[e0];exact List.getElem_mem _
     have hidx:rs.idxOf (rs.getD (id-1000000) 0)=id-1000000:=by rw[e0,hnd.idxOf_getElem]
     obtain⟨q,hq⟩:∃ q,s.sh (rs.getD (id-1000000) 0)=some q:=by
      cases he:s.sh (rs.getD (id-1000000) 0) with
      | none=>exact absurd he hc.2.2
      | some q=>exact⟨q,rfl⟩
     have:=Uj hm hq
     rw[hidx]at this
     have e:1000000+(id-1000000)=id:=by have:=hc.1;omega
     rw[e]at this
     intro hn
     simp only[St.sh,hn,Option.map_none,reduceCtorEq]at this
    ·cases hk) (hsim.hand rs) (W5 hsim hys)
  rw[hd]
  refine⟨by simp,.func g,ys.toArray,g,ys.toArray,rfl,by simp[invoke,hrun],(hcd .returning).mono ?_⟩
  rintro e u' w2 ⟨rfl,v,rfl,X2,μ2,hs2,hX2,hX2'⟩
  obtain⟨hsb,hsame,_⟩:=hsim.back hnd hs2 hok hX2 hX2'
  have hbd2:∀ b,X2 b->X b\/w.heap.size<=b\/∃ id n,κ id=some (b,n):=fun b hb=>by
   rcases hX2' b hb with hb|hb|⟨id,n,hk⟩
   ·exact hbd b hb
   ·exact .inr (.inl (Nat.le_trans hsim.size hb))
   ·obtain⟨t',h8,h9,h10⟩:=D2 hk
    rcases Nat.lt_or_ge b w.heap.size with hlt|hge
    ·obtain⟨id',n',hq⟩:=(hsim.loc t' b n h9 h10).2.2 hlt
     exact .inr (.inr ⟨id',n',hq⟩)
    ·exact .inr (.inl hge)
  have hI2:Inv Γ w w.heap.size κ X fn.ntmps (C6 rs base hp2 s) ⟨a.tmps,[]⟩ w2:=⟨X2,_,hsb,hg'.mono hsame hX2,fun b hb=>hX2 b (h0 b hb),hbd2,hsz,rfl⟩
  obtain⟨x,hres,hx⟩:=q4o hsb h6 hr hcc
  have hpin:Inv Γ w w.heap.size κ X2 fn.ntmps (C6 rs base hp2 s) ⟨a.tmps,[]⟩ w2:=⟨X2,_,hsb,hg'.mono hsame hX2,fun b hb=>hb,fun b hb=>.inl hb,hsz,rfl⟩
  obtain⟨X3,μ3,hs3,hg3,h03,hbd3,_,_⟩:=Gh.run_ok (.keep [] ids) hpin
  rw[<- hh]
  refine⟨x,hres,x,rfl,X3,μ3,⟨fun t a ht=>by simp[A2]at ht,hs3.reg,hs3.inj,hs3.loc,hs3.kap,hs3.kbig,hs3.xlt,hs3.os,hs3.tape,hs3.output,hs3.size,hs3.fr⟩,.t _ _ (hx.t_inv.mono (fun _ _=>rfl) h03),fun b hb=>h03 b (hX2 b (h0 b hb)),fun b hb=>?_⟩
  rcases hbd3 b hb with hb|hb|hb
  ·exact hbd2 b hb
  ·exact .inr (.inl hb)
  ·exact .inr (.inr hb)
 refine wp_seq (wp_mono (Jh h4 h7 hca hI h) ?_)
 rintro e a w1 ⟨x,s,rfl,hIa,hq⟩
 cases x with
 | exit i=>cases hq.1
 | ret=>cases hq.1
 | normal =>
 refine wp_seq (wp_mono (Jh h4 h7 hcb hIa hq) ?_)
 rintro e a w2 ⟨x,s,rfl,hIa,hq⟩
 cases x with
 | exit i=>cases hq.1
 | ret=>cases hq.1
 | normal =>
 obtain⟨s1,⟨s2,hst,rfl⟩,_,hR⟩:=hq
 refine wp_seq (wp_region_list ?_)
 rw[hol]
 have harr:ops=#[o1,o2]:=by apply Array.toList_inj.1;rw[hol]
 rw[harr]
 unfold wpList
 refine q1S (ops:=[o1,o2]) hIa h4 hk1 hst fun a3 w3 hI3=>?_
 have hw:Region.wanted o2 (yielded #[o1,o2] a3.tmps)=true:=by simp[Region.wanted,hg2]
 unfold wpList
 rw[if_pos hw]
 refine .inl ?_
 obtain⟨X3,μ3,hsim3,hg3,h03,hbd3,hsz3,hds3⟩:=hI3
 generalize hop:o2.op=op2 at hdf
 split at hdf
 case h_2=>cases hdf
 rename_i cl
 split at hdf
 case h_2=>cases hdf
 rename_i t2 hcal
 simp only[Bool.and_eq_true,beq_iff_eq]at hdf
 obtain⟨rfl,hargs⟩:=hdf
 have hargs:cl.args=#[]:=by simpa using hargs
 have hv:∃ ys:List Value,a3.tmps.getD t2 undef=.func (.func g) #[] ys.toArray:=by
  rcases hst with⟨_,rr,st1,hex,rfl⟩|⟨hno,_⟩
  ·simp only[C9,A7]at hex
   obtain⟨c,hc1,hc2⟩:=hex
   simp only[Option.map_eq_some_iff,Prod.mk.injEq]at hc1
   obtain⟨as,has,rfl,rfl,rfl⟩:=hc1
   have hat:=hsim3.env t2 (match Iq as with|some ts=>.t (.fn g ts)|none=>.fn g as) (by simp[St.put,A2];rfl)
   simp only[q3B,Bool.and_eq_true,decide_eq_true_eq]at hk1
   obtain⟨⟨⟨⟨⟨_,hch⟩,_⟩,_⟩,_⟩,_⟩:=hk1
   have hlt:g<1000000000:=by
    simp only[Iy]at hch
    split at hch
    ·simp only[Bool.and_eq_true,decide_eq_true_eq]at hch;exact hch.2
    ·cases hch
   generalize a3.tmps.getD t2 undef=v at hat
   cases hto:Iq as with
   | some ts =>
    simp only[hto]at hat
    cases hat.t_inv with
    | fn f cs xs hlen hrel=>exact⟨xs,rfl⟩
   | none =>
    simp only[hto]at hat
    cases hat with
    | fn f cs xs hlen hrel=>exact⟨xs,q31 hlt⟩
  ·simp[D4]at hno
 obtain⟨ys,hy⟩:=hv
 have hrun:(execOp a3.eval o2).run P w3=.ok (.defer ⟨.fn (.func g) ys.toArray,#[]⟩) w3:=by
  simp[execOp,hop,resolve,hcal,Deferred.ofValue,Act.eval,hy,hargs]
 unfold Oper.wp
 rw[hrun,Oper.upon_defer,hd2]
 show wpList P _ _ [] _ _
 unfold wpList
 have hnm:¬ (1000000000:Nat)<=t2:=Nat.not_le.2 (Nat.lt_of_lt_of_le ht (Nat.le_trans h4 (by decide)))
 have hI4:G3 [t2] Γ w w.heap.size κ X fn.ntmps _ { a3 with defers:=⟨.fn (.func g) ys.toArray,#[]⟩::a3.defers } w3:=⟨X3,μ3,hsim3,hg3,h03,hbd3,hsz3,by
  simp only[hds3,List.map_nil,List.map_cons,dfr,hy,hnm,if_false]⟩
 refine wp_mono (D3 h4 h7 hcr (Xw hI4) hR hno) ?_
 rintro e a5 w5 ⟨x,s5,rfl,hI5,hq⟩
 cases x with
 | exit i=>exact hq.elim
 | ret=>exact fin s5 a5 w5 hI5 hq
 | normal=>exact fin s5 a5 w5 hI5 hq
end
end Go.Lg
namespace Go.Lg
open Go
def sV (l:List UInt8):Value:=.string ⟨l.toArray⟩
structure Tag {α:Sort _} (a:α):Type where
def Dy (A:Prop) (_:Tag A):Prop:=A
def Bz (x:Option (Prop×AV×St)) (K:AV->St->Prop) (_:Tag K):Prop:=match x with
 | some (c,r,st1)=>c/\K r st1
 | none=>False
def asK (x:Option (List AV)) (K:List AV->Prop) (_:Tag K):Prop:=match x with
 | some as=>K as
 | none=>False
def fnK (x:Option (FuncId×List AV)) (K:FuncId->List AV->Prop) (_:Tag K):Prop:=match x with
 | some p=>K p.1 p.2
 | none=>False
def q46 (x:Option AV) (A B:Prop) (_:Tag A) (_:Tag B):Prop:=match x with
 | some (.t (.v (.bool t)))=>(t=true->A)/\(t=false->B)
 | _=>False
def q5S (P:Program) (Γ:Tables) (hp:List (Nat×Aj)) (f:FuncId) (as:List AV) (K:T->Prop) (_:Tag K):Prop:=∃ res,Zg P Γ hp f as res/\K res
def Vk (P:Program) (Γ:Tables) (st:St) (f:FuncId) (rs:List Nat) (base:Nat) (hp:List (Nat×Aj)) (as:List AV) (K:AV->St->Prop) (_:Tag K):Prop :=
 ∃ res hp',Bl P Γ f hp as res hp'/\Qf rs base st.hp hp'/\K (Ag (fun i=>some (P2 rs base i)) res) (C6 rs base hp' st)
def qDl (P:Program) (Γ:Tables) (st:St) (f:FuncId) (base:Nat) (as:List AV) (K:AV->St->Prop) (_:Tag K):Prop :=
 ∃ res hp',Bl P Γ f [] as res hp'/\Qf [] base st.hp hp'/\K (Ag (fun i=>some (P2 [] base i)) res) ⟨st.env,Fo [] base hp'++st.hp⟩
def qDm (P:Program) (Γ:Tables) (f:FuncId) (as:List AV) (K:T->Prop) (_:Tag K):Prop:=∃ ts res,Ac (as.map toT)=some ts/\(An P Γ f ts res\/A6 P Γ f ts res)/\K res
def qDn (P:Program) (Γ:Tables) (st:St) (f:FuncId) (rs:List Nat) (hp:List (Nat×Aj)) (as:List AV) (K:AV->St->Prop) (_:Tag K):Prop :=
 ∃ res,Bl P Γ f hp as res hp/\K (Ag (fun i=>some (P2 rs 0 i)) res) st
def Am (P:Program) (Γ:Tables) (d:Nat) (io:B6) (st:St) (K:AV->St->Prop):Prop:=match io with
 | .call f args=>asK (Ip Γ st.env args) (fun as=>q5S P Γ st.hp f as (fun res=>K (.t res) st) ⟨⟩) ⟨⟩
 | .callv x args=>fnK ((ev Γ st.env x).bind q0n) (fun f cs=>asK (Ip Γ st.env args) (fun as=>q5S P Γ st.hp f (as++cs) (fun res=>K (.t res) st) ⟨⟩) ⟨⟩) ⟨⟩
 | .hcall f args rs base=>asK (Ip Γ st.env args) (fun as=>rs.Nodup/\Vk P Γ st f rs base (Ba rs st.hp) (as.map (Ag (Uc rs))) K ⟨⟩) ⟨⟩
 | .hcallv x args rs base=>fnK ((ev Γ st.env x).bind q0n) (fun f cs=>asK (Ip Γ st.env args) (fun as=>rs.Nodup/\Vk P Γ st f rs base (Ba rs st.hp) ((as++cs).map (Ag (Uc rs))) K ⟨⟩) ⟨⟩) ⟨⟩
 | .hcallW f args base=>asK (Ip Γ st.env args) (fun as=>∃ rs,rs.Nodup/\Vk P Γ st f rs base (Ba rs st.hp) (as.map (Ag (Uc rs))) K ⟨⟩) ⟨⟩
 | .hcallvW x args base=>fnK ((ev Γ st.env x).bind q0n) (fun f cs=>asK (Ip Γ st.env args) (fun as=>∃ rs,rs.Nodup/\Vk P Γ st f rs base (Ba rs st.hp) ((as++cs).map (Ag (Uc rs))) K ⟨⟩) ⟨⟩) ⟨⟩
 | .hcallB x args base=>fnK ((ev Γ st.env x).bind q75) (fun f cs=>asK (Ip Γ st.env args) (fun as=>∃ rs,rs.Nodup/\Vk P Γ st f rs base (Ba rs st.hp) ((cs++as).map (Ag (Uc rs))) K ⟨⟩) ⟨⟩) ⟨⟩
 | .ncall f args base=>asK (Ip Γ st.env args) (fun as=>qDl P Γ st f base (as.map (Ag (Uc []))) K ⟨⟩) ⟨⟩
 | .callT f args=>asK (Ip Γ st.env args) (fun as=>qDm P Γ f as (fun res=>K (.t res) st) ⟨⟩) ⟨⟩
 | .rcall f args rs=>asK (Ip Γ st.env args) (fun as=>rs.Nodup/\(∀ i∈rs,∃ ty s es,A2 st.hp i=some (.sl ty s es))/\qDn P Γ st f rs (Ba rs st.hp) (as.map (Ag (Uc rs))) K ⟨⟩) ⟨⟩
 | io=>Bz (A7 Γ d io st) K ⟨⟩
def q5T (x:Option Bool) (A B:Prop) (_:Tag A) (_:Tag B):Prop:=match x with
 | some true=>A
 | some false=>B
 | none=>False
def qGe (P:Program) (Γ:Tables) (ro:RO) (st:St) (K:St->Prop):Prop:=q5T (D4 st.env ro.guard) (Am P Γ ro.d ro.op st fun r st1=>K (st1.put ro.dst r)) (K (st.put ro.dst .un)) ⟨⟩ ⟨⟩
def Fv (P:Program) (Γ:Tables):(ros:List RO)->(st:St)->(K:St->Prop)->Tag K->Prop
 | [],st,K,_=>K st
 | ro::ros,st,K,t=>qGe P Γ ro st fun st1=>Fv P Γ ros st1 K t
theorem qDo {P:Program} {Γ:Tables} {d:Nat} {io:B6} {st:St} {K:AV->St->Prop} (h:Am P Γ d io st K):∃ r st1,C9 P Γ d io st r st1/\K r st1:=by
 have gen:Bz (A7 Γ d io st) K ⟨⟩->∃ r st1,(∃ c,A7 Γ d io st=some (c,r,st1)/\c)/\K r st1:=by
  intro h
  unfold Bz at h
  split at h
  ·rename_i c r st1 hs;exact⟨r,st1,⟨c,hs,h.1⟩,h.2⟩
  ·exact h.elim
 cases io with
 | call f args =>
  simp only[Am,asK]at h
  split at h
  ·rename_i as has;obtain⟨res,h1,h2⟩:=h;exact⟨_,_,⟨as,res,has,h1,rfl,rfl⟩,h2⟩
  ·exact h.elim
 | callv x args =>
  simp only[Am,fnK]at h
  split at h
  ·rename_i p hp
   obtain⟨a,ha,hf⟩:=Option.bind_eq_some_iff.1 hp
   simp only[asK]at h
   split at h
   ·rename_i as has;obtain⟨res,h1,h2⟩:=h;exact⟨_,_,⟨a,p.1,p.2,as,res,ha,hf,has,h1,rfl,rfl⟩,h2⟩
   ·exact h.elim
  ·exact h.elim
 | hcall f args rs base =>
  simp only[Am,asK]at h
  split at h
  ·rename_i as has;obtain⟨hnd,res,hp',h1,h2,h3⟩:=h;exact⟨_,_,⟨as,res,hp',has,hnd,h1,h2,rfl,rfl⟩,h3⟩
  ·exact h.elim
 | hcallv x args rs base =>
  simp only[Am,fnK]at h
  split at h
  ·rename_i p hp
   obtain⟨a,ha,hf⟩:=Option.bind_eq_some_iff.1 hp
   simp only[asK]at h
   split at h
   ·rename_i as has;obtain⟨hnd,res,hp',h1,h2,h3⟩:=h;exact⟨_,_,⟨a,p.1,p.2,as,res,hp',ha,hf,has,hnd,h1,h2,rfl,rfl⟩,h3⟩
   ·exact h.elim
  ·exact h.elim
 | hcallW f args base =>
  simp only[Am,asK]at h
  split at h
  ·rename_i as has;obtain⟨rs,hnd,res,hp',h1,h2,h3⟩:=h;exact⟨_,_,⟨rs,as,res,hp',has,hnd,h1,h2,rfl,rfl⟩,h3⟩
  ·exact h.elim
 | hcallvW x args base =>
  simp only[Am,fnK]at h
  split at h
  ·rename_i p hp
   obtain⟨a,ha,hf⟩:=Option.bind_eq_some_iff.1 hp
   simp only[asK]at h
   split at h
   ·rename_i as has;obtain⟨rs,hnd,res,hp',h1,h2,h3⟩:=h;exact⟨_,_,⟨rs,a,p.1,p.2,as,res,hp',ha,hf,has,hnd,h1,h2,rfl,rfl⟩,h3⟩
   ·exact h.elim
  ·exact h.elim
 | hcallB x args base =>
  simp only[Am,fnK]at h
  split at h
  ·rename_i p hp
   obtain⟨a,ha,hf⟩:=Option.bind_eq_some_iff.1 hp
   simp only[asK]at h
   split at h
   ·rename_i as has;obtain⟨rs,hnd,res,hp',h1,h2,h3⟩:=h;exact⟨_,_,⟨rs,a,p.1,p.2,as,res,hp',ha,hf,has,hnd,h1,h2,rfl,rfl⟩,h3⟩
   ·exact h.elim
  ·exact h.elim
 | ncall f args base =>
  simp only[Am,asK]at h
  split at h
  ·rename_i as has;obtain⟨res,hp',h1,h2,h3⟩:=h;exact⟨_,_,⟨as,res,hp',has,h1,h2,rfl,rfl⟩,h3⟩
  ·exact h.elim
 | callT f args =>
  simp only[Am,asK]at h
  split at h
  ·rename_i as has;obtain⟨ts,res,h1,h2,h3⟩:=h;exact⟨_,_,⟨as,ts,res,has,h1,h2,rfl,rfl⟩,h3⟩
  ·exact h.elim
 | rcall f args rs =>
  simp only[Am,asK]at h
  split at h
  ·rename_i as has;obtain⟨hnd,hsl,res,h1,h2⟩:=h;exact⟨_,_,⟨as,res,has,hnd,hsl,h1,rfl,rfl⟩,h2⟩
  ·exact h.elim
 | _=>exact gen h
theorem q3H {P:Program} {Γ:Tables}:∀ {ros:List RO} {st:St} {K:St->Prop},Fv P Γ ros st K ⟨⟩->∃ s1,Lx P Γ ros st s1/\K s1
 | [],st,K,h=>⟨st,rfl,h⟩
 | ro::ros,st,K,h=>by
  simp only[Fv,qGe,q5T]at h
  split at h
  ·rename_i hw
   obtain⟨r,st1,h1,h2⟩:=qDo h
   obtain⟨s1,h3,h4⟩:=q3H (ros:=ros) h2
   exact⟨s1,⟨_,.inl ⟨hw,r,st1,h1,rfl⟩,h3⟩,h4⟩
  ·rename_i hw
   obtain⟨s1,h3,h4⟩:=q3H (ros:=ros) h
   exact⟨s1,⟨_,.inr ⟨hw,rfl⟩,h3⟩,h4⟩
  ·exact h.elim
def ghs (gs:List Gh) (s:St):St:=gs.foldl (fun s g=>g.run s) s
def run (P:Program) (Γ:Tables):IC->(AX->St->Prop)->St->Prop
 | .skip,Q,s=>Q .normal s
 | .reg ros gs,Q,s=>Fv P Γ ros s (fun s1=>Q .normal (ghs gs s1)) ⟨⟩
 | .seq a b,Q,s=>run P Γ a (B1 (run P Γ b Q) Q) s
 | .cond c a b,Q,s=>q46 (ev Γ s.env c) (run P Γ a Q s) (run P Γ b Q s) ⟨⟩ ⟨⟩
 | .block id a,Q,s=>run P Γ a (F2 id Q) s
 | .loop a,Q,s=>W6 P Γ (.loop a) Q s
 | .exit i,Q,s=>Q (.exit i) s
 | .ret,Q,s=>Q .ret s
 | .scope a,Q,s=>run P Γ a Q s
 | .gh a gs,Q,s=>run P Γ a (B1 (fun s=>Q .normal (ghs gs s)) Q) s
 | .ghW a,Q,s=>run P Γ a (B1 (fun s=>∃ s',Imp Γ s s'/\Q .normal s') Q) s
 | .pre gs a,Q,s=>run P Γ a Q (ghs gs s)
 | .dead,_,_=>False
theorem Em {P:Program} {Γ:Tables}:∀ {c:IC} {Q:AX->St->Prop} {s:St},run P Γ c Q s->W6 P Γ c Q s
 | .skip,_,_,h=>h
 | .reg ros gs,_,_,h=>q3H h
 | .seq a b,Q,s,h=>Ai (c:=a) (Em (c:=a) h) fun e s h=>by
  cases e with
  | normal=>exact Em (c:=b) h
  | exit i=>exact h
  | ret=>exact h
 | .cond c a b,Q,s,h=>by
  simp only[run,q46]at h
  split at h
  ·rename_i t ht;exact⟨t,ht,fun e=>Em (c:=a) (h.1 e),fun e=>Em (c:=b) (h.2 e)⟩
  ·exact h.elim
 | .block id a,Q,s,h=>Em (c:=a) h
 | .loop a,Q,s,h=>h
 | .exit _,_,_,h=>h
 | .ret,_,_,h=>h
 | .scope a,Q,s,h=>Em (c:=a) h
 | .gh a gs,Q,s,h=>Ai (c:=a) (Em (c:=a) h) fun e s h=>by
  cases e with
  | normal=>exact h
  | exit i=>exact h
  | ret=>exact h
 | .ghW a,Q,s,h=>Ai (c:=a) (Em (c:=a) h) fun e s h=>by
  cases e with
  | normal=>exact h
  | exit i=>exact h
  | ret=>exact h
 | .pre _ a,_,_,h=>Em (c:=a) h
 | .dead,_,_,h=>h.elim
def ret (fl:Bool) (rvs:List RV) (R:T->Prop):AX->St->Prop
 | .exit _,_=>False
 | .normal,s | .ret,s=>(match S4 s rvs with|some (c,r)=>c/\R r|none=>False)/\(fl=true->Ek s)
theorem qGf {rvs:List RV} {R:T->Prop} {e:AX} {s:St} {fl:Bool} (h:ret fl rvs R e s):∃ res,R res/\(if fl then qGc rvs res e s else qKN rvs res e s):=by
 cases e with
 | exit i=>exact h.elim
 | normal =>
  obtain⟨h,hf⟩:=h
  split at h
  ·rename_i c r hr
   refine⟨r,h.2,?_⟩
   cases fl
   ·exact⟨c,hr,h.1⟩
   ·exact⟨c,hr,h.1,hf rfl⟩
  ·exact h.elim
 | ret =>
  obtain⟨h,hf⟩:=h
  split at h
  ·rename_i c r hr
   refine⟨r,h.2,?_⟩
   cases fl
   ·exact⟨c,hr,h.1⟩
   ·exact⟨c,hr,h.1,hf rfl⟩
  ·exact h.elim
theorem run_pure {P:Program} {Γ:Tables} {f:FuncId} {ic:IC} {N n:Nat} {rvs:List RV} {args:List T} {R:T->Prop} (hc:Ax P f ic N n rvs=true) (hn:args.length=n) (h:run P Γ ic (ret false rvs R) ⟨params 0 args,[]⟩):∃ res,An P Γ f args res/\R res:=by
 obtain⟨e,s,h1,h2⟩:=G4 (Em h)
 obtain⟨res,hR,hq⟩:=qGf h1
 exact⟨res,q5P hc hn (Ai h2 fun e s ⟨he,hs⟩=>by subst he;subst hs;exact hq),hR⟩
theorem q7G {P:Program} {Γ:Tables} {f:FuncId} {ic:IC} {N n:Nat} {rvs:List RV} {args:List T} {R:T->Prop} (hc:Ax P f ic N n rvs=true) (hn:args.length=n) (h:run P Γ ic (ret true rvs R) ⟨params 0 args,[]⟩):∃ res,A6 P Γ f args res/\R res:=by
 obtain⟨e,s,h1,h2⟩:=G4 (Em h)
 obtain⟨res,hR,hq⟩:=qGf h1
 exact⟨res,q45 hc hn (Ai h2 fun e s ⟨he,hs⟩=>by subst he;subst hs;exact hq),hR⟩
def qAR (rvs:List RV) (R:AV->List (Nat×Aj)->Prop):AX->St->Prop
 | .exit _,_=>False
 | .normal,s | .ret,s=>match Vj s rvs with|some (c,r)=>c/\R r s.hp|none=>False
theorem qDp {rvs:List RV} {R:AV->List (Nat×Aj)->Prop} {e:AX} {s:St} (h:qAR rvs R e s):∃ res hp',R res hp'/\q0w rvs res hp' e s:=by
 have key:∀ s:St,(match Vj s rvs with|some (c,r)=>c/\R r s.hp|none=>False)->∃ res hp',R res hp'/\∃ c,Vj s rvs=some (c,res)/\c/\s.hp=hp':=by
  intro s h
  split at h
  ·rename_i c r hr;exact⟨r,s.hp,h.2,c,hr,h.1,rfl⟩
  ·exact h.elim
 cases e with
 | exit i=>exact h.elim
 | normal=>exact key s h
 | ret=>exact key s h
theorem qDq {P:Program} {Γ:Tables} {f:FuncId} {ic:IC} {N n:Nat} {rvs:List RV} {hp:List (Nat×Aj)} {args:List AV} {R:AV->List (Nat×Aj)->Prop} (hc:Ax P f ic N n rvs=true) (hn:args.length=n) (h:run P Γ ic (qAR rvs R) ⟨Xy 0 args,hp⟩) :
  ∃ res hp',Bl P Γ f hp args res hp'/\R res hp':=by
 obtain⟨e,s,h1,h2⟩:=G4 (Em h)
 obtain⟨res,hp',hR,hq⟩:=qDp h1
 exact⟨res,hp',qBc hc hn (Ai h2 fun e s ⟨he,hs⟩=>by subst he;subst hs;exact hq),hR⟩
theorem A5 {n:Int} (h1 : -9223372036854775808<=n) (h2:n<=9223372036854775807):IntKind.i64.wrap n=n:=by
 simp[IntKind.wrap,IntKind.signed,IntKind.bits]
 split<;>omega
theorem q0e {n:Int} (h1:0<=n) (h2:n<=255):IntKind.u8.wrap n=n:=by
 simp[IntKind.wrap,IntKind.signed,IntKind.bits]
 omega
section
variable {P:Program} {Γ:Tables} {Q Q':AX->St->Prop} {s s':St} {hp hp':List (Nat×Aj)}
theorem Au {a:IC} (h:∀ K:St->Prop,K=run P Γ (.loop a) Q->run P Γ a (B1 K Q) s):run P Γ (.loop a) Q s:=qDh (Em (h _ rfl))
@[simp ↓] theorem qLe {a b:IC}:run P Γ (.seq a b) Q s=run P Γ a (B1 (run P Γ b Q) Q) s:=Eq.trans rfl rfl
@[simp ↓] theorem qLf {ros:List RO} {gs:List Gh}:run P Γ (.reg ros gs) Q s=Fv P Γ ros s (fun s1=>Q .normal (ghs gs s1)) ⟨⟩:=Eq.trans rfl rfl
@[simp ↓] theorem qKQ {c:Operand} {a b:IC}:run P Γ (.cond c a b) Q s=q46 (ev Γ s.env c) (run P Γ a Q s) (run P Γ b Q s) ⟨⟩ ⟨⟩:=Eq.trans rfl rfl
@[simp ↓] theorem qJL {id:Nat} {a:IC}:run P Γ (.block id a) Q s=run P Γ a (F2 id Q) s:=Eq.trans rfl rfl
@[simp ↓] theorem qJM {a:IC}:run P Γ (.scope a) Q s=run P Γ a Q s:=Eq.trans rfl rfl
@[simp ↓] theorem qMG {a:IC} {gs:List Gh}:run P Γ (.gh a gs) Q s=run P Γ a (B1 (fun s=>Q .normal (ghs gs s)) Q) s:=Eq.trans rfl rfl
@[simp ↓] theorem qLg {a:IC}:run P Γ (.ghW a) Q s=run P Γ a (B1 (fun s=>∃ s',Imp Γ s s'/\Q .normal s') Q) s:=Eq.trans rfl rfl
@[simp ↓] theorem qLh {a:IC} {gs:List Gh}:run P Γ (.pre gs a) Q s=run P Γ a Q (ghs gs s):=Eq.trans rfl rfl
@[simp ↓] theorem qKR:run P Γ .skip Q s=Q .normal s:=Eq.trans rfl rfl
@[simp ↓] theorem qKS {i:Nat}:run P Γ (.exit i) Q s=Q (.exit i) s:=Eq.trans rfl rfl
@[simp ↓] theorem qLi:run P Γ .ret Q s=Q .ret s:=Eq.trans rfl rfl
@[simp ↓] theorem qKT:run P Γ .dead Q s=False:=Eq.trans rfl rfl
@[simp ↓] theorem qJN {c:Prop} {r:AV} {K:AV->St->Prop}:Bz (some (c,r,s)) K ⟨⟩=(c/\K r s):=Eq.trans rfl rfl
@[simp ↓] theorem qJO {K:AV->St->Prop}:Bz none K ⟨⟩=False:=Eq.trans rfl rfl
@[simp ↓] theorem qKU {as:List AV} {K:List AV->Prop}:asK (some as) K ⟨⟩=K as:=Eq.trans rfl rfl
@[simp ↓] theorem qKV {f:FuncId} {cs:List AV} {K:FuncId->List AV->Prop}:fnK (some (f,cs)) K ⟨⟩=K f cs:=Eq.trans rfl rfl
@[simp ↓,simp] theorem qHq {A B:Prop}:q46 (some (.t (.v (.bool true)))) A B ⟨⟩ ⟨⟩=A:=by simp[q46]
@[simp ↓,simp] theorem qGg {A B:Prop}:q46 (some (.t (.v (.bool false)))) A B ⟨⟩ ⟨⟩=B:=by simp[q46]
@[simp low] theorem qHr {t:Bool} {A B:Prop}:q46 (some (.t (.v (.bool t)))) A B ⟨⟩ ⟨⟩=((t=true->Dy A ⟨⟩)/\(t=false->Dy B ⟨⟩)):=Eq.trans rfl rfl
@[simp ↓] theorem qHs {A B:Prop}:q5T (some true) A B ⟨⟩ ⟨⟩=A:=Eq.trans rfl rfl
@[simp ↓] theorem qGh {A B:Prop}:q5T (some false) A B ⟨⟩ ⟨⟩=B:=Eq.trans rfl rfl
@[simp ↓,simp] theorem qHt {K:St->Prop}:Fv P Γ [] s K ⟨⟩=K s:=Eq.trans rfl rfl
@[simp ↓,simp] theorem qHu {d:Nat}  {io:B6} {ros:List RO} {K:St->Prop} :
  Fv P Γ (⟨some d,io,none,none⟩::ros) s K ⟨⟩=Am P Γ d io s fun q st1=>Fv P Γ ros ⟨(d,q)::st1.env,st1.hp⟩ K ⟨⟩:=Eq.trans rfl rfl
@[simp ↓,simp] theorem qHv {d:Nat}  {r:Nat} {io:B6} {ros:List RO} {K:St->Prop} :
  Fv P Γ (⟨some d,io,none,some r⟩::ros) s K ⟨⟩=Am P Γ r io s fun q st1=>Fv P Γ ros ⟨(d,q)::st1.env,st1.hp⟩ K ⟨⟩:=Eq.trans rfl rfl
@[simp ↓,simp] theorem qHw {d:Nat} {g:Nat} {b:Bool} {io:B6} {ros:List RO} {K:St->Prop} :
  Fv P Γ (⟨some d,io,some (g,b),none⟩::ros) s K ⟨⟩=q5T (D4 s.env (some (g,b))) (Am P Γ d io s fun q st1=>Fv P Γ ros ⟨(d,q)::st1.env,st1.hp⟩ K ⟨⟩) (Fv P Γ ros ⟨(d,.un)::s.env,s.hp⟩ K ⟨⟩) ⟨⟩ ⟨⟩:=Eq.trans rfl rfl
@[simp ↓,simp] theorem qHx {d:Nat} {g:Nat} {b:Bool} {r:Nat} {io:B6} {ros:List RO} {K:St->Prop} :
  Fv P Γ (⟨some d,io,some (g,b),some r⟩::ros) s K ⟨⟩=q5T (D4 s.env (some (g,b))) (Am P Γ r io s fun q st1=>Fv P Γ ros ⟨(d,q)::st1.env,st1.hp⟩ K ⟨⟩) (Fv P Γ ros ⟨(d,.un)::s.env,s.hp⟩ K ⟨⟩) ⟨⟩ ⟨⟩:=Eq.trans rfl rfl
@[simp ↓,simp] theorem qHy   {io:B6} {ros:List RO} {K:St->Prop} :
  Fv P Γ (⟨none,io,none,none⟩::ros) s K ⟨⟩=Am P Γ 0 io s fun q st1=>Fv P Γ ros st1 K ⟨⟩:=Eq.trans rfl rfl
@[simp ↓,simp] theorem qHz  {g:Nat} {b:Bool} {io:B6} {ros:List RO} {K:St->Prop} :
  Fv P Γ (⟨none,io,some (g,b),none⟩::ros) s K ⟨⟩=q5T (D4 s.env (some (g,b))) (Am P Γ 0 io s fun q st1=>Fv P Γ ros st1 K ⟨⟩) (Fv P Γ ros s K ⟨⟩) ⟨⟩ ⟨⟩:=Eq.trans rfl rfl
@[simp ↓] theorem qFq {n:St->Prop}:B1 n Q .normal s=n s:=Eq.trans rfl rfl
@[simp ↓] theorem qI0 {n:St->Prop} {i:Nat}:B1 n Q (.exit i) s=Q (.exit i) s:=Eq.trans rfl rfl
@[simp ↓] theorem qJP {n:St->Prop}:B1 n Q .ret s=Q .ret s:=Eq.trans rfl rfl
@[simp ↓] theorem qFF {id:Nat}:F2 id Q .normal s=Q .normal s:=Eq.trans rfl rfl
@[simp ↓] theorem qGi {id i:Nat}:F2 id Q (.exit i) s=if i=id then Q .normal s else Q (.exit i) s:=Eq.trans rfl rfl
@[simp ↓] theorem qI1 {id:Nat}:F2 id Q .ret s=Q .ret s:=Eq.trans rfl rfl
@[simp ↓] theorem qLj:ghs [] s=s:=Eq.trans rfl rfl
theorem Et {g:Gh} {gs:List Gh}:ghs (g::gs) s=ghs gs (g.run s):=rfl
@[simp ↓,simp] theorem qKW {g:Gh} {gs:List Gh} {e:List (Nat×AV)} {h:List (Nat×Aj)}:ghs (g::gs) ⟨e,h⟩=ghs gs (g.run ⟨e,h⟩):=Eq.trans rfl rfl
@[simp] theorem q5U {α:Type} {l:List (Nat×α)}:Lg.keep [] l=[]:=Eq.trans rfl rfl
@[simp] theorem q3I {α:Type} {k:Nat} {ks:List Nat} {l:List (Nat×α)}:Lg.keep (k::ks) l=match A2 l k with|some v=>(k,v)::Lg.keep ks l|none=>Lg.keep ks l:=by
 unfold Lg.keep
 rw[List.filterMap_cons]
 cases A2 l k<;>rfl
@[simp ↓] theorem qMH {d:Nat} {st:St} {x:Operand}:A7 Γ d (.mv x) st=(
   (ev Γ st.env x).map fun a=>(True,a,st)):=Eq.trans rfl rfl
@[simp ↓] theorem qKX {d:Nat} {st:St} {K:AV->St->Prop} {x:Operand}:Am P Γ d (.mv x) st K=Bz (A7 Γ d (.mv x) st) K ⟨⟩:=Eq.trans rfl rfl
@[simp ↓] theorem qKY {d:Nat} {st:St} {c:Operand} {a:Operand} {b:Operand}:A7 Γ d (.pick c a b) st=(
   match ev Γ st.env c,ev Γ st.env a,ev Γ st.env b with
    | some (.t (.v (.bool p))),some a,some b=>some (True,q1J p a b,st)
    | _,_,_=>none):=Eq.trans rfl rfl
@[simp ↓] theorem qI2 {d:Nat} {st:St} {K:AV->St->Prop} {c:Operand} {a:Operand} {b:Operand}:Am P Γ d (.pick c a b) st K=Bz (A7 Γ d (.pick c a b) st) K ⟨⟩:=Eq.trans rfl rfl
@[simp ↓] theorem qJQ {d:Nat} {st:St} {fz:Bool} {zs:List Value}:A7 Γ d (.alloc fz zs) st=(
  if fz then some (True,.t (.ip (zs.map Ar) 0),st)
  else some (A2 st.hp d=none,.lp d 0 0,⟨st.env,(d,.bx (zs.map fun z=>.t (Ar z)))::st.hp⟩)):=Eq.trans rfl rfl
@[simp ↓] theorem qGj {d:Nat} {st:St} {K:AV->St->Prop} {fz:Bool} {zs:List Value}:Am P Γ d (.alloc fz zs) st K=Bz (A7 Γ d (.alloc fz zs) st) K ⟨⟩:=Eq.trans rfl rfl
@[simp ↓] theorem qI3 {d:Nat} {st:St} {ty:Nat} {zs:List Value}:A7 Γ d (.allocR ty zs) st=some (A2 st.hp d=none,.lp d 0 0,⟨st.env,(d,.rs ty zs.length [zs.map fun z=>.t (Ar z)])::st.hp⟩):=Eq.trans rfl rfl
@[simp ↓] theorem qFr {d:Nat} {st:St} {K:AV->St->Prop} {ty:Nat} {zs:List Value}:Am P Γ d (.allocR ty zs) st K=Bz (A7 Γ d (.allocR ty zs) st) K ⟨⟩:=Eq.trans rfl rfl
@[simp ↓] theorem qLk {d:Nat} {st:St} {fz:Bool} {x:Operand}:A7 Γ d (.box fz x) st=(
   (ev Γ st.env x).bind fun a =>
    if fz then(Iq a.cells).map fun ts=>(Bi ts=true,.t (.ip ts 0),st)
    else some (A2 st.hp d=none/\Aw a.cells=true,.lp d 0 0,⟨st.env,(d,.bx a.cells)::st.hp⟩)):=Eq.trans rfl rfl
@[simp ↓] theorem qJR {d:Nat} {st:St} {K:AV->St->Prop} {fz:Bool} {x:Operand}:Am P Γ d (.box fz x) st K=Bz (A7 Γ d (.box fz x) st) K ⟨⟩:=Eq.trans rfl rfl
@[simp ↓] theorem qJS {d:Nat} {st:St} {parts:List (Nat×Operand)}:A7 Γ d (.build parts) st=(
   (Ip Γ st.env (parts.map (·.2))).map fun as=>(as.map (·.cells.length)=parts.map (·.1)/\Aw (as.flatMap AV.cells)=true,.ag (as.flatMap AV.cells),st)):=Eq.trans rfl rfl
@[simp ↓] theorem qGk {d:Nat} {st:St} {K:AV->St->Prop} {parts:List (Nat×Operand)}:Am P Γ d (.build parts) st K=Bz (A7 Γ d (.build parts) st) K ⟨⟩:=Eq.trans rfl rfl
@[simp ↓] theorem qLl {d:Nat} {st:St} {fz:Bool} {ty:Nat} {s:Nat} {parts:List Operand}:A7 Γ d (.bsl fz ty s parts) st=(
   (Ip Γ st.env parts).bind fun as=>(Ac (as.map fun a=>Iq a.cells)).map fun es =>
    if fz then((∀ e∈es,e.length=s/\Bi e=true),.t (.sl es (some es.length) (some false)),st)
    else(A2 st.hp d=none/\(∀ e∈es,e.length=s/\Bi e=true),.ls d 0 es.length none,⟨st.env,(d,.sl ty s es)::st.hp⟩)):=Eq.trans rfl rfl
@[simp ↓] theorem qJT {d:Nat} {st:St} {K:AV->St->Prop} {fz:Bool} {ty:Nat} {s:Nat} {parts:List Operand}:Am P Γ d (.bsl fz ty s parts) st K=Bz (A7 Γ d (.bsl fz ty s parts) st) K ⟨⟩:=Eq.trans rfl rfl
@[simp ↓] theorem qKZ {d:Nat} {st:St} {n:Nat} {g:Bool} {a:Operand}:A7 Γ d (.load n g a) st=(
   match ev Γ st.env a with
    | some (.t (.ip cs k))=>some (k+n<=cs.length,.t (Ia g ((cs.drop k).take n)),st)
    | some (.lp id i k)=>match A2 st.hp id with
      | some (.sl _ s es)=>some (i<es.length/\k+n<=s,.t (Ia g (((es.getD i []).drop k).take n)),st)
      | some (.rs _ s es)=>some (i<es.length/\k+n<=s,Je g (((es.getD i []).drop k).take n),st)
      | some (.bx cs)=>some (i=0/\k+n<=cs.length,Je g ((cs.drop k).take n),st)
      | _=>none
    | _=>none):=Eq.trans rfl rfl
@[simp ↓] theorem qI4 {d:Nat} {st:St} {K:AV->St->Prop} {n:Nat} {g:Bool} {a:Operand}:Am P Γ d (.load n g a) st K=Bz (A7 Γ d (.load n g a) st) K ⟨⟩:=Eq.trans rfl rfl
@[simp ↓] theorem qJU {d:Nat} {st:St} {n:Nat} {a:Operand} {x:Operand}:A7 Γ d (.store n a x) st=(
   (ev Γ st.env x).bind fun v=>match ev Γ st.env a with
    | some (.lp id i k)=>match A2 st.hp id with
      | some (.sl ty s es)=>(Iq v.cells).map fun ts =>
        (i<es.length/\k+n<=s/\ts.length=n/\Bi ts=true,.un,
          ⟨st.env,Bm id (.sl ty s (es.set i (if k=0/\n=s then ts else(es.getD i []).take k++ts++(es.getD i []).drop (k+n)))) st.hp⟩)
      | some (.rs ty s es)=>some (i<es.length/\k+n<=s/\v.cells.length=n/\Aw v.cells=true,.un,
          ⟨st.env,Bm id (.rs ty s (es.set i (if k=0/\n=s then v.cells else(es.getD i []).take k++v.cells++(es.getD i []).drop (k+n)))) st.hp⟩)
      | some (.bx cs)=>some (i=0/\k+n<=cs.length/\v.cells.length=n/\Aw v.cells=true,.un,⟨st.env,Bm id (.bx (cs.take k++v.cells++cs.drop (k+n))) st.hp⟩)
      | _=>none
    | _=>none):=Eq.trans rfl rfl
@[simp ↓] theorem qGl {d:Nat} {st:St} {K:AV->St->Prop} {n:Nat} {a:Operand} {x:Operand}:Am P Γ d (.store n a x) st K=Bz (A7 Γ d (.store n a x) st) K ⟨⟩:=Eq.trans rfl rfl
@[simp ↓] theorem qKa {d:Nat} {st:St} {off:Nat} {a:Operand}:A7 Γ d (.fadr off a) st=(
   match ev Γ st.env a with
    | some (.t (.ip cs k))=>some (True,.t (.ip cs (k+off)),st)
    | some (.lp id i k)=>some (True,.lp id i (k+off),st)
    | _=>none):=Eq.trans rfl rfl
@[simp ↓] theorem qI5 {d:Nat} {st:St} {K:AV->St->Prop} {off:Nat} {a:Operand}:Am P Γ d (.fadr off a) st K=Bz (A7 Γ d (.fadr off a) st) K ⟨⟩:=Eq.trans rfl rfl
@[simp ↓] theorem qLm {d:Nat} {st:St} {off:Nat} {n:Nat} {g:Bool} {x:Operand}:A7 Γ d (.fld off n g x) st=(
   (ev Γ st.env x).bind fun a=>match a with
    | .ag cs=>some (off+n<=cs.length,Je g ((cs.drop off).take n),st)
    | .t (.agg ts)=>some (off+n<=ts.length,.t (Ia g ((ts.drop off).take n)),st)
    | _=>none):=Eq.trans rfl rfl
@[simp ↓] theorem qJV {d:Nat} {st:St} {K:AV->St->Prop} {off:Nat} {n:Nat} {g:Bool} {x:Operand}:Am P Γ d (.fld off n g x) st K=Bz (A7 Γ d (.fld off n g x) st) K ⟨⟩:=Eq.trans rfl rfl
@[simp ↓] theorem qKb {d:Nat} {st:St} {s:Nat} {x:Operand} {i:Operand}:A7 Γ d (.iadr s x i) st=(
   match ev Γ st.env x,ev Γ st.env i with
    | some (.t (.sl es _ _)),some (.t (.v (.int _ n)))=>some (0<=n/\n<es.length/\Gk s es,.t (.ip (es.getD n.toNat []) 0),st)
    | some (.ls id off len _),some (.t (.v (.int _ n)))=>match A2 st.hp id with
      | some (.sl _ q _)=>some (q=s/\0<=n/\n<len,.lp id (off+n.toNat) 0,st)
      | some (.rs _ q _)=>some (q=s/\0<=n/\n<len,.lp id (off+n.toNat) 0,st)
      | _=>none
    | some (.lb id m),some (.t (.v (.int _ n)))=>match A2 st.hp id with
      | some (.bx _)=>some (s=1/\0<=n/\n<m,.lp id 0 n.toNat,st)
      | _=>none
    | _,_=>none):=Eq.trans rfl rfl
@[simp ↓] theorem qI6 {d:Nat} {st:St} {K:AV->St->Prop} {s:Nat} {x:Operand} {i:Operand}:Am P Γ d (.iadr s x i) st K=Bz (A7 Γ d (.iadr s x i) st) K ⟨⟩:=Eq.trans rfl rfl
@[simp ↓] theorem qKc {d:Nat} {st:St} {s:Nat} {x:Operand} {i:Operand}:A7 Γ d (.iadT s x i) st=(
   match ev Γ st.env x,ev Γ st.env i with
    | some (.t (.sl es _ _)),some (.t (.v (.int _ n)))=>some (0<=n/\n<es.length/\Gk s es,.t (.ip (es.getD n.toNat []) 0),st)
    | _,_=>none):=Eq.trans rfl rfl
@[simp ↓] theorem qI7 {d:Nat} {st:St} {K:AV->St->Prop} {s:Nat} {x:Operand} {i:Operand}:Am P Γ d (.iadT s x i) st K=Bz (A7 Γ d (.iadT s x i) st) K ⟨⟩:=Eq.trans rfl rfl
@[simp ↓] theorem qJW {d:Nat} {st:St} {len:Nat} {s:Nat} {x:Operand} {i:Operand}:A7 Γ d (.iadrA len s x i) st=(
   match ev Γ st.env x,ev Γ st.env i with
    | some (.t (.ip cs k)),some (.t (.v (.int _ n)))=>some (0<=n/\n<len,.t (.ip cs (k+n.toNat*s)),st)
    | some (.lp id j k),some (.t (.v (.int _ n)))=>some (0<=n/\n<len,.lp id j (k+n.toNat*s),st)
    | _,_=>none):=Eq.trans rfl rfl
@[simp ↓] theorem qGm {d:Nat} {st:St} {K:AV->St->Prop} {len:Nat} {s:Nat} {x:Operand} {i:Operand}:Am P Γ d (.iadrA len s x i) st K=Bz (A7 Γ d (.iadrA len s x i) st) K ⟨⟩:=Eq.trans rfl rfl
@[simp ↓] theorem qKd {d:Nat} {st:St} {x:Operand} {i:Operand}:A7 Γ d (.idxS x i) st=(
   match ev Γ st.env x,ev Γ st.env i with
    | some (.t (.v (.string s))),some (.t (.v (.int _ n)))=>some (0<=n/\n<s.size,.t (.v (.int .u8 (s.data.getD n.toNat 0).toNat)),st)
    | _,_=>none):=Eq.trans rfl rfl
@[simp ↓] theorem qI8 {d:Nat} {st:St} {K:AV->St->Prop} {x:Operand} {i:Operand}:Am P Γ d (.idxS x i) st K=Bz (A7 Γ d (.idxS x i) st) K ⟨⟩:=Eq.trans rfl rfl
@[simp ↓] theorem qKe {d:Nat} {st:St} {len:Nat} {s:Nat} {g:Bool} {x:Operand} {i:Operand}:A7 Γ d (.idxA len s g x i) st=(
   match ev Γ st.env x,ev Γ st.env i with
    | some (.t (.agg ts)),some (.t (.v (.int _ n)))=>some (0<=n/\n<len/\n.toNat*s+s<=ts.length,.t (Ia g ((ts.drop (n.toNat*s)).take s)),st)
    | some (.ag cs),some (.t (.v (.int _ n)))=>some (0<=n/\n<len/\n.toNat*s+s<=cs.length,Je g ((cs.drop (n.toNat*s)).take s),st)
    | _,_=>none):=Eq.trans rfl rfl
@[simp ↓] theorem qI9 {d:Nat} {st:St} {K:AV->St->Prop} {len:Nat} {s:Nat} {g:Bool} {x:Operand} {i:Operand}:Am P Γ d (.idxA len s g x i) st K=Bz (A7 Γ d (.idxA len s g x i) st) K ⟨⟩:=Eq.trans rfl rfl
@[simp ↓] theorem qLn {d:Nat} {st:St} {op:BinOp} {x:Operand} {y:Operand}:A7 Γ d (.bin op x y) st=(
   match ev Γ st.env x,ev Γ st.env y with
    | some (.t (.v a)),some (.t (.v b))=>(Z5 op a b).map fun r=>(r.1,.t (.v r.2),st)
    | _,_=>none):=Eq.trans rfl rfl
@[simp ↓] theorem qJX {d:Nat} {st:St} {K:AV->St->Prop} {op:BinOp} {x:Operand} {y:Operand}:Am P Γ d (.bin op x y) st K=Bz (A7 Γ d (.bin op x y) st) K ⟨⟩:=Eq.trans rfl rfl
@[simp ↓] theorem qJY {d:Nat} {st:St} {pos:Bool} {x:Operand}:A7 Γ d (.isNil pos x) st=(
   match ev Γ st.env x with
    | some (.t (.sl es _ nl))=>match nl with
      | some q=>some (True,.t (.v (.bool (q==pos))),st)
      | none=>some (es≠[],.t (.v (.bool (!pos))),st)
    | _=>none):=Eq.trans rfl rfl
@[simp ↓] theorem qGn {d:Nat} {st:St} {K:AV->St->Prop} {pos:Bool} {x:Operand}:Am P Γ d (.isNil pos x) st K=Bz (A7 Γ d (.isNil pos x) st) K ⟨⟩:=Eq.trans rfl rfl
@[simp ↓] theorem qLo {d:Nat} {st:St} {pos:Bool} {x:Operand} {y:Operand}:A7 Γ d (.eqb pos x y) st=(
   match ev Γ st.env x,ev Γ st.env y with
    | some (.t (.v (.bool a))),some (.t (.v (.bool b)))=>some (True,.t (.v (.bool (if pos then a==b else a != b))),st)
    | _,_=>none):=Eq.trans rfl rfl
@[simp ↓] theorem qJZ {d:Nat} {st:St} {K:AV->St->Prop} {pos:Bool} {x:Operand} {y:Operand}:Am P Γ d (.eqb pos x y) st K=Bz (A7 Γ d (.eqb pos x y) st) K ⟨⟩:=Eq.trans rfl rfl
@[simp ↓] theorem qLp {d:Nat} {st:St} {pos:Bool} {ks:List (Option IntKind)} {x:Operand} {y:Operand}:A7 Γ d (.eqg pos ks x y) st=(
   ((ev Γ st.env x).bind q7m).bind fun as=>((ev Γ st.env y).bind q7m).map fun bs=>(Z0 ks as/\Z0 ks bs,.t (.v (.bool (if pos then q0k as bs else !q0k as bs))),st)):=Eq.trans rfl rfl
@[simp ↓] theorem qJa {d:Nat} {st:St} {K:AV->St->Prop} {pos:Bool} {ks:List (Option IntKind)} {x:Operand} {y:Operand}:Am P Γ d (.eqg pos ks x y) st K=Bz (A7 Γ d (.eqg pos ks x y) st) K ⟨⟩:=Eq.trans rfl rfl
@[simp ↓] theorem qMI {d:Nat} {st:St} {op:UnOp} {x:Operand}:A7 Γ d (.un op x) st=(
   match ev Γ st.env x with
    | some (.t (.v a))=>(unV op a).map fun r=>(True,.t (.v r),st)
    | _=>none):=Eq.trans rfl rfl
@[simp ↓] theorem qKf {d:Nat} {st:St} {K:AV->St->Prop} {op:UnOp} {x:Operand}:Am P Γ d (.un op x) st K=Bz (A7 Γ d (.un op x) st) K ⟨⟩:=Eq.trans rfl rfl
@[simp ↓] theorem qKg {d:Nat} {st:St} {k:IntKind} {x:Operand}:A7 Γ d (.conv k x) st=(
   match ev Γ st.env x with
    | some (.t (.v (.int _ n)))=>some (True,.t (.v (.int k (k.wrap n))),st)
    | _=>none):=Eq.trans rfl rfl
@[simp ↓] theorem qIA {d:Nat} {st:St} {K:AV->St->Prop} {k:IntKind} {x:Operand}:Am P Γ d (.conv k x) st K=Bz (A7 Γ d (.conv k x) st) K ⟨⟩:=Eq.trans rfl rfl
@[simp ↓] theorem qFs {d:Nat} {st:St} {x:Operand}:A7 Γ d (.bytesStr x) st=(
   ((ev Γ st.env x).bind (B7 st.hp)).bind fun es=>(Lq es).map fun bs=>(True,.t (.v (.string ⟨bs.toArray⟩)),st)):=Eq.trans rfl rfl
@[simp ↓] theorem qDr {d:Nat} {st:St} {K:AV->St->Prop} {x:Operand}:Am P Γ d (.bytesStr x) st K=Bz (A7 Γ d (.bytesStr x) st) K ⟨⟩:=Eq.trans rfl rfl
@[simp ↓] theorem qGo {d:Nat} {st:St} {x:Operand}:A7 Γ d (.runeStr x) st=(
   match ev Γ st.env x with
    | some (.t (.v (.int _ n)))=>some (True,.t (.v (.string (Utf8.encode n))),st)
    | _=>none):=Eq.trans rfl rfl
@[simp ↓] theorem qFG {d:Nat} {st:St} {K:AV->St->Prop} {x:Operand}:Am P Γ d (.runeStr x) st K=Bz (A7 Γ d (.runeStr x) st) K ⟨⟩:=Eq.trans rfl rfl
@[simp ↓] theorem qLq {d:Nat} {st:St} {k:Nat} {x:Operand}:A7 Γ d (.len k x) st=(
   (ev Γ st.env x).bind fun a=>if qCH k a then(lenOf st.hp a).map fun(n:Nat)=>(True,.t (.v (.int .i64 (n:Int))),st)else none):=Eq.trans rfl rfl
@[simp ↓] theorem qJb {d:Nat} {st:St} {K:AV->St->Prop} {k:Nat} {x:Operand}:Am P Γ d (.len k x) st K=Bz (A7 Γ d (.len k x) st) K ⟨⟩:=Eq.trans rfl rfl
@[simp ↓] theorem qLr {d:Nat} {st:St} {x:Operand}:A7 Γ d (.cap x) st=(
   match ev Γ st.env x with
    | some (.t (.sl _ (some c) _))=>some (True,.t (.v (.int .i64 c)),st)
    | some (.ls _ _ _ (some c))=>some (True,.t (.v (.int .i64 c)),st)
    | _=>none):=Eq.trans rfl rfl
@[simp ↓] theorem qJc {d:Nat} {st:St} {K:AV->St->Prop} {x:Operand}:Am P Γ d (.cap x) st K=Bz (A7 Γ d (.cap x) st) K ⟨⟩:=Eq.trans rfl rfl
@[simp ↓] theorem qLs {d:Nat} {st:St} {mx:Bool} {xs:List Operand}:A7 Γ d (.mmx mx xs) st=(
   (Ip Γ st.env xs).bind fun as=>(Vf mx as none).map fun r=>(G2 r.1 as=true,.t (.v (.int r.1 r.2)),st)):=Eq.trans rfl rfl
@[simp ↓] theorem qJd {d:Nat} {st:St} {K:AV->St->Prop} {mx:Bool} {xs:List Operand}:Am P Γ d (.mmx mx xs) st K=Bz (A7 Γ d (.mmx mx xs) st) K ⟨⟩:=Eq.trans rfl rfl
@[simp ↓] theorem qLt {d:Nat} {st:St} {fz:Bool} {ty:Nat} {s:Nat} {b:Operand} {x:Operand}:A7 Γ d (.app fz ty s b x) st=(
   ((ev Γ st.env x).bind (B7 st.hp)).bind fun news=>(ev Γ st.env b).bind fun a =>
    let fin (c0:Prop) (es:List (List T)) (st':St):Option (Prop×AV×St) :=
      let c:Prop:=Gk s news/\c0
      if fz then some (c,.t (.sl es none none),st')
      else some (c/\A2 st'.hp d=none,.ls d 0 es.length none,⟨st'.env,(d,.sl ty s es)::st'.hp⟩)
    match a with
    | .t (.sl es (some c) _)=>fin (Gk s es/\c=es.length/\es.length+news.length<=2147483648/\(fz=true\/news≠[]\/es=[])) (es++news) st
    | .ls id off len (some c)=>match A2 st.hp id with
      | some (.sl t q es)=>fin (t=ty/\q=s/\c=len/\len+news.length<=2147483648/\(news≠[]\/len=0)) ((es.drop off).take len++news) st
      | _=>none
    | .ls id 0 len none=>match A2 st.hp id with
      | some (.sl t q es)=>fin (t=ty/\q=s/\len+news.length<=2147483648) (es.take len++news) (st.kill id)
      | _=>none
    | _=>none):=Eq.trans rfl rfl
@[simp ↓] theorem qJe {d:Nat} {st:St} {K:AV->St->Prop} {fz:Bool} {ty:Nat} {s:Nat} {b:Operand} {x:Operand}:Am P Γ d (.app fz ty s b x) st K=Bz (A7 Γ d (.app fz ty s b x) st) K ⟨⟩:=Eq.trans rfl rfl
@[simp ↓] theorem qKh {d:Nat} {st:St} {u0:Nat} {s:Nat} {b:Operand} {x:Operand}:A7 Γ d (.appT u0 s b x) st=(
   ((ev Γ st.env x).bind (B7 st.hp)).bind fun news=>match ev Γ st.env b with
    | some (.t (.sl es (some c) _))=>some (Gk s news/\Gk s es/\c=es.length/\es.length+news.length<=2147483648,.t (.sl (es++news) none none),st)
    | _=>none):=Eq.trans rfl rfl
@[simp ↓] theorem qIB {d:Nat} {st:St} {K:AV->St->Prop} {u0:Nat} {s:Nat} {b:Operand} {x:Operand}:Am P Γ d (.appT u0 s b x) st K=Bz (A7 Γ d (.appT u0 s b x) st) K ⟨⟩:=Eq.trans rfl rfl
@[simp ↓] theorem qKi {d:Nat} {st:St} {b:Operand} {x:Operand}:A7 Γ d (.appB b x) st=(
   ((ev Γ st.env x).bind (B7 st.hp)).bind fun news=>match ev Γ st.env b with
    | some (.t (.sl es (some c) _))=>some (Gk 1 news/\Gk 1 es/\c=es.length/\es.length+news.length<=140737488355328,.t (.sl (es++news) none none),st)
    | _=>none):=Eq.trans rfl rfl
@[simp ↓] theorem qIC {d:Nat} {st:St} {K:AV->St->Prop} {b:Operand} {x:Operand}:Am P Γ d (.appB b x) st K=Bz (A7 Γ d (.appB b x) st) K ⟨⟩:=Eq.trans rfl rfl
@[simp ↓] theorem qKj {d:Nat} {st:St} {fz:Bool} {i ty:Nat} {b:Operand} {x:Operand}:A7 Γ d (.appR fz i ty b x) st=(
   match ev Γ st.env x,ev Γ st.env b with
    | some (.t (.sl news _ _)),some (.ls id 0 len none)=>match A2 st.hp i with
      | some (.sl t q es) =>
        if fz then some (id=i/\Gk 1 news/\t=ty/\q=1/\len+news.length<=140737488355328,.t (.sl (es.take len++news) none none),st.kill i)
        else some ((id=i/\Gk 1 news/\t=ty/\q=1/\len+news.length<=140737488355328)/\A2 (st.kill i).hp d=none,.ls d 0 (es.take len++news).length none,⟨(st.kill i).env,(d,.sl ty 1 (es.take len++news))::(st.kill i).hp⟩)
      | _=>none
    | _,_=>none):=Eq.trans rfl rfl
@[simp ↓] theorem qID {d:Nat} {st:St} {K:AV->St->Prop} {fz:Bool} {i ty:Nat} {b:Operand} {x:Operand}:Am P Γ d (.appR fz i ty b x) st K=Bz (A7 Γ d (.appR fz i ty b x) st) K ⟨⟩:=Eq.trans rfl rfl
@[simp ↓] theorem qKk {d:Nat} {st:St} {ty:Nat} {s:Nat} {zs:List Value} {b:Operand} {n:Operand}:A7 Γ d (.appZ ty s zs b n) st=(
   match ev Γ st.env b,ev Γ st.env n with
    | some (.t (.sl es (some q) _)),some (.t (.v (.int _ m))) =>
      some (A2 st.hp d=none/\0<m/\(Gk s es/\(q:Int)<es.length+m)/\es.length+m<=2147483648,.ls d 0 (es.length+m.toNat) none,⟨st.env,(d,.sl ty s (es++List.replicate m.toNat (zs.map Ar)))::st.hp⟩)
    | _,_=>none):=Eq.trans rfl rfl
@[simp ↓] theorem qIE {d:Nat} {st:St} {K:AV->St->Prop} {ty:Nat} {s:Nat} {zs:List Value} {b:Operand} {n:Operand}:Am P Γ d (.appZ ty s zs b n) st K=Bz (A7 Γ d (.appZ ty s zs b n) st) K ⟨⟩:=Eq.trans rfl rfl
@[simp ↓] theorem qKl {d:Nat} {st:St} {ty s:Nat} {x:Operand}:A7 Γ d (.appN ty s x) st=(
   match ev Γ st.env x with
    | some (.t (.sl es _ _))=>some (A2 st.hp d=none/\Gk s es/\es.length<=2147483648,.ls d 0 es.length none,⟨st.env,(d,.sl ty s es)::st.hp⟩)
    | _=>none):=Eq.trans rfl rfl
@[simp ↓] theorem qIF {d:Nat} {st:St} {K:AV->St->Prop} {ty s:Nat} {x:Operand}:Am P Γ d (.appN ty s x) st K=Bz (A7 Γ d (.appN ty s x) st) K ⟨⟩:=Eq.trans rfl rfl
@[simp ↓] theorem qLu {d:Nat} {st:St} {s:Nat} {x y:Operand}:A7 Γ d (.cpy s x y) st=(
   match ev Γ st.env x with
    | some (.ls id off len _)=>match A2 st.hp id with
      | some (.sl ty q es)=>((ev Γ st.env y).bind (B7 st.hp)).map fun news =>
        (q=s/\Gk s news,.t (.v (.int .i64 (min len news.length:Nat))),⟨st.env,Bm id (.sl ty s (es.take off++news.take (min len news.length)++es.drop (off+min len news.length))) st.hp⟩)
      | _=>none
    | _=>none):=Eq.trans rfl rfl
@[simp ↓] theorem qJf {d:Nat} {st:St} {K:AV->St->Prop} {s:Nat} {x y:Operand}:Am P Γ d (.cpy s x y) st K=Bz (A7 Γ d (.cpy s x y) st) K ⟨⟩:=Eq.trans rfl rfl
@[simp ↓] theorem qJg {d:Nat} {st:St} {s:Nat} {x:Operand} {lo:Option Operand} {hi:Option Operand} {mx:Option Operand}:A7 Γ d (.slice s x lo hi mx) st=(
   (ev Γ st.env x).bind fun a =>
    match a with
    | .t (.v (.string b))=>(Eo Γ st.env lo 0).bind fun l=>(Eo Γ st.env hi b.size).map fun h=>(s=0/\l.1/\h.1/\l.2<=h.2/\h.2<=b.size,.t (.v (.string (b.extract l.2 h.2))),st)
    | .t (.sl es cap nl)=>(Eo Γ st.env lo 0).bind fun l=>(Eo Γ st.env hi es.length).bind fun h=>match mx with
      | none=>some (s≠0/\Gk s es/\l.1/\h.1/\l.2<=h.2/\h.2<=es.length,.t (.sl ((es.drop l.2).take (h.2-l.2)) (cap.map (· - l.2)) nl),st)
      | some _=>(Eo Γ st.env mx 0).map fun m=>(s≠0/\Gk s es/\l.1/\h.1/\m.1/\l.2<=h.2/\h.2<=m.2/\m.2<=es.length,.t (.sl ((es.drop l.2).take (h.2-l.2)) (some (m.2-l.2)) nl),st)
    | .ls id off len cap=>(Eo Γ st.env lo 0).bind fun l=>(Eo Γ st.env hi len).bind fun h=>match A2 st.hp id with
     | some (.sl _ q _)=>match mx with
      | none=>some (s≠0/\q=s/\l.1/\h.1/\l.2<=h.2/\h.2<=len,.ls id (off+l.2) (h.2-l.2) (cap.map (· - l.2)),st)
      | some _=>(Eo Γ st.env mx 0).map fun m=>(s≠0/\q=s/\l.1/\h.1/\m.1/\l.2<=h.2/\h.2<=m.2/\m.2<=len,.ls id (off+l.2) (h.2-l.2) (some (m.2-l.2)),st)
     | _=>none
    | _=>none):=Eq.trans rfl rfl
@[simp ↓] theorem qGp {d:Nat} {st:St} {K:AV->St->Prop} {s:Nat} {x:Operand} {lo:Option Operand} {hi:Option Operand} {mx:Option Operand}:Am P Γ d (.slice s x lo hi mx) st K=Bz (A7 Γ d (.slice s x lo hi mx) st) K ⟨⟩:=Eq.trans rfl rfl
@[simp ↓] theorem qMJ {d:Nat} {st:St} {ty:Nat} {s:Nat} {zs:List Value} {l:Operand} {c:Operand}:A7 Γ d (.mk ty s zs l c) st=(
   match ev Γ st.env l,ev Γ st.env c with
    | some (.t (.v (.int _ n))),some (.t (.v (.int _ m))) =>
      some (A2 st.hp d=none/\0<=n/\n<=m/\m<=2147483648,.ls d 0 n.toNat none,⟨st.env,(d,.sl ty s (List.replicate n.toNat (zs.map Ar)))::st.hp⟩)
    | _,_=>none):=Eq.trans rfl rfl
@[simp ↓] theorem qKm {d:Nat} {st:St} {K:AV->St->Prop} {ty:Nat} {s:Nat} {zs:List Value} {l:Operand} {c:Operand}:Am P Γ d (.mk ty s zs l c) st K=Bz (A7 Γ d (.mk ty s zs l c) st) K ⟨⟩:=Eq.trans rfl rfl
@[simp ↓] theorem qLv {d:Nat} {st:St} {f:FuncId} {caps:List Operand}:A7 Γ d (.mkf f caps) st=(
   (Ip Γ st.env caps).map fun as=>(Aw as=true,(match Iq as with|some ts=>.t (.fn f ts)|none=>.fn f as),st)):=Eq.trans rfl rfl
@[simp ↓] theorem qJh {d:Nat} {st:St} {K:AV->St->Prop} {f:FuncId} {caps:List Operand}:Am P Γ d (.mkf f caps) st K=Bz (A7 Γ d (.mkf f caps) st) K ⟨⟩:=Eq.trans rfl rfl
@[simp ↓] theorem qKn {d:Nat} {st:St} {f:FuncId} {caps:List Operand}:A7 Γ d (.mkfB f caps) st=(
   (Ip Γ st.env caps).map fun as=>(Aw as=true,.fn (f+1000000000) as,st)):=Eq.trans rfl rfl
@[simp ↓] theorem qIG {d:Nat} {st:St} {K:AV->St->Prop} {f:FuncId} {caps:List Operand}:Am P Γ d (.mkfB f caps) st K=Bz (A7 Γ d (.mkfB f caps) st) K ⟨⟩:=Eq.trans rfl rfl
@[simp ↓] theorem qLw {d:Nat} {st:St} {x:Operand} {i:Nat}:A7 Γ d (.ext x i) st=(
   match ev Γ st.env x with
    | some (.t (.tup vs))=>(vs[i]?).map fun t=>(True,.t t,st)
    | some (.tu vs)=>(vs[i]?).map fun t=>(True,t,st)
    | _=>none):=Eq.trans rfl rfl
@[simp ↓] theorem qJi {d:Nat} {st:St} {K:AV->St->Prop} {x:Operand} {i:Nat}:Am P Γ d (.ext x i) st K=Bz (A7 Γ d (.ext x i) st) K ⟨⟩:=Eq.trans rfl rfl
@[simp ↓] theorem qLx {d:Nat} {st:St} {x:Operand}:A7 Γ d (.nck x) st=(
   match ev Γ st.env x with
    | some (.t (.ip cs k))=>some (True,.t (.ip cs k),st)
    | some (.lp id i k)=>some (True,.lp id i k,st)
    | some (.t (.fn f cs))=>some (True,.t (.fn f cs),st)
    | some (.fn f cs)=>some (True,.fn f cs,st)
    | _=>none):=Eq.trans rfl rfl
@[simp ↓] theorem qJj {d:Nat} {st:St} {K:AV->St->Prop} {x:Operand}:Am P Γ d (.nck x) st K=Bz (A7 Γ d (.nck x) st) K ⟨⟩:=Eq.trans rfl rfl
@[simp ↓] theorem qJk {d:Nat} {st:St}  : A7 Γ d (.mkmap ) st=(
   some (A2 st.hp d=none,.lm d,⟨st.env,(d,.mp [])::st.hp⟩)):=Eq.trans rfl rfl
@[simp ↓] theorem qGq {d:Nat} {st:St} {K:AV->St->Prop}  : Am P Γ d (.mkmap ) st K=Bz (A7 Γ d (.mkmap ) st) K ⟨⟩:=Eq.trans rfl rfl
@[simp ↓] theorem qLy {d:Nat} {st:St} {u0:Nat} {zs:List Value} {l:Operand} {c:Operand}:A7 Γ d (.mkB u0 zs l c) st=(
   match ev Γ st.env l,ev Γ st.env c with
    | some (.t (.v (.int _ n))),some (.t (.v (.int _ m))) =>
      some (A2 st.hp d=none/\0<=n/\n=m/\m<=2147483648,.lb d n.toNat,⟨st.env,(d,.bx (List.replicate n.toNat (.t (Ar (zs.headD undef)))))::st.hp⟩)
    | _,_=>none):=Eq.trans rfl rfl
@[simp ↓] theorem qJl {d:Nat} {st:St} {K:AV->St->Prop} {u0:Nat} {zs:List Value} {l:Operand} {c:Operand}:Am P Γ d (.mkB u0 zs l c) st K=Bz (A7 Γ d (.mkB u0 zs l c) st) K ⟨⟩:=Eq.trans rfl rfl
@[simp ↓] theorem qLz {d:Nat} {st:St} {ty:Nat} {s:Nat} {zs:List Value} {l:Operand} {c:Operand}:A7 Γ d (.mkE ty s zs l c) st=(
   match ev Γ st.env l,ev Γ st.env c with
    | some (.t (.v (.int _ n))),some (.t (.v (.int _ m))) =>
      some (A2 st.hp d=none/\0<=n/\n<=m/\m<=2147483648,.ls d 0 n.toNat (some m.toNat),⟨st.env,(d,.sl ty s (List.replicate n.toNat (zs.map Ar)))::st.hp⟩)
    | _,_=>none):=Eq.trans rfl rfl
@[simp ↓] theorem qJm {d:Nat} {st:St} {K:AV->St->Prop} {ty:Nat} {s:Nat} {zs:List Value} {l:Operand} {c:Operand}:Am P Γ d (.mkE ty s zs l c) st K=Bz (A7 Γ d (.mkE ty s zs l c) st) K ⟨⟩:=Eq.trans rfl rfl
@[simp ↓] theorem qM0 {d:Nat} {st:St} {x:Operand}:A7 Γ d (.rng x) st=(
   match ev Γ st.env x with
    | some (.t (.v (.string s)))=>some (A2 st.hp d=none,.li d,⟨st.env,(d,.it s 0)::st.hp⟩)
    | _=>none):=Eq.trans rfl rfl
@[simp ↓] theorem qJn {d:Nat} {st:St} {K:AV->St->Prop} {x:Operand}:Am P Γ d (.rng x) st K=Bz (A7 Γ d (.rng x) st) K ⟨⟩:=Eq.trans rfl rfl
@[simp ↓] theorem qM1 {d:Nat} {st:St} {x:Operand}:A7 Γ d (.nxt x) st=(
   match ev Γ st.env x with
    | some (.li id)=>match A2 st.hp id with
      | some (.it s pos)=>if pos<s.size then some (True,.t (.tup [.v (.bool true),.v (.int .i64 pos),.v (.int .i32 (Utf8.decode s pos).1)]),⟨st.env,Bm id (.it s (pos+(Utf8.decode s pos).2)) st.hp⟩)
        else some (True,.t (.tup [.v (.bool false)]),st)
      | _=>none
    | _=>none):=Eq.trans rfl rfl
@[simp ↓] theorem qJo {d:Nat} {st:St} {K:AV->St->Prop} {x:Operand}:Am P Γ d (.nxt x) st K=Bz (A7 Γ d (.nxt x) st) K ⟨⟩:=Eq.trans rfl rfl
@[simp ↓] theorem qKo {d:Nat} {st:St} {kt:KT} {zv:Value} {ok:Bool} {m:Operand} {k:Operand}:A7 Γ d (.lkup kt zv ok m k) st=(
   match ev Γ st.env k with
    | some (.t (.v kv)) =>
      let out (es:List (Value×T)):Prop×AV×St :=
        (kt.fits kv=true/\K1 kt es,if ok then .t (.tup [(Ew kv es).getD (Hh zv),.v (.bool (Ew kv es).isSome)])else .t ((Ew kv es).getD (Hh zv)),st)
      match ev Γ st.env m with
      | some (.t (.mp es))=>some (out es)
      | some (.lm id)=>match A2 st.hp id with
        | some (.mp es)=>some (out es)
        | _=>none
      | _=>none
    | _=>none):=Eq.trans rfl rfl
@[simp ↓] theorem qIH {d:Nat} {st:St} {K:AV->St->Prop} {kt:KT} {zv:Value} {ok:Bool} {m:Operand} {k:Operand}:Am P Γ d (.lkup kt zv ok m k) st K=Bz (A7 Γ d (.lkup kt zv ok m k) st) K ⟨⟩:=Eq.trans rfl rfl
@[simp ↓] theorem qM2 {d:Nat} {st:St} {kt:KT} {m:Operand} {k:Operand} {x:Operand}:A7 Γ d (.mup kt m k x) st=(
   match ev Γ st.env k,ev Γ st.env m with
    | some (.t (.v kv)),some (.lm id)=>match A2 st.hp id with
      | some (.mp es)=>((ev Γ st.env x).bind toT).map fun t=>(kt.fits kv=true/\K1 kt es,.un,⟨st.env,Bm id (.mp (q32 kv t es)) st.hp⟩)
      | _=>none
    | _,_=>none):=Eq.trans rfl rfl
@[simp ↓] theorem qJp {d:Nat} {st:St} {K:AV->St->Prop} {kt:KT} {m:Operand} {k:Operand} {x:Operand}:Am P Γ d (.mup kt m k x) st K=Bz (A7 Γ d (.mup kt m k x) st) K ⟨⟩:=Eq.trans rfl rfl
@[simp ↓] theorem qJq {d:Nat} {st:St} {kt:KT} {zv:Value} {m:Operand} {k:Operand}:A7 Γ d (.lkupA kt zv m k) st=(
   match ev Γ st.env k,ev Γ st.env m with
    | some (.t (.v kv)),some (.lm id)=>match A2 st.hp id with
      | some (.mr es)=>some (kt.fits kv=true/\Jd kt es,(Q1 kv es).getD (Pe zv),st)
      | _=>none
    | _,_=>none):=Eq.trans rfl rfl
@[simp ↓] theorem qGr {d:Nat} {st:St} {K:AV->St->Prop} {kt:KT} {zv:Value} {m:Operand} {k:Operand}:Am P Γ d (.lkupA kt zv m k) st K=Bz (A7 Γ d (.lkupA kt zv m k) st) K ⟨⟩:=Eq.trans rfl rfl
@[simp ↓] theorem qKp {d:Nat} {st:St} {kt:KT} {m:Operand} {k:Operand} {x:Operand}:A7 Γ d (.mupA kt m k x) st=(
   match ev Γ st.env k,ev Γ st.env m with
    | some (.t (.v kv)),some (.lm id)=>match A2 st.hp id with
      | some (.mr es)=>(ev Γ st.env x).map fun a=>(kt.fits kv=true/\Jd kt es,.un,⟨st.env,Bm id (.mr (q4O kv a es)) st.hp⟩)
      | _=>none
    | _,_=>none):=Eq.trans rfl rfl
@[simp ↓] theorem qII {d:Nat} {st:St} {K:AV->St->Prop} {kt:KT} {m:Operand} {k:Operand} {x:Operand}:Am P Γ d (.mupA kt m k x) st K=Bz (A7 Γ d (.mupA kt m k x) st) K ⟨⟩:=Eq.trans rfl rfl
@[simp ↓] theorem qKq {d:Nat} {st:St} {kt:KT} {m:Operand} {k:Operand}:A7 Γ d (.mdel kt m k) st=(
   match ev Γ st.env k,ev Γ st.env m with
    | some (.t (.v kv)),some (.lm id)=>match A2 st.hp id with
      | some (.mr es)=>some (kt.fits kv=true/\Jd kt es,.t (.tup []),⟨st.env,Bm id (.mr (q4P kv es)) st.hp⟩)
      | _=>none
    | _,_=>none):=Eq.trans rfl rfl
@[simp ↓] theorem qIJ {d:Nat} {st:St} {K:AV->St->Prop} {kt:KT} {m:Operand} {k:Operand}:Am P Γ d (.mdel kt m k) st K=Bz (A7 Γ d (.mdel kt m k) st) K ⟨⟩:=Eq.trans rfl rfl
@[simp ↓] theorem qIK {d:Nat} {st:St} {pos:Bool} {x:Operand}:A7 Γ d (.isNilP pos x) st=(
   match ev Γ st.env x with
    | some (.lp _ _ _)=>some (True,.t (.v (.bool (!pos))),st)
    | some (.t (.ip _ _))=>some (True,.t (.v (.bool (!pos))),st)
    | some (.t (.v (.pointer none)))=>some (True,.t (.v (.bool pos)),st)
    | _=>none):=Eq.trans rfl rfl
@[simp ↓] theorem qFt {d:Nat} {st:St} {K:AV->St->Prop} {pos:Bool} {x:Operand}:Am P Γ d (.isNilP pos x) st K=Bz (A7 Γ d (.isNilP pos x) st) K ⟨⟩:=Eq.trans rfl rfl
@[simp ↓] theorem qIL {d:Nat} {st:St} {pos:Bool} {x:Operand}:A7 Γ d (.isNilI pos x) st=(
   match ev Γ st.env x with
    | some (.t .ifc)=>some (True,.t (.v (.bool (!pos))),st)
    | some (.t (.v .nilIface))=>some (True,.t (.v (.bool pos)),st)
    | _=>none):=Eq.trans rfl rfl
@[simp ↓] theorem qFu {d:Nat} {st:St} {K:AV->St->Prop} {pos:Bool} {x:Operand}:Am P Γ d (.isNilI pos x) st K=Bz (A7 Γ d (.isNilI pos x) st) K ⟨⟩:=Eq.trans rfl rfl
@[simp ↓] theorem qM3 {d:Nat} {st:St} {x:Operand}:A7 Γ d (.mvP x) st=(
   (ev Γ st.env x).bind fun a=>if Jf st.hp a then some (True,a,st)else none):=Eq.trans rfl rfl
@[simp ↓] theorem qJr {d:Nat} {st:St} {K:AV->St->Prop} {x:Operand}:Am P Γ d (.mvP x) st K=Bz (A7 Γ d (.mvP x) st) K ⟨⟩:=Eq.trans rfl rfl
@[simp ↓] theorem qKr {d:Nat} {st:St} {x:Operand}:A7 Γ d (.nckP x) st=(
   match ev Γ st.env x with
    | some (.lp id i k)=>if Jf st.hp (.lp id i k)then some (True,.lp id i k,st)else none
    | _=>none):=Eq.trans rfl rfl
@[simp ↓] theorem qIM {d:Nat} {st:St} {K:AV->St->Prop} {x:Operand}:Am P Γ d (.nckP x) st K=Bz (A7 Γ d (.nckP x) st) K ⟨⟩:=Eq.trans rfl rfl
@[simp ↓] theorem qKs {d:Nat} {st:St} {off:Nat} {x:Operand}:A7 Γ d (.fadP off x) st=(
   match ev Γ st.env x with
    | some (.lp id i k)=>if Jf st.hp (.lp id i k)then some (True,.lp id i (k+off),st)else none
    | _=>none):=Eq.trans rfl rfl
@[simp ↓] theorem qIN {d:Nat} {st:St} {K:AV->St->Prop} {off:Nat} {x:Operand}:Am P Γ d (.fadP off x) st K=Bz (A7 Γ d (.fadP off x) st) K ⟨⟩:=Eq.trans rfl rfl
@[simp ↓] theorem qM4 {d:Nat} {st:St} {n:Nat} {x:Operand}:A7 Γ d (.ldP n x) st=(
   match ev Γ st.env x with
    | some (.lp id i k)=>match A2 st.hp id with
      | some (.bx cs)=>if Jf st.hp (((cs.drop k).take n).headD .dead)then some (i=0/\k+n<=cs.length,((cs.drop k).take n).headD .dead,st)else none
      | _=>none
    | _=>none):=Eq.trans rfl rfl
@[simp ↓] theorem qJs {d:Nat} {st:St} {K:AV->St->Prop} {n:Nat} {x:Operand}:Am P Γ d (.ldP n x) st K=Bz (A7 Γ d (.ldP n x) st) K ⟨⟩:=Eq.trans rfl rfl
@[simp ↓] theorem qM5 {d:Nat} {st:St} {id:Nat} {n:Nat} {a:Operand} {x:Operand}:A7 Γ d (.stR id n a x) st=(
   if D5 id (ev Γ st.env a) then((ev Γ st.env x).bind fun v=>match ev Γ st.env a with
      | some (.lp id i k)=>match A2 st.hp id with
        | some (.sl ty s es)=>(Iq v.cells).map fun ts =>
          (i<es.length/\k+n<=s/\ts.length=n/\Bi ts=true,.un,
            ⟨st.env,Bm id (.sl ty s (es.set i (if k=0/\n=s then ts else(es.getD i []).take k++ts++(es.getD i []).drop (k+n)))) st.hp⟩)
        | some (.rs ty s es)=>some (i<es.length/\k+n<=s/\v.cells.length=n/\Aw v.cells=true,.un,
            ⟨st.env,Bm id (.rs ty s (es.set i (if k=0/\n=s then v.cells else(es.getD i []).take k++v.cells++(es.getD i []).drop (k+n)))) st.hp⟩)
        | some (.bx cs)=>some (i=0/\k+n<=cs.length/\v.cells.length=n/\Aw v.cells=true,.un,⟨st.env,Bm id (.bx (cs.take k++v.cells++cs.drop (k+n))) st.hp⟩)
        | _=>none
      | _=>none)else none):=Eq.trans rfl rfl
@[simp ↓] theorem qJt {d:Nat} {st:St} {K:AV->St->Prop} {id:Nat} {n:Nat} {a:Operand} {x:Operand}:Am P Γ d (.stR id n a x) st K=Bz (A7 Γ d (.stR id n a x) st) K ⟨⟩:=Eq.trans rfl rfl
@[simp ↓] theorem qKt {d:Nat} {st:St} {ty s:Nat} {parts:List Operand}:A7 Γ d (.bslA ty s parts) st=(
   (Ip Γ st.env parts).map fun as=>(A2 st.hp d=none/\(∀ a∈as,a.cells.length=s/\Aw a.cells=true),.ls d 0 as.length none,⟨st.env,(d,.rs ty s (as.map AV.cells))::st.hp⟩)):=Eq.trans rfl rfl
@[simp ↓] theorem qIO {d:Nat} {st:St} {K:AV->St->Prop} {ty s:Nat} {parts:List Operand}:Am P Γ d (.bslA ty s parts) st K=Bz (A7 Γ d (.bslA ty s parts) st) K ⟨⟩:=Eq.trans rfl rfl
@[simp ↓] theorem qKu {d:Nat} {st:St} {ty s:Nat} {b x:Operand}:A7 Γ d (.appA ty s b x) st=(
   match ev Γ st.env x,ev Γ st.env b with
    | some (.ls ix 0 n none),some (.ls id 0 len none)=>match A2 st.hp ix,A2 st.hp id with
      | some (.rs _ q news),some (.rs t q' es)=>some (q=s/\n=news.length/\news≠[]/\t=ty/\q'=s/\len+news.length<=2147483648/\A2 (st.kill id).hp d=none,.ls d 0 (es.take len++news).length none,⟨(st.kill id).env,(d,.rs ty s ((es.take len++news).map fun e=>e.map (Ae id)))::(st.kill id).hp⟩)
      | _,_=>none
    | _,_=>none):=Eq.trans rfl rfl
@[simp ↓] theorem qIP {d:Nat} {st:St} {K:AV->St->Prop} {ty s:Nat} {b x:Operand}:Am P Γ d (.appA ty s b x) st K=Bz (A7 Γ d (.appA ty s b x) st) K ⟨⟩:=Eq.trans rfl rfl
@[simp ↓] theorem qM6 {d:Nat} {st:St} {s:Nat} {zs:List Value} {x:Operand}:A7 Γ d (.clr s zs x) st=(
   match ev Γ st.env x with
    | some (.ls id off len _)=>match A2 st.hp id with
      | some (.sl ty q es)=>some (q=s,.t (.tup []),⟨st.env,Bm id (.sl ty s (es.take off++List.replicate len (zs.map Ar)++es.drop (off+len))) st.hp⟩)
      | _=>none
    | _=>none):=Eq.trans rfl rfl
@[simp ↓] theorem qJu {d:Nat} {st:St} {K:AV->St->Prop} {s:Nat} {zs:List Value} {x:Operand}:Am P Γ d (.clr s zs x) st K=Bz (A7 Γ d (.clr s zs x) st) K ⟨⟩:=Eq.trans rfl rfl
@[simp ↓] theorem qKv {d:Nat} {st:St} {ty:Nat} {b x:Operand}:A7 Γ d (.appS ty b x) st=(
   match ev Γ st.env x,ev Γ st.env b with
    | some (.t (.v (.string s))),some (.ls id 0 len none)=>match A2 st.hp id with
      | some (.sl t q es)=>some (t=ty/\q=1/\0<s.size/\len+s.size<=140737488355328/\A2 (st.kill id).hp d=none,.ls d 0 (es.take len++Q2 s).length none,⟨(st.kill id).env,(d,.sl ty 1 (es.take len++Q2 s))::(st.kill id).hp⟩)
      | _=>none
    | some (.t (.v (.string s))),some (.t (.sl [] (some 0) _))=>some (0<s.size/\s.size<=140737488355328/\A2 st.hp d=none,.ls d 0 (Q2 s).length none,⟨st.env,(d,.sl ty 1 (Q2 s))::st.hp⟩)
    | _,_=>none):=Eq.trans rfl rfl
@[simp ↓] theorem qIQ {d:Nat} {st:St} {K:AV->St->Prop} {ty:Nat} {b x:Operand}:Am P Γ d (.appS ty b x) st K=Bz (A7 Γ d (.appS ty b x) st) K ⟨⟩:=Eq.trans rfl rfl
@[simp ↓] theorem qM7 {d:Nat} {st:St} {id s:Nat} {x:Operand} {i:Operand}:A7 Γ d (.iaR id s x i) st=(
   match ev Γ st.env x,ev Γ st.env i with
    | some (.ls j off len _),some (.t (.v (.int _ n)))=>if j=id then(match A2 st.hp j with
      | some (.sl _ q _)=>some (q=s/\0<=n/\n<len,.lp j (off+n.toNat) 0,st)
      | some (.rs _ q _)=>some (q=s/\0<=n/\n<len,.lp j (off+n.toNat) 0,st)
      | _=>none)else none
    | _,_=>none):=Eq.trans rfl rfl
@[simp ↓] theorem qJv {d:Nat} {st:St} {K:AV->St->Prop} {id s:Nat} {x:Operand} {i:Operand}:Am P Γ d (.iaR id s x i) st K=Bz (A7 Γ d (.iaR id s x i) st) K ⟨⟩:=Eq.trans rfl rfl
@[simp ↓] theorem qKw {d:Nat} {st:St} {id f:Nat} {a:Operand} {x:Operand}:A7 Γ d (.stF id f a x) st=(
   (ev Γ st.env x).bind fun v=>match ev Γ st.env a with
    | some (.lp j i k)=>if j=id/\k=f then(match A2 st.hp j with
      | some (.rs ty s es)=>some (i<es.length/\f+1<=s/\v.one=true/\(es.getD i []).length=s,.un,⟨st.env,Bm j (.rs ty s (es.set i ((es.getD i []).set f v))) st.hp⟩)
      | _=>none)else none
    | _=>none):=Eq.trans rfl rfl
@[simp ↓] theorem qIR {d:Nat} {st:St} {K:AV->St->Prop} {id f:Nat} {a:Operand} {x:Operand}:Am P Γ d (.stF id f a x) st K=Bz (A7 Γ d (.stF id f a x) st) K ⟨⟩:=Eq.trans rfl rfl
@[simp ↓] theorem qM8 {d:Nat} {st:St} {id:Nat} {n:Nat} {g:Bool} {a:Operand}:A7 Γ d (.ldR id n g a) st=(
   if D5 id (ev Γ st.env a) then(match ev Γ st.env a with
      | some (.t (.ip cs k))=>some (k+n<=cs.length,.t (Ia g ((cs.drop k).take n)),st)
      | some (.lp id i k)=>match A2 st.hp id with
        | some (.sl _ s es)=>some (i<es.length/\k+n<=s,.t (Ia g (((es.getD i []).drop k).take n)),st)
        | some (.rs _ s es)=>some (i<es.length/\k+n<=s,Je g (((es.getD i []).drop k).take n),st)
        | some (.bx cs)=>some (i=0/\k+n<=cs.length,Je g ((cs.drop k).take n),st)
        | _=>none
      | _=>none)else none):=Eq.trans rfl rfl
@[simp ↓] theorem qJw {d:Nat} {st:St} {K:AV->St->Prop} {id:Nat} {n:Nat} {g:Bool} {a:Operand}:Am P Γ d (.ldR id n g a) st K=Bz (A7 Γ d (.ldR id n g a) st) K ⟨⟩:=Eq.trans rfl rfl
@[simp ↓] theorem qM9 {d:Nat} {st:St} {n:Nat} {g:Bool} {a:Operand}:A7 Γ d (.ldT n g a) st=(
   match ev Γ st.env a with
    | some (.t (.ip cs k))=>some (k+n<=cs.length,.t (Ia g ((cs.drop k).take n)),st)
    | _=>none):=Eq.trans rfl rfl
@[simp ↓] theorem qJx {d:Nat} {st:St} {K:AV->St->Prop} {n:Nat} {g:Bool} {a:Operand}:Am P Γ d (.ldT n g a) st K=Bz (A7 Γ d (.ldT n g a) st) K ⟨⟩:=Eq.trans rfl rfl
@[simp ↓] theorem qMA {d:Nat} {st:St} {kt:KT} {zv:Value} {ok:Bool} {m:Operand} {k:Operand}:A7 Γ d (.lkT kt zv ok m k) st=(
   match ev Γ st.env k,ev Γ st.env m with
    | some (.t (.v kv)),some (.t (.mp es))=>some (kt.fits kv=true/\K1 kt es,if ok then .t (.tup [(Ew kv es).getD (Hh zv),.v (.bool (Ew kv es).isSome)])else .t ((Ew kv es).getD (Hh zv)),st)
    | _,_=>none):=Eq.trans rfl rfl
@[simp ↓] theorem qJy {d:Nat} {st:St} {K:AV->St->Prop} {kt:KT} {zv:Value} {ok:Bool} {m:Operand} {k:Operand}:Am P Γ d (.lkT kt zv ok m k) st K=Bz (A7 Γ d (.lkT kt zv ok m k) st) K ⟨⟩:=Eq.trans rfl rfl
@[simp ↓] theorem qIS {d:Nat} {st:St} {K:AV->St->Prop} {f:FuncId} {args:List Operand}:Am P Γ d (.call f args) st K=asK (Ip Γ st.env args) (fun as=>q5S P Γ st.hp f as (fun res=>K (.t res) st) ⟨⟩) ⟨⟩:=Eq.trans rfl rfl
@[simp ↓] theorem qGs {d:Nat} {st:St} {K:AV->St->Prop} {x:Operand} {args:List Operand}:Am P Γ d (.callv x args) st K=fnK ((ev Γ st.env x).bind q0n) (fun f cs=>asK (Ip Γ st.env args) (fun as=>q5S P Γ st.hp f (as++cs) (fun res=>K (.t res) st) ⟨⟩) ⟨⟩) ⟨⟩:=Eq.trans rfl rfl
@[simp ↓] theorem qGt {d:Nat} {st:St} {K:AV->St->Prop} {f:FuncId} {args:List Operand} {rs:List Nat} {base:Nat}:Am P Γ d (.hcall f args rs base) st K=asK (Ip Γ st.env args) (fun as=>rs.Nodup/\Vk P Γ st f rs base (Ba rs st.hp) (as.map (Ag (Uc rs))) K ⟨⟩) ⟨⟩:=Eq.trans rfl rfl
@[simp ↓] theorem qFv {d:Nat} {st:St} {K:AV->St->Prop} {x:Operand} {args:List Operand} {rs:List Nat} {base:Nat}:Am P Γ d (.hcallv x args rs base) st K=fnK ((ev Γ st.env x).bind q0n) (fun f cs=>asK (Ip Γ st.env args) (fun as=>rs.Nodup/\Vk P Γ st f rs base (Ba rs st.hp) ((as++cs).map (Ag (Uc rs))) K ⟨⟩) ⟨⟩) ⟨⟩:=Eq.trans rfl rfl
@[simp ↓] theorem qFw {d:Nat} {st:St} {K:AV->St->Prop} {f:FuncId} {args:List Operand} {base:Nat}:Am P Γ d (.hcallW f args base) st K=asK (Ip Γ st.env args) (fun as=>∃ rs,rs.Nodup/\Vk P Γ st f rs base (Ba rs st.hp) (as.map (Ag (Uc rs))) K ⟨⟩) ⟨⟩:=Eq.trans rfl rfl
@[simp ↓] theorem qFH {d:Nat} {st:St} {K:AV->St->Prop} {x:Operand} {args:List Operand} {base:Nat}:Am P Γ d (.hcallvW x args base) st K=fnK ((ev Γ st.env x).bind q0n) (fun f cs=>asK (Ip Γ st.env args) (fun as=>∃ rs,rs.Nodup/\Vk P Γ st f rs base (Ba rs st.hp) ((as++cs).map (Ag (Uc rs))) K ⟨⟩) ⟨⟩) ⟨⟩:=Eq.trans rfl rfl
@[simp ↓] theorem qFx {d:Nat} {st:St} {K:AV->St->Prop} {x:Operand} {args:List Operand} {base:Nat}:Am P Γ d (.hcallB x args base) st K=fnK ((ev Γ st.env x).bind q75) (fun f cs=>asK (Ip Γ st.env args) (fun as=>∃ rs,rs.Nodup/\Vk P Γ st f rs base (Ba rs st.hp) ((cs++as).map (Ag (Uc rs))) K ⟨⟩) ⟨⟩) ⟨⟩:=Eq.trans rfl rfl
@[simp ↓] theorem qGu {d:Nat} {st:St} {K:AV->St->Prop} {f:FuncId} {args:List Operand} {base:Nat}:Am P Γ d (.ncall f args base) st K=asK (Ip Γ st.env args) (fun as=>qDl P Γ st f base (as.map (Ag (Uc []))) K ⟨⟩) ⟨⟩:=Eq.trans rfl rfl
@[simp ↓] theorem qGv {d:Nat} {st:St} {K:AV->St->Prop} {f:FuncId} {args:List Operand}:Am P Γ d (.callT f args) st K=asK (Ip Γ st.env args) (fun as=>qDm P Γ f as (fun res=>K (.t res) st) ⟨⟩) ⟨⟩:=Eq.trans rfl rfl
@[simp ↓] theorem qGw {d:Nat} {st:St} {K:AV->St->Prop} {f:FuncId} {args:List Operand} {rs:List Nat}:Am P Γ d (.rcall f args rs) st K=asK (Ip Γ st.env args) (fun as=>rs.Nodup/\(∀ i∈rs,∃ ty s es,A2 st.hp i=some (.sl ty s es))/\qDn P Γ st f rs (Ba rs st.hp) (as.map (Ag (Uc rs))) K ⟨⟩) ⟨⟩:=Eq.trans rfl rfl
@[simp] theorem qMK {e:List (Nat×AV)} {t:Nat}:ev Γ e (.tmp t)=A2 e t:=Eq.trans rfl rfl
@[simp] theorem qKx {e:List (Nat×AV)} {v:Value}:ev Γ e (.const v)=some (Pe v):=Eq.trans rfl rfl
@[simp] theorem qJz {e:List (Nat×AV)} {g:Nat}:ev Γ e (.global g)=(Γ g).map fun cs=>.t (.ip cs 0):=Eq.trans rfl rfl
@[simp] theorem qMB {e:List (Nat×AV)} {f:FuncId}:ev Γ e (.func f)=some (.t (.fn f [])):=Eq.trans rfl rfl
@[simp] theorem qML {e:List (Nat×AV)} {xs:List Operand}:Ip Γ e xs=Ac (xs.map (ev Γ e)):=Eq.trans rfl rfl
@[simp] theorem qIT {e:List (Nat×AV)}:D4 e none=some true:=Eq.trans rfl rfl
@[simp] theorem qIU {e:List (Nat×AV)} {g:Nat} {b:Bool}:D4 e (some (g,b))=match A2 e g with
  | some (.t (.v (.bool p)))=>some (p==b)
  | some .un=>some false
  | _=>none:=Eq.trans rfl rfl
end
attribute [simp] RO.d St.put Ac A2 params Gh.run qBa Ej q2F q1Z S4 Aq Pe Hh Ar Z5 unV Vf G2 Jf Q1 q4O q4P lenOf qCH Ia Je AV.cells Iq toT Xj q1J B7 Eo Bm q0n q75 St.kill Ae kill1 no0 G1 del D5 Xy Vj Ba Uc P2 Fo Vi q0u C6 Qf Ag ren1 ren0 Bj Bo I9 qFk tri toN Ed Nl qAQ Aj.sh List.filter_cons
end Go.Lg
namespace Go.Lg
open Go Go.RowKit
section
variable {P:Program} {Γ:Tables}
def qDs (K R:St->Prop):AX->St->Prop
 | .normal,s=>K s
 | .ret,s=>R s
 | .exit _,_=>False
def q6U (P:Program) (Γ:Tables) (F R:St->Prop):SK->St->Prop
 | .rf,s=>F s
 | .seqL a _,s=>q6U P Γ F R a s
 | .seqR a b,s=>run P Γ a (qDs (q6U P Γ F R b) R) s
 | .block _ a,s=>q6U P Γ F R a s
 | .scope a,s=>q6U P Γ F R a s
def q47 (P:Program) (Γ:Tables):SK->(AX->St->Prop)->AX->St->Prop
 | .rf,Q=>Q
 | .seqL a b,Q=>q47 P Γ a (B1 (run P Γ b Q) Q)
 | .seqR _ b,Q=>q47 P Γ b Q
 | .block i a,Q=>q47 P Γ a (F2 i Q)
 | .scope a,Q=>q47 P Γ a Q
theorem q2H {F F' R R':St->Prop} (hF:∀ s,F s->F' s) (hR:∀ s,R s->R' s):∀ {sk:SK} {s:St},q6U P Γ F R sk s->q5R P Γ F' R' sk s
 | .rf,s,h=>hF s h
 | .seqL a _,s,h=>q2H hF hR (sk:=a) h
 | .seqR a b,s,h=>Ai (Em (c:=a) h) fun e s h=>by
  cases e with
  | normal=>exact q2H hF hR (sk:=b) h
  | ret=>exact hR s h
  | exit i=>exact h.elim
 | .block _ a,s,h=>q2H hF hR (sk:=a) h
 | .scope a,s,h=>q2H hF hR (sk:=a) h
theorem Zr:∀ {sk:SK} {Q Q':AX->St->Prop} {e:AX} {s:St},(∀ e s,Q e s->Q' e s)->q47 P Γ sk Q e s->Zp P Γ sk Q' e s
 | .rf,Q,Q',e,s,hQ,h=>hQ e s h
 | .seqL a b,Q,Q',e,s,hQ,h=>Zr (sk:=a) (fun e s h=>by
  cases e with
  | normal=>exact Ai (Em (c:=b) h) hQ
  | ret=>exact hQ _ s h
  | exit i=>exact hQ _ s h) h
 | .seqR _ b,Q,Q',e,s,hQ,h=>Zr (sk:=b) hQ h
 | .block i a,Q,Q',e,s,hQ,h=>Zr (sk:=a) (fun e s h=>by
  cases e with
  | normal=>exact hQ _ s h
  | ret=>exact hQ _ s h
  | exit j=>simp only[F2]at h ⊢;split<;>rename_i hi<;>simp only[hi,if_true,if_false]at h<;>exact hQ _ s h) h
 | .scope a,Q,Q',e,s,hQ,h=>Zr (sk:=a) hQ h
theorem RFc.mono {g:Operand} {p t:Nat} {c:IC} {ids:List Nat} {F F':AX->St->Prop} {s:St} (hF:∀ e s,F e s->F' e s) (h:RFc P Γ g p t c ids F s):RFc P Γ g p t c ids F' s:=by
 obtain⟨α,gf,bids,vs,enc,xs,sq,G,sx,L,k1,k2,k3,k4,k5,k6,k7,k8,k9,k10,k11,k12,k13,k15⟩:=h
 exact⟨α,gf,bids,vs,enc,xs,sq,G,sx,L,k1,k2,k3,k4,k5,k6,k7,k8,k9,k10,k11,k12,fun h=>⟨(k13 h).1,hF _ _ (k13 h).2⟩,fun pre e h=>⟨(k15 pre e h).1,hF _ _ (k15 pre e h).2⟩⟩
theorem qDt {rvs:List RV} {res:AV} {hp':List (Nat×Aj)} {e:AX} {s:St} (h:qAR rvs (fun r h=>r=res/\h=hp') e s):q0w rvs res hp' e s:=by
 obtain⟨r,h',⟨rfl,rfl⟩,hq⟩:=qDp h
 exact hq
theorem q9D {f:FuncId} {sk:SK} {c:IC} {g:Operand} {p t N n:Nat} {rvs:List RV} {args:List AV} {hp hp':List (Nat×Aj)} {res:AV} {ids:List Nat} (hc:qBd P f sk c g p t N n rvs=true) (hn:args.length=n)
  (hids:∀ id,A2 hp id≠none->id∈ids) (hfin:∀ id,1000000<=id->A2 hp' id≠none->id∈ids)
  (h:q6U P Γ (RFc P Γ g p t c ids (q47 P Γ sk (qAR rvs fun r h=>r=res/\h=hp'))) (qAR rvs (fun r h=>r=res/\h=hp') .ret) sk ⟨Xy 0 args,hp⟩):Bl P Γ f hp args res hp' :=
 qFo hc hn hids hfin (q2H (fun s h=>h.mono fun e s h=>Zr (fun e s h=>qDt h) h) (fun s h=>qDt h) h)
theorem Bl.pure {f:FuncId} {args:List T} {res:T} {hp':List (Nat×Aj)} (h:Bl P Γ f [] (args.map .t) (.t res) hp'):An P Γ f args res:=by
 intro w X vs hg hx hts
 have hs:B0 w w.heap.size (fun _=>none) X (fun _=>none) ⟨[],[]⟩ #[] w:=⟨fun t a h=>by simp[A2]at h,fun id r h=>by simp[A2]at h,fun _ _ _ _ _ _ _ h=>(by cases h),fun _ _ _ _ h=>(by cases h),fun _ _ _=>rfl,fun _ _ h=>(by cases h),hx,rfl,rfl,rfl,Nat.le_refl _,fun _ _ _=>rfl⟩
 refine(h w X (fun _=>none) vs hg (fun _ h=>absurd rfl h) hs ⟨by simp[hts.1],fun k a x ha hx=>?_⟩).mono ?_
 ·rw[List.getElem?_map,Option.map_eq_some_iff]at ha
  obtain⟨t,ht,rfl⟩:=ha
  exact .t _ _ (hts.2 k t x ht hx)
 ·rintro v w' ⟨X',μ',h1,h2,h3,h4⟩
  refine⟨⟨h1.os,h1.tape,h1.output,h1.size,fun k hk=>h1.fr k hk fun id n h=>by cases h⟩,h2.t_inv.mono (fun _ _=>rfl) fun b hb=>?_⟩
  rcases h4 b hb with h|h|⟨_,_,h⟩
  ·exact .inl h
  ·exact .inr ⟨h,h1.xlt b hb⟩
  ·cases h
end
end Go.Lg
namespace Go.Lg
open Go
def inB (n:Int) (l:Nat):Bool:=match n with
 | .ofNat k=>Nat.blt k l
 | .negSucc _=>false
theorem K9 {n:Int} {l:Nat} (h:inB n l=true):0<=n/\n<l:=by
 cases n with
 | ofNat k=>simp only[inB,Nat.blt_eq]at h;exact⟨Int.natCast_nonneg k,Int.ofNat_lt.2 h⟩
 | negSucc k=>cases h
def nnB (n:Int):Bool:=match n with
 | .ofNat _=>true
 | .negSucc _=>false
theorem q5V {n:Int} (h:nnB n=true):0<=n:=by
 cases n with
 | ofNat k=>exact Int.natCast_nonneg k
 | negSucc k=>cases h
def q1b (s:Nat) (es:List (List T)):Bool:=es.all fun e=>Nat.beq e.length s
theorem Hm {s:Nat} {es:List (List T)} (h:q1b s es=true):Gk s es:=fun e he=>Nat.eq_of_beq_eq_true (List.all_eq_true.1 h e he)
def q6V (Γ:Tables) (env:List (Nat×AV)) (o:Option Operand):Bool:=match o with
 | none=>true
 | some o=>match ev Γ env o with
  | some (.t (.v (.int _ n)))=>nnB n
  | _=>false
theorem Ls {Γ:Tables} {env:List (Nat×AV)} {o:Option Operand} {d:Nat} {p:Prop×Nat} (h:q6V Γ env o=true) (hp:Eo Γ env o d=some p):p.1:=by
 unfold q6V at h;unfold Eo at hp
 cases o with
 | none=>simp only[Option.some.injEq]at hp;subst hp;trivial
 | some o =>
  simp only at h hp
  split at h
  ·rename_i k n he;rw[he]at hp;simp only[Option.some.injEq]at hp;subst hp;exact q5V h
  ·cases h
def q9E (kt:KT) (es:List (Value×T)):Bool:=es.all fun e=>kt.fits e.1
theorem q2I {kt:KT} {es:List (Value×T)} (h:q9E kt es=true):K1 kt es:=fun e he=>List.all_eq_true.1 h e he
def q2J:BinOp->Value->Value->Bool
 | .quo,.int _ _,.int _ b=>!(b==0)
 | .rem,.int _ _,.int _ b=>!(b==0)
 | .shl,.int _ _,.int _ b=>nnB b
 | .shr,.int _ _,.int _ b=>nnB b
 | .add,.string a,.string b=>Nat.ble (a.size+b.size) 9223372036854775807
 | _,_,_=>true
theorem qFy {op:BinOp} {x y:Value} {r:Prop×Value} (h:q2J op x y=true) (hr:Z5 op x y=some r):r.1:=by
  unfold Z5 at hr
  split at hr
  all_goals first
    | (cases hr;done)
    | (split at hr
       · simp only[Option.some.injEq]at hr;subst hr;first|trivial|(simp[q2J]at h;exact h)
       · cases hr)
    | (simp only[Option.some.injEq]at hr;subst hr;first|trivial|(simp only[q2J]at h;exact q5V h)|(simp only[q2J]at h;exact Nat.le_of_ble_eq_true h))
def qKy:Option IntKind->Value->Bool
 | some k,.int j n=>decide (j=k)&&(Lit.int k n).wf
 | none,.bool _=>true
 | _,_=>false
def lkB:List (Option IntKind)->List Value->Bool
 | [],[]=>true
 | k::ks,v::vs=>qKy k v&&lkB ks vs
 | _,_=>false
theorem qAS:∀ {ks:List (Option IntKind)} {vs:List Value},lkB ks vs=true->Z0 ks vs
 | [],[],_=>trivial
 | k::ks,v::vs,h=>by
  simp only[lkB,Bool.and_eq_true]at h
  refine⟨?_,qAS h.2⟩
  have h1:=h.1
  cases k<;>cases v<;>simp[qKy]at h1<;>simp[lk1,h1]
 | [],_::_,h=>by cases h
 | _::_,[],h=>by cases h
def esB (s:Nat) (es:List (List T)):Bool:=es.all fun e=>Nat.beq e.length s&&Bi e
theorem qDu {s:Nat} {es:List (List T)} (h:esB s es=true):∀ e∈es,e.length=s/\Bi e=true:=fun e he=>by
 have:=List.all_eq_true.1 h e he
 simp only[Bool.and_eq_true]at this
 exact⟨Nat.eq_of_beq_eq_true this.1,this.2⟩
def qBe:List AV->List (Nat×Operand)->Bool
 | [],[]=>true
 | a::as,p::ps=>Nat.beq a.cells.length p.1&&qBe as ps
 | _,_=>false
theorem q9F:∀ {as:List AV} {ps:List (Nat×Operand)},qBe as ps=true->as.map (·.cells.length)=ps.map (·.1)
 | [],[],_=>rfl
 | a::as,p::ps,h=>by
  simp only[qBe,Bool.and_eq_true]at h
  simp only[List.map_cons,q9F h.2,Nat.eq_of_beq_eq_true h.1]
 | [],_::_,h=>by cases h
 | _::_,[],h=>by cases h
def frB (hp:List (Nat×Aj)) (d:Nat):Bool:=match A2 hp d with
 | none=>true
 | some _=>false
theorem Ir {hp:List (Nat×Aj)} {d:Nat} (h:frB hp d=true):A2 hp d=none:=by
 unfold frB at h;split at h
 ·assumption
 ·cases h
def neB {α:Type}:List α->Bool
 | []=>false
 | _::_=>true
theorem q82 {α:Type} {l:List α} (h:neB l=true):l≠[]:=by cases l<;>simp[neB]at h ⊢
def qAT (hp:List (Nat×Aj)) (id i k n:Nat):Bool:=match A2 hp id with
 | some (.sl _ s es)=>Nat.blt i es.length&&Nat.ble (k+n) s
 | some (.rs _ s es)=>Nat.blt i es.length&&Nat.ble (k+n) s
 | some (.bx cs)=>Nat.beq i 0&&Nat.ble (k+n) cs.length
 | _=>false
def stC (hp:List (Nat×Aj)) (id i k n:Nat) (v:AV):Bool:=match A2 hp id with
 | some (.sl _ s es)=>match Iq v.cells with
  | some ts=>Nat.blt i es.length&&Nat.ble (k+n) s&&Nat.beq ts.length n&&Bi ts
  | none=>false
 | some (.rs _ s es)=>Nat.blt i es.length&&Nat.ble (k+n) s&&Nat.beq v.cells.length n&&Aw v.cells
 | some (.bx cs)=>Nat.beq i 0&&Nat.ble (k+n) cs.length&&Nat.beq v.cells.length n&&Aw v.cells
 | _=>false
def Dz (Γ:Tables) (d:Nat) (io:B6) (st:St):Bool:=match io with
 | .mv _ | .pick _ _ _ | .fadr _ _ | .eqb _ _ _ | .un _ _ | .conv _ _ | .bytesStr _ | .runeStr _ | .len _ _ | .cap _ | .ext _ _ | .nck _ | .nxt _=>true
 | .alloc fz _=>fz||frB st.hp d
 | .allocR _ _=>frB st.hp d
 | .box fz x=>match ev Γ st.env x with
  | some a=>if fz then(match Iq a.cells with|some ts=>Bi ts|none=>false)else frB st.hp d&&Aw a.cells
  | none=>false
 | .build parts=>match Ip Γ st.env (parts.map (·.2)) with
  | some as=>qBe as parts&&Aw (as.flatMap AV.cells)
  | none=>false
 | .bsl fz _ s parts=>match Ip Γ st.env parts with
  | some as=>match Ac (as.map fun a=>Iq a.cells) with
   | some es=>(fz||frB st.hp d)&&esB s es
   | none=>false
  | none=>false
 | .bslA _ s parts=>match Ip Γ st.env parts with
  | some as=>frB st.hp d&&as.all fun a=>Nat.beq a.cells.length s&&Aw a.cells
  | none=>false
 | .appA ty s b x=>match ev Γ st.env x,ev Γ st.env b with
  | some (.ls ix 0 n none),some (.ls id 0 len none)=>match A2 st.hp ix,A2 st.hp id with
   | some (.rs _ q news),some (.rs t q' es)=>Nat.beq q s&&Nat.beq n news.length&&neB news&&Nat.beq t ty&&Nat.beq q' s&&Nat.ble (len+news.length) 2147483648&&frB (st.kill id).hp d
   | _,_=>false
  | _,_=>false
 | .load n _ a=>match ev Γ st.env a with
  | some (.t (.ip cs k))=>Nat.ble (k+n) cs.length
  | some (.lp id i k)=>qAT st.hp id i k n
  | _=>false
 | .ldR _ n _ a=>match ev Γ st.env a with
  | some (.t (.ip cs k))=>Nat.ble (k+n) cs.length
  | some (.lp id i k)=>qAT st.hp id i k n
  | _=>false
 | .ldT n _ a=>match ev Γ st.env a with
  | some (.t (.ip cs k))=>Nat.ble (k+n) cs.length
  | _=>false
 | .store n a x=>match ev Γ st.env x,ev Γ st.env a with
  | some v,some (.lp id i k)=>stC st.hp id i k n v
  | _,_=>false
 | .stR _ n a x=>match ev Γ st.env x,ev Γ st.env a with
  | some v,some (.lp id i k)=>stC st.hp id i k n v
  | _,_=>false
 | .fld off n _ x=>match ev Γ st.env x with
  | some (.ag cs)=>Nat.ble (off+n) cs.length
  | some (.t (.agg ts))=>Nat.ble (off+n) ts.length
  | _=>false
 | .iadr s x i=>match ev Γ st.env x,ev Γ st.env i with
  | some (.t (.sl es _ _)),some (.t (.v (.int _ n)))=>inB n es.length&&q1b s es
  | some (.ls id _ len _),some (.t (.v (.int _ n)))=>match A2 st.hp id with
   | some (.sl _ q _)=>Nat.beq q s&&inB n len
   | some (.rs _ q _)=>Nat.beq q s&&inB n len
   | _=>false
  | some (.lb _ m),some (.t (.v (.int _ n)))=>Nat.beq s 1&&inB n m
  | _,_=>false
 | .iaR _ s x i=>match ev Γ st.env x,ev Γ st.env i with
  | some (.ls id _ len _),some (.t (.v (.int _ n)))=>match A2 st.hp id with
   | some (.sl _ q _)=>Nat.beq q s&&inB n len
   | some (.rs _ q _)=>Nat.beq q s&&inB n len
   | _=>false
  | _,_=>false
 | .stF _ f a x=>match ev Γ st.env x,ev Γ st.env a with
  | some v,some (.lp id i _)=>match A2 st.hp id with
   | some (.rs _ s es)=>Nat.blt i es.length&&Nat.ble (f+1) s&&v.one&&Nat.beq (es.getD i []).length s
   | _=>false
  | _,_=>false
 | .iadT s x i=>match ev Γ st.env x,ev Γ st.env i with
  | some (.t (.sl es _ _)),some (.t (.v (.int _ n)))=>inB n es.length&&q1b s es
  | _,_=>false
 | .iadrA len _ _ i=>match ev Γ st.env i with
  | some (.t (.v (.int _ n)))=>inB n len
  | _=>false
 | .idxS x i=>match ev Γ st.env x,ev Γ st.env i with
  | some (.t (.v (.string s))),some (.t (.v (.int _ n)))=>inB n s.size
  | _,_=>false
 | .idxA len s _ x i=>match ev Γ st.env x,ev Γ st.env i with
  | some (.t (.agg ts)),some (.t (.v (.int _ n)))=>inB n len&&Nat.ble (n.toNat*s+s) ts.length
  | some (.ag cs),some (.t (.v (.int _ n)))=>inB n len&&Nat.ble (n.toNat*s+s) cs.length
  | _,_=>false
 | .bin op x y=>match ev Γ st.env x,ev Γ st.env y with
  | some (.t (.v a)),some (.t (.v b))=>q2J op a b
  | _,_=>false
 | .eqg _ ks x y=>match (ev Γ st.env x).bind q7m,(ev Γ st.env y).bind q7m with
  | some as,some bs=>lkB ks as&&lkB ks bs
  | _,_=>false
 | .isNil _ x=>match ev Γ st.env x with
  | some (.t (.sl es _ nl))=>match nl with
   | some _=>true
   | none=>neB es
  | _=>false
 | .mmx mx xs=>match Ip Γ st.env xs with
  | some as=>match Vf mx as none with
   | some r=>G2 r.1 as
   | none=>false
  | none=>false
 | .app fz ty s b x=>match (ev Γ st.env x).bind (B7 st.hp),ev Γ st.env b with
  | some news,some a=>q1b s news&&match a with
   | .t (.sl es (some c) _)=>q1b s es&&Nat.beq c es.length&&Nat.ble (es.length+news.length) 2147483648&&(fz||neB news || !(neB es))&&(fz||frB st.hp d)
   | .ls id off len (some c)=>match A2 st.hp id with
    | some (.sl t q es)=>Nat.beq t ty&&Nat.beq q s&&Nat.beq c len&&Nat.ble (len+news.length) 2147483648&&(neB news||Nat.beq len 0)&&(fz||frB st.hp d)
    | _=>false
   | .ls id 0 len none=>match A2 st.hp id with
    | some (.sl t q es)=>Nat.beq t ty&&Nat.beq q s&&Nat.ble (len+news.length) 2147483648&&(fz||frB (st.kill id).hp d)
    | _=>false
   | _=>false
  | _,_=>false
 | .appN _ s x=>match ev Γ st.env x with
  | some (.t (.sl es _ _))=>frB st.hp d&&q1b s es&&Nat.ble es.length 2147483648
  | _=>false
 | .appT _ s b x=>match (ev Γ st.env x).bind (B7 st.hp),ev Γ st.env b with
  | some news,some (.t (.sl es (some c) _))=>q1b s news&&q1b s es&&Nat.beq c es.length&&Nat.ble (es.length+news.length) 2147483648
  | _,_=>false
 | .appB b x=>match (ev Γ st.env x).bind (B7 st.hp),ev Γ st.env b with
  | some news,some (.t (.sl es (some c) _))=>q1b 1 news&&q1b 1 es&&Nat.beq c es.length&&Nat.ble (es.length+news.length) 140737488355328
  | _,_=>false
 | .appS ty b x=>match ev Γ st.env x,ev Γ st.env b with
  | some (.t (.v (.string s))),some (.ls id 0 len none)=>match A2 st.hp id with
   | some (.sl t q _)=>Nat.beq t ty&&Nat.beq q 1&&Nat.blt 0 s.size&&Nat.ble (len+s.size) 140737488355328&&frB (st.kill id).hp d
   | _=>false
  | some (.t (.v (.string s))),some (.t (.sl [] (some 0) _))=>Nat.blt 0 s.size&&Nat.ble s.size 140737488355328&&frB st.hp d
  | _,_=>false
 | .appR fz i ty b x=>match ev Γ st.env x,ev Γ st.env b with
  | some (.t (.sl news _ _)),some (.ls id 0 len none)=>match A2 st.hp i with
   | some (.sl t q _)=>Nat.beq id i&&q1b 1 news&&Nat.beq t ty&&Nat.beq q 1&&Nat.ble (len+news.length) 140737488355328&&(fz||frB (st.kill i).hp d)
   | _=>false
  | _,_=>false
 | .appZ _ s _ b n=>match ev Γ st.env b,ev Γ st.env n with
  | some (.t (.sl es (some q) _)),some (.t (.v (.int _ m)))=>frB st.hp d&&decide (0<m)&&q1b s es&&decide ((q:Int)<es.length+m)&&decide (es.length+m<=2147483648)
  | _,_=>false
 | .cpy s x y=>match ev Γ st.env x,(ev Γ st.env y).bind (B7 st.hp) with
  | some (.ls id _ _ _),some news=>match A2 st.hp id with
   | some (.sl _ q _)=>Nat.beq q s&&q1b s news
   | _=>false
  | _,_=>false
 | .clr s _ x=>match ev Γ st.env x with
  | some (.ls id _ _ _)=>match A2 st.hp id with
   | some (.sl _ q _)=>Nat.beq q s
   | _=>false
  | _=>false
 | .slice s x lo hi mx=>match ev Γ st.env x with
  | some (.t (.v (.string b)))=>match Eo Γ st.env lo 0,Eo Γ st.env hi b.size with
   | some l,some h=>Nat.beq s 0&&q6V Γ st.env lo&&q6V Γ st.env hi&&Nat.ble l.2 h.2&&Nat.ble h.2 b.size
   | _,_=>false
  | some (.t (.sl es _ _))=>match Eo Γ st.env lo 0,Eo Γ st.env hi es.length with
   | some l,some h=>!(Nat.beq s 0)&&q1b s es&&q6V Γ st.env lo&&q6V Γ st.env hi&&Nat.ble l.2 h.2&&match mx with
    | none=>Nat.ble h.2 es.length
    | some _=>match Eo Γ st.env mx 0 with
     | some m=>q6V Γ st.env mx&&Nat.ble h.2 m.2&&Nat.ble m.2 es.length
     | none=>false
   | _,_=>false
  | some (.ls id _ len _)=>match Eo Γ st.env lo 0,Eo Γ st.env hi len with
   | some l,some h=>!(Nat.beq s 0)&&(match A2 st.hp id with|some (.sl _ q _)=>Nat.beq q s|_=>false)&&q6V Γ st.env lo&&q6V Γ st.env hi&&Nat.ble l.2 h.2&&match mx with
    | none=>Nat.ble h.2 len
    | some _=>match Eo Γ st.env mx 0 with
     | some m=>q6V Γ st.env mx&&Nat.ble h.2 m.2&&Nat.ble m.2 len
     | none=>false
   | _,_=>false
  | _=>false
 | .mk _ _ _ l c | .mkE _ _ _ l c=>match ev Γ st.env l,ev Γ st.env c with
  | some (.t (.v (.int _ n))),some (.t (.v (.int _ m)))=>frB st.hp d&&nnB n&&decide (n<=m)&&decide (m<=2147483648)
  | _,_=>false
 | .mkB _ _ l c=>match ev Γ st.env l,ev Γ st.env c with
  | some (.t (.v (.int _ n))),some (.t (.v (.int _ m)))=>frB st.hp d&&nnB n&&decide (n=m)&&decide (m<=2147483648)
  | _,_=>false
 | .mkf _ caps | .mkfB _ caps=>match Ip Γ st.env caps with
  | some as=>Aw as
  | none=>false
 | .mkmap | .rng _=>frB st.hp d
 | .lkup kt _ _ m k=>match ev Γ st.env k with
  | some (.t (.v kv))=>kt.fits kv&&match ev Γ st.env m with
   | some (.t (.mp es))=>q9E kt es
   | some (.lm id)=>match A2 st.hp id with
    | some (.mp es)=>q9E kt es
    | _=>false
   | _=>false
  | _=>false
 | .lkT kt _ _ m k=>match ev Γ st.env k,ev Γ st.env m with
  | some (.t (.v kv)),some (.t (.mp es))=>kt.fits kv&&q9E kt es
  | _,_=>false
 | .mup kt m k _=>match ev Γ st.env k,ev Γ st.env m with
  | some (.t (.v kv)),some (.lm id)=>match A2 st.hp id with
   | some (.mp es)=>kt.fits kv&&q9E kt es
   | _=>false
  | _,_=>false
 | _=>false
theorem qBf {hp:List (Nat×Aj)} {id i k n:Nat} (h:qAT hp id i k n=true):(∃ t s es,A2 hp id=some (.sl t s es)/\i<es.length/\k+n<=s)\/(∃ t s es,A2 hp id=some (.rs t s es)/\i<es.length/\k+n<=s)\/∃ cs,A2 hp id=some (.bx cs)/\i=0/\k+n<=cs.length:=by
 unfold qAT at h
 split at h
 ·rename_i hl;simp only[Bool.and_eq_true,Nat.blt_eq,Nat.ble_eq]at h;exact .inl ⟨_,_,_,hl,h⟩
 ·rename_i hl;simp only[Bool.and_eq_true,Nat.blt_eq,Nat.ble_eq]at h;exact .inr (.inl ⟨_,_,_,hl,h⟩)
 ·rename_i hl;simp only[Bool.and_eq_true,Nat.beq_eq,Nat.ble_eq]at h;exact .inr (.inr ⟨_,hl,h⟩)
 ·cases h
variable {Γ:Tables} {d:Nat} {st s1:St} {c:Prop} {r:AV}
theorem qDv {id i k n:Nat} {v:AV} (hc:stC st.hp id i k n v=true) (h:(match A2 st.hp id with
   | some (.sl ty s es)=>(Iq v.cells).map fun ts =>
    (i<es.length/\k+n<=s/\ts.length=n/\Bi ts=true,AV.un,
     (⟨st.env,Bm id (.sl ty s (es.set i (if k=0/\n=s then ts else(es.getD i []).take k++ts++(es.getD i []).drop (k+n)))) st.hp⟩:St))
   | some (.rs ty s es)=>some (i<es.length/\k+n<=s/\v.cells.length=n/\Aw v.cells=true,.un,
     ⟨st.env,Bm id (.rs ty s (es.set i (if k=0/\n=s then v.cells else(es.getD i []).take k++v.cells++(es.getD i []).drop (k+n)))) st.hp⟩)
   | some (.bx cs)=>some (i=0/\k+n<=cs.length/\v.cells.length=n/\Aw v.cells=true,.un,⟨st.env,Bm id (.bx (cs.take k++v.cells++cs.drop (k+n))) st.hp⟩)
   | _=>none)=some (c,r,s1)):c:=by
 unfold stC at hc
 split at h
 ·rename_i hl;rw[hl]at hc
  simp only[Option.map_eq_some_iff,Prod.mk.injEq]at h
  obtain⟨ts,hts,rfl,_⟩:=h
  simp only[hts,Bool.and_eq_true,Nat.blt_eq,Nat.ble_eq,Nat.beq_eq]at hc
  exact⟨hc.1.1.1,hc.1.1.2,hc.1.2,hc.2⟩
 ·rename_i hl;rw[hl]at hc
  simp only[Option.some.injEq,Prod.mk.injEq]at h;obtain⟨rfl,_⟩:=h
  simp only[Bool.and_eq_true,Nat.blt_eq,Nat.ble_eq,Nat.beq_eq]at hc
  exact⟨hc.1.1.1,hc.1.1.2,hc.1.2,hc.2⟩
 ·rename_i hl;rw[hl]at hc
  simp only[Option.some.injEq,Prod.mk.injEq]at h;obtain⟨rfl,_⟩:=h
  simp only[Bool.and_eq_true,Nat.blt_eq,Nat.ble_eq,Nat.beq_eq]at hc
  exact⟨hc.1.1.1,hc.1.1.2,hc.1.2,hc.2⟩
 ·cases h
theorem qFz {io:B6} (h:A7 Γ d io st=some (c,r,s1)) (hc:Dz Γ d io st=true):c:=by
 cases io with
 | mv x=>simp only[A7,Option.map_eq_some_iff,Prod.mk.injEq]at h;obtain⟨_,_,rfl,_⟩:=h;trivial
 | pick a b e=>simp only[A7]at h;split at h<;>simp only[Option.some.injEq,Prod.mk.injEq,reduceCtorEq]at h;obtain⟨rfl,_⟩:=h;trivial
 | fadr o a=>simp only[A7]at h;split at h<;>simp only[Option.some.injEq,Prod.mk.injEq,reduceCtorEq]at h<;>(obtain⟨rfl,_⟩:=h;trivial)
 | eqb o a=>simp only[A7]at h;split at h<;>simp only[Option.some.injEq,Prod.mk.injEq,reduceCtorEq]at h;obtain⟨rfl,_⟩:=h;trivial
 | cap a=>simp only[A7]at h;split at h<;>simp only[Option.some.injEq,Prod.mk.injEq,reduceCtorEq]at h<;>(obtain⟨rfl,_⟩:=h;trivial)
 | conv k a=>simp only[A7]at h;split at h<;>simp only[Option.some.injEq,Prod.mk.injEq,reduceCtorEq]at h;obtain⟨rfl,_⟩:=h;trivial
 | runeStr a=>simp only[A7]at h;split at h<;>simp only[Option.some.injEq,Prod.mk.injEq,reduceCtorEq]at h;obtain⟨rfl,_⟩:=h;trivial
 | nck a=>simp only[A7]at h;split at h<;>simp only[Option.some.injEq,Prod.mk.injEq,reduceCtorEq]at h<;>(obtain⟨rfl,_⟩:=h;trivial)
 | un o a=>simp only[A7]at h;split at h<;>simp only[Option.map_eq_some_iff,Prod.mk.injEq,reduceCtorEq]at h;obtain⟨_,_,rfl,_⟩:=h;trivial
 | ext a i=>simp only[A7]at h;split at h<;>simp only[Option.map_eq_some_iff,Prod.mk.injEq,reduceCtorEq]at h<;>(obtain⟨_,_,rfl,_⟩:=h;trivial)
 | bytesStr a=>simp only[A7,Option.bind_eq_some_iff,Option.map_eq_some_iff,Prod.mk.injEq]at h;obtain⟨_,_,_,_,rfl,_⟩:=h;trivial
 | len k a =>
  simp only[A7,Option.bind_eq_some_iff]at h
  obtain⟨_,_,h⟩:=h
  split at h
  ·simp only[Option.map_eq_some_iff,Prod.mk.injEq]at h;obtain⟨_,_,rfl,_⟩:=h;trivial
  ·cases h
 | nxt a =>
  simp only[A7]at h
  split at h
  ·split at h
   ·split at h<;>(simp only[Option.some.injEq,Prod.mk.injEq]at h;obtain⟨rfl,_⟩:=h;trivial)
   ·cases h
  ·cases h
 | allocR ty zs =>
  simp only[A7,Option.some.injEq,Prod.mk.injEq]at h;obtain⟨rfl,_⟩:=h
  exact Ir hc
 | alloc fz zs =>
  simp only[A7]at h;simp only[Dz,Bool.or_eq_true]at hc
  split at h
  ·simp only[Option.some.injEq,Prod.mk.injEq]at h;obtain⟨rfl,_⟩:=h;trivial
  ·rename_i hf;simp only[Option.some.injEq,Prod.mk.injEq]at h;obtain⟨rfl,_⟩:=h
   rcases hc with hc|hc
   ·exact absurd hc hf
   ·exact Ir hc
 | box fz x =>
  simp only[A7,Option.bind_eq_some_iff]at h;simp only[Dz]at hc
  obtain⟨a,ha,h⟩:=h
  rw[ha]at hc
  simp only at hc
  split at h
  ·rename_i hf
   rw[if_pos hf]at hc
   simp only[Option.map_eq_some_iff,Prod.mk.injEq]at h
   obtain⟨ts,hts,rfl,_⟩:=h
   rw[hts]at hc;exact hc
  ·rename_i hf
   rw[if_neg hf]at hc
   simp only[Option.some.injEq,Prod.mk.injEq]at h
   obtain⟨rfl,_⟩:=h
   simp only[Bool.and_eq_true]at hc
   exact⟨Ir hc.1,hc.2⟩
 | build parts =>
  simp only[A7,Option.map_eq_some_iff,Prod.mk.injEq]at h;simp only[Dz]at hc
  obtain⟨as,has,rfl,_⟩:=h
  rw[has]at hc
  simp only[Bool.and_eq_true]at hc
  exact⟨q9F hc.1,hc.2⟩
 | bsl fz ty s parts =>
  simp only[A7,Option.bind_eq_some_iff,Option.map_eq_some_iff]at h;simp only[Dz]at hc
  obtain⟨as,has,es,hes,h⟩:=h
  rw[has]at hc
  simp only[hes,Bool.and_eq_true,Bool.or_eq_true]at hc
  split at h
  ·simp only[Prod.mk.injEq]at h;obtain⟨rfl,_⟩:=h;exact qDu hc.2
  ·rename_i hf;simp only[Prod.mk.injEq]at h;obtain⟨rfl,_⟩:=h
   rcases hc.1 with h1|h1
   ·exact absurd h1 hf
   ·exact⟨Ir h1,qDu hc.2⟩
 | bslA ty s parts =>
  simp only[A7,Option.map_eq_some_iff,Prod.mk.injEq]at h;simp only[Dz]at hc
  obtain⟨as,has,rfl,_⟩:=h
  rw[has]at hc
  simp only[Bool.and_eq_true]at hc
  refine⟨Ir hc.1,fun a ha=>?_⟩
  have:=List.all_eq_true.1 hc.2 a ha
  simp only[Bool.and_eq_true,Nat.beq_eq]at this
  exact this
 | appA ty s b x =>
  simp only[A7]at h;simp only[Dz]at hc
  split at h
  ·rename_i h1 h2;rw[h1,h2]at hc
   simp only at hc
   split at h
   ·rename_i h3 h4;simp only[h3,h4,Bool.and_eq_true,Nat.beq_eq,Nat.ble_eq]at hc
    simp only[Option.some.injEq,Prod.mk.injEq]at h;obtain⟨rfl,_⟩:=h
    exact⟨hc.1.1.1.1.1.1,hc.1.1.1.1.1.2,q82 hc.1.1.1.1.2,hc.1.1.1.2,hc.1.1.2,hc.1.2,Ir hc.2⟩
   ·cases h
  ·cases h
 | load n g a =>
  simp only[A7]at h;simp only[Dz]at hc
  split at h
  ·rename_i ha;rw[ha]at hc;simp only[Option.some.injEq,Prod.mk.injEq]at h;obtain⟨rfl,_⟩:=h;exact Nat.le_of_ble_eq_true hc
  ·rename_i ha;rw[ha]at hc;simp only at hc
   rcases qBf hc with⟨t,s,es,hl,h1⟩|⟨t,s,es,hl,h1⟩|⟨cs,hl,h1⟩<;>(rw[hl]at h;simp only[Option.some.injEq,Prod.mk.injEq]at h;obtain⟨rfl,_⟩:=h;exact h1)
  ·cases h
 | ldR i n g a =>
  simp only[A7]at h;simp only[Dz]at hc
  split at h
  ·split at h
   ·rename_i ha;rw[ha]at hc;simp only[Option.some.injEq,Prod.mk.injEq]at h;obtain⟨rfl,_⟩:=h;exact Nat.le_of_ble_eq_true hc
   ·rename_i ha;rw[ha]at hc;simp only at hc
    rcases qBf hc with⟨t,s,es,hl,h1⟩|⟨t,s,es,hl,h1⟩|⟨cs,hl,h1⟩<;>(rw[hl]at h;simp only[Option.some.injEq,Prod.mk.injEq]at h;obtain⟨rfl,_⟩:=h;exact h1)
   ·cases h
  ·cases h
 | ldT n g a =>
  simp only[A7]at h;simp only[Dz]at hc
  split at h
  ·rename_i ha;rw[ha]at hc;simp only[Option.some.injEq,Prod.mk.injEq]at h;obtain⟨rfl,_⟩:=h;exact Nat.le_of_ble_eq_true hc
  ·cases h
 | store n a x =>
  simp only[A7,Option.bind_eq_some_iff]at h;simp only[Dz]at hc
  obtain⟨v,hv,h⟩:=h
  rw[hv]at hc
  split at h
  ·rename_i ha
   rw[ha]at hc
   exact qDv hc h
  ·cases h
 | stR id n a x =>
  simp only[A7]at h
  split at h
  ·simp only[Option.bind_eq_some_iff]at h;simp only[Dz]at hc
   obtain⟨v,hv,h⟩:=h
   rw[hv]at hc
   split at h
   ·rename_i ha
    rw[ha]at hc
    exact qDv hc h
   ·cases h
  ·cases h
 | fld off n g x =>
  simp only[A7,Option.bind_eq_some_iff]at h;simp only[Dz]at hc
  obtain⟨a,ha,h⟩:=h
  rw[ha]at hc
  split at h
  ·simp only[Option.some.injEq,Prod.mk.injEq]at h;obtain⟨rfl,_⟩:=h;exact Nat.le_of_ble_eq_true hc
  ·simp only[Option.some.injEq,Prod.mk.injEq]at h;obtain⟨rfl,_⟩:=h;exact Nat.le_of_ble_eq_true hc
  ·cases h
 | iadr s x i =>
  simp only[A7]at h;simp only[Dz]at hc
  split at h
  ·rename_i h1 h2;rw[h1,h2]at hc;simp only[Option.some.injEq,Prod.mk.injEq]at h;obtain⟨rfl,_⟩:=h
   simp only[Bool.and_eq_true]at hc
   exact⟨(K9 hc.1).1,(K9 hc.1).2,Hm hc.2⟩
  ·rename_i h1 h2;rw[h1,h2]at hc
   simp only at hc
   split at h
   ·rename_i hl;simp only[hl,Bool.and_eq_true]at hc;simp only[Option.some.injEq,Prod.mk.injEq]at h;obtain⟨rfl,_⟩:=h;exact⟨Nat.eq_of_beq_eq_true hc.1,K9 hc.2⟩
   ·rename_i hl;simp only[hl,Bool.and_eq_true]at hc;simp only[Option.some.injEq,Prod.mk.injEq]at h;obtain⟨rfl,_⟩:=h;exact⟨Nat.eq_of_beq_eq_true hc.1,K9 hc.2⟩
   ·cases h
  ·rename_i h1 h2;rw[h1,h2]at hc
   simp only[Bool.and_eq_true]at hc
   split at h
   ·simp only[Option.some.injEq,Prod.mk.injEq]at h;obtain⟨rfl,_⟩:=h;exact⟨Nat.eq_of_beq_eq_true hc.1,K9 hc.2⟩
   ·cases h
  ·cases h
 | iaR id0 s x i =>
  simp only[A7]at h;simp only[Dz]at hc
  split at h
  ·rename_i h1 h2;rw[h1,h2]at hc
   simp only at hc
   split at h
   ·split at h
    ·rename_i hl;simp only[hl,Bool.and_eq_true]at hc;simp only[Option.some.injEq,Prod.mk.injEq]at h;obtain⟨rfl,_⟩:=h;exact⟨Nat.eq_of_beq_eq_true hc.1,K9 hc.2⟩
    ·rename_i hl;simp only[hl,Bool.and_eq_true]at hc;simp only[Option.some.injEq,Prod.mk.injEq]at h;obtain⟨rfl,_⟩:=h;exact⟨Nat.eq_of_beq_eq_true hc.1,K9 hc.2⟩
    ·cases h
   ·cases h
  ·cases h
 | stF id0 f a x =>
  simp only[A7,Option.bind_eq_some_iff]at h;simp only[Dz]at hc
  obtain⟨v,hv,h⟩:=h
  rw[hv]at hc
  split at h
  ·rename_i ha
   rw[ha]at hc
   simp only at hc
   split at h
   ·split at h
    ·rename_i hl;simp only[hl,Bool.and_eq_true,Nat.blt_eq,Nat.ble_eq,Nat.beq_eq]at hc;simp only[Option.some.injEq,Prod.mk.injEq]at h;obtain⟨rfl,_⟩:=h;exact⟨hc.1.1.1,hc.1.1.2,hc.1.2,hc.2⟩
    ·cases h
   ·cases h
  ·cases h
 | iadT s x i =>
  simp only[A7]at h;simp only[Dz]at hc
  split at h
  ·rename_i h1 h2;rw[h1,h2]at hc;simp only[Option.some.injEq,Prod.mk.injEq]at h;obtain⟨rfl,_⟩:=h
   simp only[Bool.and_eq_true]at hc
   exact⟨(K9 hc.1).1,(K9 hc.1).2,Hm hc.2⟩
  ·cases h
 | iadrA len s x i =>
  simp only[A7]at h;simp only[Dz]at hc
  split at h
  ·rename_i h1 h2;rw[h2]at hc;simp only[Option.some.injEq,Prod.mk.injEq]at h;obtain⟨rfl,_⟩:=h;exact K9 hc
  ·rename_i h1 h2;rw[h2]at hc;simp only[Option.some.injEq,Prod.mk.injEq]at h;obtain⟨rfl,_⟩:=h;exact K9 hc
  ·cases h
 | idxS x i =>
  simp only[A7]at h;simp only[Dz]at hc
  split at h
  ·rename_i h1 h2;rw[h1,h2]at hc;simp only[Option.some.injEq,Prod.mk.injEq]at h;obtain⟨rfl,_⟩:=h;exact K9 hc
  ·cases h
 | idxA len s g x i =>
  simp only[A7]at h;simp only[Dz]at hc
  split at h
  ·rename_i h1 h2;rw[h1,h2]at hc;simp only[Option.some.injEq,Prod.mk.injEq]at h;obtain⟨rfl,_⟩:=h
   simp only[Bool.and_eq_true,Nat.ble_eq]at hc
   exact⟨(K9 hc.1).1,(K9 hc.1).2,hc.2⟩
  ·rename_i h1 h2;rw[h1,h2]at hc;simp only[Option.some.injEq,Prod.mk.injEq]at h;obtain⟨rfl,_⟩:=h
   simp only[Bool.and_eq_true,Nat.ble_eq]at hc
   exact⟨(K9 hc.1).1,(K9 hc.1).2,hc.2⟩
  ·cases h
 | bin op x y =>
  simp only[A7]at h;simp only[Dz]at hc
  split at h
  ·rename_i h1 h2;rw[h1,h2]at hc
   simp only[Option.map_eq_some_iff,Prod.mk.injEq]at h
   obtain⟨q,hq,rfl,_⟩:=h
   exact qFy hc hq
  ·cases h
 | eqg pos ks x y =>
  simp only[A7,Option.bind_eq_some_iff,Option.map_eq_some_iff,Prod.mk.injEq]at h;simp only[Dz]at hc
  obtain⟨as,⟨a,ha,ha2⟩,bs,⟨b,hb,hb2⟩,rfl,_⟩:=h
  rw[ha,hb]at hc
  simp only[Option.bind_some,ha2,hb2,Bool.and_eq_true]at hc
  exact⟨qAS hc.1,qAS hc.2⟩
 | isNil pos x =>
  simp only[A7]at h;simp only[Dz]at hc
  split at h
  ·rename_i h1;rw[h1]at hc;simp only at hc
   split at h
   ·simp only[Option.some.injEq,Prod.mk.injEq]at h;obtain⟨rfl,_⟩:=h;trivial
   ·simp only[Option.some.injEq,Prod.mk.injEq]at h;obtain⟨rfl,_⟩:=h;exact q82 hc
  ·cases h
 | mmx mx xs =>
  simp only[A7,Option.bind_eq_some_iff,Option.map_eq_some_iff,Prod.mk.injEq]at h;simp only[Dz]at hc
  obtain⟨as,has,q,hq,rfl,_⟩:=h
  rw[has]at hc
  simp only[hq]at hc
  exact hc
 | app fz ty s b x =>
  simp only[A7,Option.bind_eq_some_iff]at h;simp only[Dz]at hc
  obtain⟨news,⟨v,hv,hn⟩,a,ha,h⟩:=h
  rw[hv,ha]at hc
  simp only[Option.bind_some,hn,Bool.and_eq_true]at hc
  obtain⟨hw,hc⟩:=hc
  have hw:=Hm hw
  have fin:∀ {c0:Prop} {es:List (List T)} {st':St},(if fz=true then some (Gk s news/\c0,AV.t (.sl es none none),st')else some ((Gk s news/\c0)/\A2 st'.hp d=none,AV.ls d 0 es.length none,(⟨st'.env,(d,.sl ty s es)::st'.hp⟩:St)))=some (c,r,s1)->c0->(fz=true\/frB st'.hp d=true)->c:=by
   intro c0 es st' h h0 hf
   split at h
   ·simp only[Option.some.injEq,Prod.mk.injEq]at h;obtain⟨rfl,_⟩:=h;exact⟨hw,h0⟩
   ·rename_i hfz;simp only[Option.some.injEq,Prod.mk.injEq]at h;obtain⟨rfl,_⟩:=h
    rcases hf with hf|hf
    ·exact absurd hf hfz
    ·exact⟨⟨hw,h0⟩,Ir hf⟩
  split at h
  ·simp only[Bool.and_eq_true,Bool.or_eq_true,Nat.beq_eq,Nat.ble_eq]at hc
   refine fin h ⟨Hm hc.1.1.1.1,hc.1.1.1.2,hc.1.1.2,?_⟩ hc.2
   rcases hc.1.2 with(h1|h1)|h1
   ·exact .inl h1
   ·exact .inr (.inl (q82 h1))
   ·refine .inr (.inr ?_)
    rename_i es _ _
    cases es with
    | nil=>rfl
    | cons=>simp[neB]at h1
  ·split at h
   ·rename_i hl;simp only[hl,Bool.and_eq_true,Bool.or_eq_true,Nat.beq_eq,Nat.ble_eq]at hc
    refine fin h ⟨hc.1.1.1.1.1,hc.1.1.1.1.2,hc.1.1.1.2,hc.1.1.2,?_⟩ hc.2
    rcases hc.1.2 with h1|h1
    ·exact .inl (q82 h1)
    ·exact .inr h1
   ·cases h
  ·split at h
   ·rename_i hl;simp only[hl,Bool.and_eq_true,Bool.or_eq_true,Nat.beq_eq,Nat.ble_eq]at hc
    exact fin h ⟨hc.1.1.1,hc.1.1.2,hc.1.2⟩ hc.2
   ·cases h
  ·cases h
 | appN ty s x =>
  simp only[A7]at h;simp only[Dz]at hc
  split at h
  ·rename_i h1;rw[h1]at hc;simp only[Bool.and_eq_true,Nat.ble_eq]at hc;simp only[Option.some.injEq,Prod.mk.injEq]at h;obtain⟨rfl,_⟩:=h;exact⟨Ir hc.1.1,Hm hc.1.2,hc.2⟩
  ·cases h
 | appT ty s b x =>
  simp only[A7,Option.bind_eq_some_iff]at h;simp only[Dz]at hc
  obtain⟨news,⟨v,hv,hn⟩,h⟩:=h
  split at h
  ·rename_i hb;rw[hv,hb]at hc;simp only[Option.bind_some,hn,Bool.and_eq_true,Nat.beq_eq,Nat.ble_eq]at hc
   simp only[Option.some.injEq,Prod.mk.injEq]at h;obtain⟨rfl,_⟩:=h;exact⟨Hm hc.1.1.1,Hm hc.1.1.2,hc.1.2,hc.2⟩
  ·cases h
 | appB b x =>
  simp only[A7,Option.bind_eq_some_iff]at h;simp only[Dz]at hc
  obtain⟨news,⟨v,hv,hn⟩,h⟩:=h
  split at h
  ·rename_i hb;rw[hv,hb]at hc;simp only[Option.bind_some,hn,Bool.and_eq_true,Nat.beq_eq,Nat.ble_eq]at hc
   simp only[Option.some.injEq,Prod.mk.injEq]at h;obtain⟨rfl,_⟩:=h;exact⟨Hm hc.1.1.1,Hm hc.1.1.2,hc.1.2,hc.2⟩
  ·cases h
 | appS ty b x =>
  simp only[A7]at h;simp only[Dz]at hc
  split at h
  ·rename_i h1 h2;rw[h1,h2]at hc
   simp only at hc
   split at h
   ·rename_i h3;simp only[h3,Bool.and_eq_true,Nat.beq_eq,Nat.ble_eq,Nat.blt_eq]at hc
    simp only[Option.some.injEq,Prod.mk.injEq]at h;obtain⟨rfl,_⟩:=h
    exact⟨hc.1.1.1.1,hc.1.1.1.2,hc.1.1.2,hc.1.2,Ir hc.2⟩
   ·cases h
  ·rename_i h1 h2;rw[h1,h2]at hc
   simp only[Bool.and_eq_true,Nat.ble_eq,Nat.blt_eq]at hc
   simp only[Option.some.injEq,Prod.mk.injEq]at h;obtain⟨rfl,_⟩:=h
   exact⟨hc.1.1,hc.1.2,Ir hc.2⟩
  ·cases h
 | appR fz i ty b x =>
  simp only[A7]at h;simp only[Dz]at hc
  split at h
  ·rename_i h1 h2;rw[h1,h2]at hc
   simp only at hc
   split at h
   ·rename_i hl
    simp only[hl,Bool.and_eq_true,Bool.or_eq_true,Nat.beq_eq,Nat.ble_eq]at hc
    split at h
    ·simp only[Option.some.injEq,Prod.mk.injEq]at h;obtain⟨rfl,_⟩:=h;exact⟨hc.1.1.1.1.1,Hm hc.1.1.1.1.2,hc.1.1.1.2,hc.1.1.2,hc.1.2⟩
    ·rename_i hf;simp only[Option.some.injEq,Prod.mk.injEq]at h;obtain⟨rfl,_⟩:=h
     rcases hc.2 with h3|h3
     ·exact absurd h3 hf
     ·exact⟨⟨hc.1.1.1.1.1,Hm hc.1.1.1.1.2,hc.1.1.1.2,hc.1.1.2,hc.1.2⟩,Ir h3⟩
   ·cases h
  ·cases h
 | appZ ty s zs b n =>
  simp only[A7]at h;simp only[Dz]at hc
  split at h
  ·rename_i h1 h2;rw[h1,h2]at hc
   simp only[Bool.and_eq_true,decide_eq_true_eq]at hc
   simp only[Option.some.injEq,Prod.mk.injEq]at h;obtain⟨rfl,_⟩:=h
   exact⟨Ir hc.1.1.1.1,hc.1.1.1.2,⟨Hm hc.1.1.2,hc.1.2⟩,hc.2⟩
  ·cases h
 | cpy s x y =>
  simp only[A7]at h;simp only[Dz]at hc
  split at h
  ·rename_i h1;rw[h1]at hc
   split at h
   ·rename_i hl
    simp only[Option.map_eq_some_iff,Prod.mk.injEq]at h
    obtain⟨news,hn,rfl,_⟩:=h
    rw[hn]at hc
    simp only[hl,Bool.and_eq_true,Nat.beq_eq]at hc
    exact⟨hc.1,Hm hc.2⟩
   ·cases h
  ·cases h
 | clr s zs x =>
  simp only[A7]at h;simp only[Dz]at hc
  split at h
  ·rename_i h1;rw[h1]at hc;simp only at hc
   split at h
   ·rename_i hl;rw[hl]at hc;simp only[Option.some.injEq,Prod.mk.injEq]at h;obtain⟨rfl,_⟩:=h;exact Nat.eq_of_beq_eq_true hc
   ·cases h
  ·cases h
 | slice s x lo hi mx =>
  simp only[A7,Option.bind_eq_some_iff]at h;simp only[Dz]at hc
  obtain⟨a,ha,h⟩:=h
  rw[ha]at hc
  split at h
  ·simp only[Option.bind_eq_some_iff,Option.map_eq_some_iff,Prod.mk.injEq]at h
   obtain⟨l,hl,q,hq,rfl,_⟩:=h
   simp only[hl,hq,Bool.and_eq_true,Nat.beq_eq,Nat.ble_eq]at hc
   exact⟨hc.1.1.1.1,Ls hc.1.1.1.2 hl,Ls hc.1.1.2 hq,hc.1.2,hc.2⟩
  ·simp only[Option.bind_eq_some_iff]at h
   obtain⟨l,hl,q,hq,h⟩:=h
   simp only[hl,hq,Bool.and_eq_true,Nat.beq_eq,Nat.ble_eq,Bool.not_eq_true']at hc
   have hs:s≠0:=fun e=>by subst e;simp at hc
   obtain⟨⟨⟨⟨⟨_,hw⟩,h1⟩,h2⟩,h3⟩,hc⟩:=hc
   split at h
   ·simp only[Option.some.injEq,Prod.mk.injEq]at h;obtain⟨rfl,_⟩:=h
    exact⟨hs,Hm hw,Ls h1 hl,Ls h2 hq,h3,Nat.le_of_ble_eq_true hc⟩
   ·simp only[Option.map_eq_some_iff,Prod.mk.injEq]at h
    obtain⟨m,hm,rfl,_⟩:=h
    simp only[hm,Bool.and_eq_true,Nat.ble_eq]at hc
    exact⟨hs,Hm hw,Ls h1 hl,Ls h2 hq,Ls hc.1.1 hm,h3,hc.1.2,hc.2⟩
  ·simp only[Option.bind_eq_some_iff]at h
   obtain⟨l,hl,q,hq,h⟩:=h
   simp only[hl,hq,Bool.and_eq_true,Nat.beq_eq,Nat.ble_eq,Bool.not_eq_true']at hc
   have hs:s≠0:=fun e=>by subst e;simp at hc
   obtain⟨⟨⟨⟨⟨_,hw⟩,h1⟩,h2⟩,h3⟩,hc⟩:=hc
   split at h
   ·rename_i hlk
    rw[hlk]at hw
    split at h
    ·simp only[Option.some.injEq,Prod.mk.injEq]at h;obtain⟨rfl,_⟩:=h
     exact⟨hs,Nat.eq_of_beq_eq_true hw,Ls h1 hl,Ls h2 hq,h3,Nat.le_of_ble_eq_true hc⟩
    ·simp only[Option.map_eq_some_iff,Prod.mk.injEq]at h
     obtain⟨m,hm,rfl,_⟩:=h
     simp only[hm,Bool.and_eq_true,Nat.ble_eq]at hc
     exact⟨hs,Nat.eq_of_beq_eq_true hw,Ls h1 hl,Ls h2 hq,Ls hc.1.1 hm,h3,hc.1.2,hc.2⟩
   ·cases h
  ·cases h
 | mk ty s zs l q =>
  simp only[A7]at h;simp only[Dz]at hc
  split at h
  ·rename_i h1 h2;rw[h1,h2]at hc
   simp only[Bool.and_eq_true,decide_eq_true_eq]at hc
   simp only[Option.some.injEq,Prod.mk.injEq]at h;obtain⟨rfl,_⟩:=h
   exact⟨Ir hc.1.1.1,q5V hc.1.1.2,hc.1.2,hc.2⟩
  ·cases h
 | mkE ty s zs l q =>
  simp only[A7]at h;simp only[Dz]at hc
  split at h
  ·rename_i h1 h2;rw[h1,h2]at hc
   simp only[Bool.and_eq_true,decide_eq_true_eq]at hc
   simp only[Option.some.injEq,Prod.mk.injEq]at h;obtain⟨rfl,_⟩:=h
   exact⟨Ir hc.1.1.1,q5V hc.1.1.2,hc.1.2,hc.2⟩
  ·cases h
 | mkB ty zs l q =>
  simp only[A7]at h;simp only[Dz]at hc
  split at h
  ·rename_i h1 h2;rw[h1,h2]at hc
   simp only[Bool.and_eq_true,decide_eq_true_eq]at hc
   simp only[Option.some.injEq,Prod.mk.injEq]at h;obtain⟨rfl,_⟩:=h
   exact⟨Ir hc.1.1.1,q5V hc.1.1.2,hc.1.2,hc.2⟩
  ·cases h
 | mkf f caps =>
  simp only[A7,Option.map_eq_some_iff,Prod.mk.injEq]at h;simp only[Dz]at hc
  obtain⟨as,has,rfl,_⟩:=h
  rw[has]at hc;exact hc
 | mkfB f caps =>
  simp only[A7,Option.map_eq_some_iff,Prod.mk.injEq]at h;simp only[Dz]at hc
  obtain⟨as,has,rfl,_⟩:=h
  rw[has]at hc;exact hc
 | mkmap=>simp only[A7,Option.some.injEq,Prod.mk.injEq]at h;obtain⟨rfl,_⟩:=h;exact Ir hc
 | rng x =>
  simp only[A7]at h;simp only[Dz]at hc
  split at h
  ·simp only[Option.some.injEq,Prod.mk.injEq]at h;obtain⟨rfl,_⟩:=h;exact Ir hc
  ·cases h
 | lkup kt zv ok m k =>
  simp only[A7]at h;simp only[Dz]at hc
  split at h
  ·rename_i hk;rw[hk]at hc;simp only[Bool.and_eq_true]at hc
   obtain⟨hf,hc⟩:=hc
   split at h
   ·rename_i hm;rw[hm]at hc;simp only[Option.some.injEq,Prod.mk.injEq]at h;obtain⟨rfl,_⟩:=h;exact⟨hf,q2I hc⟩
   ·rename_i hm;rw[hm]at hc;simp only at hc
    split at h
    ·rename_i hl;rw[hl]at hc;simp only[Option.some.injEq,Prod.mk.injEq]at h;obtain⟨rfl,_⟩:=h;exact⟨hf,q2I hc⟩
    ·cases h
   ·cases h
  ·cases h
 | lkT kt zv ok m k =>
  simp only[A7]at h;simp only[Dz]at hc
  split at h
  ·rename_i h1 h2;rw[h1,h2]at hc;simp only[Bool.and_eq_true]at hc;simp only[Option.some.injEq,Prod.mk.injEq]at h;obtain⟨rfl,_⟩:=h;exact⟨hc.1,q2I hc.2⟩
  ·cases h
 | mup kt m k x =>
  simp only[A7]at h;simp only[Dz]at hc
  split at h
  ·rename_i h1 h2;rw[h1,h2]at hc;simp only at hc
   split at h
   ·rename_i hl;simp only[hl,Bool.and_eq_true]at hc
    simp only[Option.map_eq_some_iff,Prod.mk.injEq]at h
    obtain⟨_,_,rfl,_⟩:=h
    exact⟨hc.1,q2I hc.2⟩
   ·cases h
  ·cases h
 | _=>cases hc
end Go.Lg
namespace Go.Lg
open Go
structure Fe where
 ic:IC
 N:Nat
 n:Nat
 rv:List RV
abbrev Tbl:=List (Nat×Fe)
def q5W (P:Program):Tbl->Prop
 | []=>True
 | (f,e)::l=>Ax P f e.ic e.N e.n e.rv=true/\q5W P l
theorem Xz {P:Program}:∀ {tb:Tbl} {f:Nat} {e:Fe},q5W P tb->A2 tb f=some e->Ax P f e.ic e.N e.n e.rv=true
 | [],_,_,_,h=>by simp[A2]at h
 | (k,v)::l,f,e,ho,h=>by
  simp only[A2]at h
  split at h
  ·rename_i hk;subst hk;simp only[Option.some.injEq]at h;subst h;exact ho.1
  ·exact Xz ho.2 h
structure Or where
 p:FuncId->List T->Option T
 f:FuncId->List T->Option T
 h:FuncId->List (Nat×Aj)->List AV->Option (AV×List (Nat×Aj))
structure q4S (P:Program) (Γ:Tables) (o:Or):Prop where
 p:∀ f ts r,o.p f ts=some r->An P Γ f ts r
 f:∀ f ts r,o.f f ts=some r->A6 P Γ f ts r
 h:∀ f hp as r hp',o.h f hp as=some (r,hp')->Bl P Γ f hp as r hp'
def qDw (rs:List Nat) (base:Nat) (hp:List (Nat×Aj)):List (Nat×Aj)->Bool
 | []=>true
 | (j,r)::l=>(if j<1000000 then frB hp (base+j)&&Nat.blt (base+j) 1000000 else Nat.blt (j-1000000) rs.length&&(match A2 hp (rs.getD (j-1000000) 0),r with
   | some (.sl _ s es),.sl _ s' es'=>Nat.beq s s' && Nat.beq es.length es'.length
   | some (.rs _ s es),.sl _ s' es'=>Nat.beq s s' && Nat.beq es.length es'.length
   | some (.sl _ s es),.rs _ s' es'=>Nat.beq s s' && Nat.beq es.length es'.length
   | some (.rs _ s es),.rs _ s' es'=>Nat.beq s s' && Nat.beq es.length es'.length
   | some (.bx _),.bx _=>true
   | some (.mp _),.mp _=>true
   | some (.it _ _),.it _ _=>true
   | _,_=>false))&&qDw rs base hp l
theorem q83 {rs:List Nat} {base:Nat} {hp:List (Nat×Aj)}:∀ {l:List (Nat×Aj)},qDw rs base hp l=true->Qf rs base hp l
 | [],_=>trivial
 | (j,r)::l,h=>by
  simp only[qDw,Bool.and_eq_true]at h
  refine⟨?_,q83 h.2⟩
  have h1:=h.1
  split at h1
  ·rename_i hj
   simp only[Bool.and_eq_true,Nat.blt_eq]at h1
   rw[if_pos hj]
   exact⟨Ir h1.1,h1.2⟩
  ·rename_i hj
   rw[if_neg hj]
   simp only[Bool.and_eq_true,Nat.blt_eq]at h1
   refine⟨h1.1,?_⟩
   have h2:=h1.2
   split at h2
   all_goals first
    | (cases h2;done)
    | (rename_i hl;simp only[Bool.and_eq_true,Nat.beq_eq]at h2;rw[hl];simp[Aj.sh,h2];done)
    | (rename_i hl;rw[hl];rfl)
def qDx:List Nat->Bool
 | []=>true
 | a::l=>!(l.contains a)&&qDx l
theorem q84:∀ {l:List Nat},qDx l=true->l.Nodup
 | [],_=>List.nodup_nil
 | a::l,h=>by
  simp only[qDx,Bool.and_eq_true,Bool.not_eq_true']at h
  exact List.nodup_cons.2 ⟨fun hm=>by simp[hm]at h,q84 h.2⟩
def q9G:AV->List Nat
 | .ls i _ _ _=>[i]
 | .lp i _ _=>[i]
 | .lm i=>[i]
 | .lb i _=>[i]
 | .li i=>[i]
 | _=>[]
def qDy:AV->List Nat
 | .ag cs=>cs.flatMap q9G
 | .tu cs=>cs.flatMap fun c=>match c with | .ag ds=>ds.flatMap q9G|c=>q9G c
 | .fn _ cs=>cs.flatMap q9G
 | a=>q9G a
def qKz:Aj->List Nat
 | .bx cs=>cs.flatMap qDy
 | .rs _ _ es=>es.flatMap fun e=>e.flatMap qDy
 | _=>[]
def q85 (hp:List (Nat×Aj)):Nat->List Nat->List Nat->List Nat
 | 0,_,acc=>acc
 | _+1,[],acc=>acc
 | k+1,a::l,acc =>
  if acc.contains a then q85 hp k l acc
  else match A2 hp a with
   | some r=>q85 hp k (l++qKz r) (acc++[a])
   | none=>q85 hp k l acc
def qL0 (hp:List (Nat×Aj)) (as:List AV):List Nat:=q85 hp 10000 (as.flatMap qDy) []
def qBg:Value->Value->Bool
 | .bool a,.bool b=>a==b
 | .int k a,.int j b=>decide (k=j)&&decide (a=b)
 | .string a,.string b=>a.data.toList==b.data.toList
 | .pointer none,.pointer none=>true
 | .slice none 0 0,.slice none 0 0=>true
 | .map none,.map none=>true
 | .nilFunc,.nilFunc=>true
 | _,_=>false
theorem q9H {x y:Value} (h:qBg x y=true):x=y:=by
 unfold qBg at h
 split at h
 ·simp at h;rw[h]
 ·simp only[Bool.and_eq_true,decide_eq_true_eq]at h;rw[h.1,h.2]
 ·rename_i a b
  have h:=eq_of_beq h
  obtain⟨⟨a⟩⟩:=a
  obtain⟨⟨b⟩⟩:=b
  simp only at h
  rw[h]
 all_goals first|rfl|cases h
def eqL {α:Type} (p:α->α->Bool):List α->List α->Bool
 | [],[]=>true
 | a::as,b::bs=>p a b&&eqL p as bs
 | _,_=>false
theorem Vl {α:Type} {p:α->α->Bool} (hp:∀ a b,p a b=true->a=b):∀ {l m:List α},eqL p l m=true->l=m
 | [],[],_=>rfl
 | a::as,b::bs,h=>by
  simp only[eqL,Bool.and_eq_true]at h
  rw[hp _ _ h.1,Vl hp h.2]
 | [],_::_,h=>by cases h
 | _::_,[],h=>by cases h
def eqT:Nat->T->T->Bool
 | 0,_,_=>false
 | n+1,x,y=>match x,y with
  | .v a,.v b=>qBg a b
  | .sl es c b,.sl fs d e=>decide (c=d)&&decide (b=e)&&eqL (eqL (eqT n)) es fs
  | .agg cs,.agg ds=>eqL (eqT n) cs ds
  | .tup cs,.tup ds=>eqL (eqT n) cs ds
  | .ip cs k,.ip ds j=>Nat.beq k j&&eqL (eqT n) cs ds
  | .fn f cs,.fn g ds=>Nat.beq f g&&eqL (eqT n) cs ds
  | .mp es,.mp fs=>eqL (fun a b=>qBg a.1 b.1&&eqT n a.2 b.2) es fs
  | _,_=>false
theorem qDz:∀ (n:Nat) (x y:T),eqT n x y=true->x=y
 | 0,_,_,h=>by cases h
 | n+1,x,y,h=>by
  have ih:=qDz n
  simp only[eqT]at h
  split at h
  ·rw[q9H h]
  ·simp only[Bool.and_eq_true,decide_eq_true_eq]at h
   rw[h.1.1,h.1.2,Vl (fun _ _ q=>Vl ih q) h.2]
  ·rw[Vl ih h]
  ·rw[Vl ih h]
  ·simp only[Bool.and_eq_true,Nat.beq_eq]at h;rw[h.1,Vl ih h.2]
  ·simp only[Bool.and_eq_true,Nat.beq_eq]at h;rw[show _=_ from h.1,Vl ih h.2]
  ·rw[Vl (fun a b q=>?_) h]
   simp only[Bool.and_eq_true]at q
   exact Prod.ext (q9H q.1) (ih _ _ q.2)
  ·cases h
def q0o:List (Nat×Aj)->List (Nat×Aj)->Bool
 | [],[]=>true
 | (i,.sl t s es)::l,(j,.sl u q fs)::m=>Nat.beq i j&&Nat.beq t u&&Nat.beq s q&&eqL (eqL (eqT 100)) es fs&&q0o l m
 | _,_=>false
theorem qBh:∀ {l m:List (Nat×Aj)},q0o l m=true->l=m
 | [],[],_=>rfl
 | (i,.sl t s es)::l,(j,.sl u q fs)::m,h=>by
  simp only[q0o,Bool.and_eq_true,Nat.beq_eq]at h
  obtain⟨⟨⟨⟨h1,h2⟩,h3⟩,h4⟩,h5⟩:=h
  rw[h1,h2,h3,Vl (fun _ _ q=>Vl (qDz 100) q) h4,qBh h5]
 | [],_::_,h=>by simp[q0o]at h
 | _::_,[],h=>by simp[q0o]at h
 | (_,.rs _ _ _)::_,_::_,h=>by simp[q0o]at h
 | (_,.bx _)::_,_::_,h=>by simp[q0o]at h
 | (_,.mp _)::_,_::_,h=>by simp[q0o]at h
 | (_,.mr _)::_,_::_,h=>by simp[q0o]at h
 | (_,.it _ _)::_,_::_,h=>by simp[q0o]at h
 | (_,.sl _ _ _)::_,(_,.rs _ _ _)::_,h=>by simp[q0o]at h
 | (_,.sl _ _ _)::_,(_,.bx _)::_,h=>by simp[q0o]at h
 | (_,.sl _ _ _)::_,(_,.mp _)::_,h=>by simp[q0o]at h
 | (_,.sl _ _ _)::_,(_,.mr _)::_,h=>by simp[q0o]at h
 | (_,.sl _ _ _)::_,(_,.it _ _)::_,h=>by simp[q0o]at h
def qIV (hp:List (Nat×Aj)) (i:Nat):Bool:=match A2 hp i with
 | some (.sl _ _ _)=>true
 | _=>false
theorem qG0 {hp:List (Nat×Aj)} {i:Nat} (h:qIV hp i=true):∃ ty s es,A2 hp i=some (.sl ty s es):=by
 unfold qIV at h
 split at h
 ·rename_i hl;exact⟨_,_,_,hl⟩
 ·cases h
section
variable (o:Or) (Γ:Tables)
def hE (st:St) (f:FuncId) (as:List AV) (rs:List Nat) (base:Nat):Option (AV×St) :=
 if qDx rs then match o.h f (Ba rs st.hp) (as.map (Ag (Uc rs))) with
  | some (res,hp')=>if qDw rs base st.hp hp' then some (Ag (fun i=>some (P2 rs base i)) res,C6 rs base hp' st)else none
  | none=>none
 else none
def cE (hp:List (Nat×Aj)) (f:FuncId) (as:List AV):Option T:=match Ac (as.map toT) with
 | some ts=>o.p f ts
 | none=>match Ac (as.map (Aq hp 4)) with
  | some ts=>o.f f ts
  | none=>none
def qE0 (d:Nat) (io:B6) (st:St):Option (AV×St):=match A7 Γ d io st with
 | some (_,r,s1)=>if Dz Γ d io st then some (r,s1)else none
 | none=>none
def opE (d:Nat) (io:B6) (st:St):Option (AV×St):=match io with
 | .call f args=>match Ip Γ st.env args with
  | some as=>match cE o st.hp f as with
   | some r=>some (.t r,st)
   | none=>none
  | none=>none
 | .callv x args=>match (ev Γ st.env x).bind q0n,Ip Γ st.env args with
  | some p,some as=>match cE o st.hp p.1 (as++p.2) with
   | some r=>some (.t r,st)
   | none=>none
  | _,_=>none
 | .callT f args=>match Ip Γ st.env args with
  | some as=>match Ac (as.map toT) with
   | some ts=>match o.p f ts with
    | some r=>some (.t r,st)
    | none=>none
   | none=>none
  | none=>none
 | .hcall f args rs base=>match Ip Γ st.env args with
  | some as=>hE o st f as rs base
  | none=>none
 | .hcallv x args rs base=>match (ev Γ st.env x).bind q0n,Ip Γ st.env args with
  | some p,some as=>hE o st p.1 (as++p.2) rs base
  | _,_=>none
 | .hcallW f args base=>match Ip Γ st.env args with
  | some as=>hE o st f as (qL0 st.hp as) base
  | none=>none
 | .hcallvW x args base=>match (ev Γ st.env x).bind q0n,Ip Γ st.env args with
  | some p,some as=>hE o st p.1 (as++p.2) (qL0 st.hp (as++p.2)) base
  | _,_=>none
 | .ncall f args base=>match Ip Γ st.env args with
  | some as=>match o.h f [] (as.map (Ag (Uc []))) with
   | some (res,hp')=>if qDw [] base st.hp hp' then some (Ag (fun i=>some (P2 [] base i)) res,⟨st.env,Fo [] base hp'++st.hp⟩)else none
   | none=>none
  | none=>none
 | .rcall f args rs=>match Ip Γ st.env args with
  | some as=>if qDx rs&&rs.all (qIV st.hp)then match o.h f (Ba rs st.hp) (as.map (Ag (Uc rs))) with
    | some (res,hp')=>if q0o hp' (Ba rs st.hp)then some (Ag (fun i=>some (P2 rs 0 i)) res,st)else none
    | none=>none
   else none
  | none=>none
 | .hcallB _ _ _=>none
 | io=>qE0 Γ d io st
def osE:List RO->St->Option St
 | [],s=>some s
 | ro::ros,s=>match D4 s.env ro.guard with
  | some true=>match opE o Γ ro.d ro.op s with
   | some (r,s1)=>osE ros (s1.put ro.dst r)
   | none=>none
  | some false=>osE ros (s.put ro.dst .un)
  | none=>none
def q2K (F:St->Option (AX×St)):Nat->St->Option (AX×St)
 | 0,_=>none
 | n+1,s=>match F s with
  | some (.normal,s1)=>q2K F n s1
  | x=>x
def Cb:IC->St->Option (AX×St)
 | .skip,s=>some (.normal,s)
 | .reg ros gs,s=>match osE o Γ ros s with
  | some s1=>some (.normal,gs.foldl (fun s g=>g.run s) s1)
  | none=>none
 | .seq a b,s=>match Cb a s with
  | some (.normal,s1)=>Cb b s1
  | x=>x
 | .cond c a b,s=>match ev Γ s.env c with
  | some (.t (.v (.bool true)))=>Cb a s
  | some (.t (.v (.bool false)))=>Cb b s
  | _=>none
 | .block id a,s=>match Cb a s with
  | some (.exit i,s1)=>if i=id then some (.normal,s1)else some (.exit i,s1)
  | x=>x
 | .loop a,s=>q2K (Cb a) 100000000 s
 | .exit i,s=>some (.exit i,s)
 | .ret,s=>some (.ret,s)
 | .scope a,s=>Cb a s
 | .gh a gs,s=>match Cb a s with
  | some (.normal,s1)=>some (.normal,gs.foldl (fun s g=>g.run s) s1)
  | x=>x
 | .ghW a,s=>Cb a s
 | .pre gs a,s=>Cb a (gs.foldl (fun s g=>g.run s) s)
 | .dead,_=>none
end
section
variable {P:Program} {Γ:Tables} {o:Or}
theorem qBi (ho:q4S P Γ o) {st:St} {f:FuncId} {as:List AV} {rs:List Nat} {base:Nat} {r:AV} {s1:St} (h:hE o st f as rs base=some (r,s1)) :
  ∃ res hp',rs.Nodup/\Bl P Γ f (Ba rs st.hp) (as.map (Ag (Uc rs))) res hp'/\Qf rs base st.hp hp'/\r=Ag (fun i=>some (P2 rs base i)) res/\s1=C6 rs base hp' st:=by
 unfold hE at h
 split at h
 ·rename_i hn
  split at h
  ·rename_i res hp' hh
   split at h
   ·rename_i hb
    simp only[Option.some.injEq,Prod.mk.injEq]at h
    exact⟨res,hp',q84 hn,ho.h _ _ _ _ _ hh,q83 hb,h.1.symm,h.2.symm⟩
   ·cases h
  ·cases h
 ·cases h
theorem qGx (ho:q4S P Γ o) {hp:List (Nat×Aj)} {f:FuncId} {as:List AV} {r:T} (h:cE o hp f as=some r):Zg P Γ hp f as r:=by
 unfold cE at h
 split at h
 ·rename_i ts hts;exact .inl ⟨ts,hts,ho.p _ _ _ h⟩
 ·split at h
  ·rename_i ts hts;exact .inr ⟨ts,hts,ho.f _ _ _ h⟩
  ·cases h
theorem qG1 {d:Nat} {io:B6} {st s1:St} {r:AV} (h:qE0 Γ d io st=some (r,s1)):∃ c,A7 Γ d io st=some (c,r,s1)/\c:=by
 unfold qE0 at h
 split at h
 ·rename_i c r' s' hs
  split at h
  ·rename_i hc
   simp only[Option.some.injEq,Prod.mk.injEq]at h
   obtain⟨rfl,rfl⟩:=h
   exact⟨c,hs,qFz hs hc⟩
  ·cases h
 ·cases h
theorem qIW (ho:q4S P Γ o) {d:Nat} {io:B6} {st s1:St} {r:AV} (h:opE o Γ d io st=some (r,s1)):C9 P Γ d io st r s1:=by
 unfold opE at h
 split at h
 ·split at h
  ·rename_i as has
   split at h
   ·rename_i res hc;simp only[Option.some.injEq,Prod.mk.injEq]at h;exact⟨as,res,has,qGx ho hc,h.1.symm,h.2.symm⟩
   ·cases h
  ·cases h
 ·split at h
  ·rename_i p as hp has
   obtain⟨a,ha,hf⟩:=Option.bind_eq_some_iff.1 hp
   split at h
   ·rename_i res hc;simp only[Option.some.injEq,Prod.mk.injEq]at h;exact⟨a,p.1,p.2,as,res,ha,hf,has,qGx ho hc,h.1.symm,h.2.symm⟩
   ·cases h
  ·cases h
 ·split at h
  ·rename_i as has
   split at h
   ·rename_i ts hts
    split at h
    ·rename_i res hc;simp only[Option.some.injEq,Prod.mk.injEq]at h;exact⟨as,ts,res,has,hts,.inl (ho.p _ _ _ hc),h.1.symm,h.2.symm⟩
    ·cases h
   ·cases h
  ·cases h
 ·split at h
  ·rename_i as has
   obtain⟨res,hp',h1,h2,h3,h4,h5⟩:=qBi ho h
   exact⟨as,res,hp',has,h1,h2,h3,h4,h5⟩
  ·cases h
 ·split at h
  ·rename_i p as hp has
   obtain⟨a,ha,hf⟩:=Option.bind_eq_some_iff.1 hp
   obtain⟨res,hp',h1,h2,h3,h4,h5⟩:=qBi ho h
   exact⟨a,p.1,p.2,as,res,hp',ha,hf,has,h1,h2,h3,h4,h5⟩
  ·cases h
 ·split at h
  ·rename_i as has
   obtain⟨res,hp',h1,h2,h3,h4,h5⟩:=qBi ho h
   exact⟨_,as,res,hp',has,h1,h2,h3,h4,h5⟩
  ·cases h
 ·split at h
  ·rename_i p as hp has
   obtain⟨a,ha,hf⟩:=Option.bind_eq_some_iff.1 hp
   obtain⟨res,hp',h1,h2,h3,h4,h5⟩:=qBi ho h
   exact⟨_,a,p.1,p.2,as,res,hp',ha,hf,has,h1,h2,h3,h4,h5⟩
  ·cases h
 ·split at h
  ·rename_i as has
   split at h
   ·rename_i res hp' hh
    split at h
    ·rename_i hb
     simp only[Option.some.injEq,Prod.mk.injEq]at h
     exact⟨as,res,hp',has,ho.h _ _ _ _ _ hh,q83 hb,h.1.symm,h.2.symm⟩
    ·cases h
   ·cases h
  ·cases h
 ·split at h
  ·rename_i as has
   split at h
   ·rename_i hb
    simp only[Bool.and_eq_true]at hb
    split at h
    ·rename_i res hp' hh
     split at h
     ·rename_i he
      simp only[Option.some.injEq,Prod.mk.injEq]at h
      rw[qBh he]at hh
      exact⟨as,res,has,q84 hb.1,fun i hi=>qG0 (List.all_eq_true.1 hb.2 i hi),ho.h _ _ _ _ _ hh,h.1.symm,h.2.symm⟩
     ·cases h
    ·cases h
   ·cases h
  ·cases h
 ·cases h
 ·rename_i h1 h2 h3 h4 h5 h6 h7 h8 h9 h10
  have:=qG1 h
  unfold C9
  split
  all_goals first
   | exact this
   | (exfalso;first|exact h1 _ _ rfl|exact h2 _ _ rfl|exact h3 _ _ rfl|exact h4 _ _ _ _ rfl|exact h5 _ _ _ _ rfl|exact h6 _ _ _ rfl|exact h7 _ _ _ rfl|exact h8 _ _ _ rfl|exact h9 _ _ _ rfl|exact h10 _ _ _ rfl)
theorem qAU (ho:q4S P Γ o):∀ {ros:List RO} {s s1:St},osE o Γ ros s=some s1->Lx P Γ ros s s1
 | [],s,s1,h=>by simp only[osE,Option.some.injEq]at h;exact h.symm
 | ro::ros,s,s1,h=>by
  simp only[osE]at h
  split at h
  ·rename_i hw
   split at h
   ·rename_i r s2 hr;exact⟨_,.inl ⟨hw,r,s2,qIW ho hr,rfl⟩,qAU ho h⟩
   ·cases h
  ·rename_i hw;exact⟨_,.inr ⟨hw,rfl⟩,qAU ho h⟩
  ·cases h
theorem Eg (ho:q4S P Γ o):∀ {c:IC} {s s1:St} {e:AX},Cb o Γ c s=some (e,s1)->W6 P Γ c (fun e2 s2=>e2=e/\s2=s1) s
 | .skip,s,s1,e,h=>by simp only[Cb,Option.some.injEq,Prod.mk.injEq]at h;exact⟨h.1,h.2⟩
 | .reg ros gs,s,s1,e,h=>by
  simp only[Cb]at h
  split at h
  ·rename_i s2 hs;simp only[Option.some.injEq,Prod.mk.injEq]at h;exact⟨s2,qAU ho hs,h.1,h.2⟩
  ·cases h
 | .seq a b,s,s1,e,h=>by
  simp only[Cb]at h
  split at h
  ·rename_i s2 hs
   refine Ai (c:=a) (Eg ho hs) fun e2 s3 ⟨he,hs3⟩=>?_
   subst he;subst hs3
   exact Eg ho h
  ·rename_i hn
   refine Ai (c:=a) (Eg ho h) fun e2 s3 ⟨he,hs3⟩=>?_
   subst he;subst hs3
   cases e2 with
   | normal=>exact absurd h (hn _)
   | exit i=>exact⟨rfl,rfl⟩
   | ret=>exact⟨rfl,rfl⟩
 | .cond c a b,s,s1,e,h=>by
  simp only[Cb]at h
  split at h
  ·rename_i hc;exact⟨true,hc,fun _=>Eg ho h,fun h=>by cases h⟩
  ·rename_i hc;exact⟨false,hc,(fun h=>by cases h),fun _=>Eg ho h⟩
  ·cases h
 | .block id a,s,s1,e,h=>by
  simp only[Cb]at h
  split at h
  ·rename_i i s2 hs
   refine Ai (c:=a) (Eg ho hs) fun e2 s3 ⟨he,hs3⟩=>?_
   subst he;subst hs3
   split at h
   ·rename_i hi;simp only[Option.some.injEq,Prod.mk.injEq]at h;simp only[F2,if_pos hi];exact⟨h.1,h.2⟩
   ·rename_i hi;simp only[Option.some.injEq,Prod.mk.injEq]at h;simp only[F2,if_neg hi];exact⟨h.1,h.2⟩
  ·rename_i hn
   refine Ai (c:=a) (Eg ho h) fun e2 s3 ⟨he,hs3⟩=>?_
   subst he;subst hs3
   cases e2 with
   | normal=>exact⟨rfl,rfl⟩
   | exit i=>exact absurd h (hn _ _)
   | ret=>exact⟨rfl,rfl⟩
 | .loop a,s,s1,e,h=>by
  simp only[Cb]at h
  have key:∀ (n:Nat) (s:St),q2K (Cb o Γ a) n s=some (e,s1)->q92 (W6 P Γ a) (fun e2 s2=>e2=e/\s2=s1) n s:=by
   intro n
   induction n with
   | zero=>intro s h;cases h
   | succ n ih =>
    intro s h
    simp only[q2K]at h
    split at h
    ·rename_i s2 hs
     refine Ai (c:=a) (Eg ho hs) fun e2 s3 ⟨he,hs3⟩=>?_
     subst he;subst hs3
     exact ih _ h
    ·rename_i hn
     refine Ai (c:=a) (Eg ho h) fun e2 s3 ⟨he,hs3⟩=>?_
     subst he;subst hs3
     cases e2 with
     | normal=>exact absurd h (hn _)
     | exit i=>exact⟨rfl,rfl⟩
     | ret=>exact⟨rfl,rfl⟩
  exact⟨_,key _ s h⟩
 | .exit i,s,s1,e,h=>by simp only[Cb,Option.some.injEq,Prod.mk.injEq]at h;exact⟨h.1,h.2⟩
 | .ret,s,s1,e,h=>by simp only[Cb,Option.some.injEq,Prod.mk.injEq]at h;exact⟨h.1,h.2⟩
 | .scope a,s,s1,e,h=>Eg (c:=a) ho h
 | .gh a gs,s,s1,e,h=>by
  simp only[Cb]at h
  split at h
  ·rename_i s2 hs
   refine Ai (c:=a) (Eg ho hs) fun e2 s3 ⟨he,hs3⟩=>?_
   subst he;subst hs3
   simp only[Option.some.injEq,Prod.mk.injEq]at h
   exact⟨h.1,h.2⟩
  ·rename_i hn
   refine Ai (c:=a) (Eg ho h) fun e2 s3 ⟨he,hs3⟩=>?_
   subst he;subst hs3
   cases e2 with
   | normal=>exact absurd h (hn _)
   | exit i=>exact⟨rfl,rfl⟩
   | ret=>exact⟨rfl,rfl⟩
 | .ghW a,s,s1,e,h=>by
  refine Ai (c:=a) (Eg (c:=a) ho h) fun e2 s3 ⟨he,hs3⟩=>?_
  subst he;subst hs3
  cases e2 with
  | normal=>exact⟨_,fun _ _ _ _ _ _ _ _ h=>h,rfl,rfl⟩
  | exit i=>exact⟨rfl,rfl⟩
  | ret=>exact⟨rfl,rfl⟩
 | .pre gs a,s,s1,e,h=>Eg (c:=a) ho h
 | .dead,s,s1,e,h=>by cases h
end
section
def rvC (s:St):RV->Bool
 | .tmp _=>true
 | .cell t n _=>match A2 s.env t with
  | some (.lp id _ k)=>match A2 s.hp id with
   | some (.bx cs)=>Nat.ble (k+n) cs.length
   | _=>false
  | _=>false
theorem q1c {s:St} {rv:RV} {c:Prop} {a:AV} (h:rvC s rv=true) (hr:q2F s rv=some (c,a)):c:=by
 cases rv with
 | tmp t=>simp only[q2F,Option.map_eq_some_iff,Prod.mk.injEq]at hr;obtain⟨_,_,rfl,_⟩:=hr;trivial
 | cell t n g =>
  simp only[q2F]at hr;simp only[rvC]at h
  split at h
  ·rename_i id i k hl
   rw[hl]at hr
   simp only at hr
   split at h
   ·rename_i cs hb
    rw[hb]at hr
    simp only[Option.some.injEq,Prod.mk.injEq]at hr
    rw[<- hr.1];exact Nat.le_of_ble_eq_true h
   ·cases h
  ·cases h
theorem Vm {s:St} {rv:RV} {c:Prop} {a:T} (h:rvC s rv=true) (hr:q1Z s rv=some (c,a)):c:=by
 simp only[q1Z,Option.bind_eq_some_iff,Option.map_eq_some_iff,Prod.mk.injEq]at hr
 obtain⟨q,hq,t,_,hc,_⟩:=hr
 rw[<- hc];exact q1c h hq
def qCg (s:St) (rvs:List RV):Option T:=match S4 s rvs with
 | some (_,r)=>if rvs.all (rvC s)then some r else none
 | none=>none
theorem qBj {s:St} {rvs:List RV} {r:T} (h:qCg s rvs=some r):∃ c,S4 s rvs=some (c,r)/\c:=by
 unfold qCg at h
 split at h
 ·rename_i c r' hr
  split at h
  ·rename_i ha
   simp only[Option.some.injEq]at h;subst h
   refine⟨c,hr,?_⟩
   have hb:∀ x∈rvs,rvC s x=true:=List.all_eq_true.1 ha
   unfold S4 at hr
   split at hr
   ·simp only[Option.some.injEq,Prod.mk.injEq]at hr;rw[<- hr.1];trivial
   ·exact Vm (hb _ (by simp)) hr
   ·simp only[Option.bind_eq_some_iff,Option.map_eq_some_iff,Prod.mk.injEq]at hr
    obtain⟨p,hp,q,hq,h1,_⟩:=hr
    rw[<- h1];exact⟨Vm (hb _ (by simp)) hp,Vm (hb _ (by simp)) hq⟩
   ·simp only[Option.bind_eq_some_iff,Option.map_eq_some_iff,Prod.mk.injEq]at hr
    obtain⟨p,hp,q,hq,u,hu,h1,_⟩:=hr
    rw[<- h1];exact⟨Vm (hb _ (by simp)) hp,Vm (hb _ (by simp)) hq,Vm (hb _ (by simp)) hu⟩
   ·simp only[Option.bind_eq_some_iff,Option.map_eq_some_iff,Prod.mk.injEq]at hr
    obtain⟨p,hp,q,hq,u,hu,y,hy,h1,_⟩:=hr
    rw[<- h1];exact⟨Vm (hb _ (by simp)) hp,Vm (hb _ (by simp)) hq,Vm (hb _ (by simp)) hu,Vm (hb _ (by simp)) hy⟩
   ·cases hr
  ·cases h
 ·cases h
def qBk (s:St) (rvs:List RV):Option AV:=match Vj s rvs with
 | some (_,r)=>if rvs.all (rvC s)then some r else none
 | none=>none
theorem qE1 {s:St} {rvs:List RV} {r:AV} (h:qBk s rvs=some r):∃ c,Vj s rvs=some (c,r)/\c:=by
 unfold qBk at h
 split at h
 ·rename_i c r' hr
  split at h
  ·rename_i ha
   simp only[Option.some.injEq]at h;subst h
   refine⟨c,hr,?_⟩
   have hb:∀ x∈rvs,rvC s x=true:=List.all_eq_true.1 ha
   unfold Vj at hr
   split at hr
   ·simp only[Option.some.injEq,Prod.mk.injEq]at hr;rw[<- hr.1];trivial
   ·exact q1c (hb _ (by simp)) hr
   ·simp only[Option.bind_eq_some_iff,Option.map_eq_some_iff,Prod.mk.injEq]at hr
    obtain⟨p,hp,q,hq,u,_,h1,_⟩:=hr
    rw[<- h1];exact⟨q1c (hb _ (by simp)) hp,q1c (hb _ (by simp)) hq⟩
   ·simp only[Option.bind_eq_some_iff,Option.map_eq_some_iff,Prod.mk.injEq]at hr
    obtain⟨p,hp,q,hq,u,hu,y,_,h1,_⟩:=hr
    rw[<- h1];exact⟨q1c (hb _ (by simp)) hp,q1c (hb _ (by simp)) hq,q1c (hb _ (by simp)) hu⟩
   ·cases hr
  ·cases h
 ·cases h
def q48:AV->Bool
 | .t x=>Df x
 | .fn _ cs=>cs.isEmpty
 | _=>true
def qGy:AV->Bool
 | .ag cs=>cs.all q48
 | a=>q48 a
def q3J:AV->Bool
 | .ag cs=>cs.all q48
 | .tu cs=>cs.all qGy
 | a=>q48 a
def qE2:Aj->Bool
 | .sl _ _ es=>es.all fun e=>e.all Df
 | .bx cs=>cs.all q3J
 | .rs _ _ es=>es.all fun e=>e.all q3J
 | .mr es=>es.all fun e=>q3J e.2
 | .mp es=>es.all fun e=>Df e.2
 | .it _ _=>true
def q86 (s:St):Bool:=(s.env.all fun p=>q3J p.2)&&s.hp.all fun p=>qE2 p.2
theorem q9I {a:AV}:q48 a=true->(match a with | .t x=>Df x=true | .fn _ cs=>cs=[] | _=>True):=by
 intro h
 cases a<;>simp[q48]at h ⊢<;>exact h
theorem q0f {a:AV} (h:q3J a=true):Gx a:=by
 cases a with
 | ag cs=>exact fun c hc=>q9I (List.all_eq_true.1 h c hc)
 | tu cs =>
  intro c hc
  have h1:=List.all_eq_true.1 h c hc
  cases c with
  | ag ds=>exact fun d hd=>q9I (List.all_eq_true.1 h1 d hd)
  | t x=>exact h1
  | fn f cs=>simpa[qGy,q48]using h1
  | _=>trivial
 | t x=>exact h
 | fn f cs=>simpa[q3J,q48,Gx]using h
 | _=>trivial
theorem qCh {r:Aj} (h:qE2 r=true):Ph r:=by
 cases r with
 | sl t s es=>exact fun e he x hx=>List.all_eq_true.1 (List.all_eq_true.1 h e he) x hx
 | rs t s es=>exact fun e he x hx=>q0f (List.all_eq_true.1 (List.all_eq_true.1 h e he) x hx)
 | bx cs=>exact fun e he=>q0f (List.all_eq_true.1 h e he)
 | mr es=>exact fun e he=>q0f (List.all_eq_true.1 h e he)
 | mp es=>exact fun e he=>List.all_eq_true.1 h e he
 | it s p=>trivial
theorem q3K {α:Type} {p:α->Prop} {q:α->Bool} (hq:∀ a,q a=true->p a):∀ {l:List (Nat×α)},(l.all fun x=>q x.2)=true->J1 p l
 | [],_=>trivial
 | x::l,h=>by simp only[List.all_cons,Bool.and_eq_true]at h;exact⟨hq _ h.1,q3K hq h.2⟩
theorem q7H {s:St} (h:q86 s=true):Ek s:=by
 simp only[q86,Bool.and_eq_true]at h
 exact⟨q3K (fun _=>q0f) h.1,q3K (fun _=>qCh) h.2⟩
def q5X (x:Option (AX×St)):Option St:=match x with
 | some (.normal,s)=>some s
 | some (.ret,s)=>some s
 | _=>none
variable (tb:Tbl) (o:Or) (Γ:Tables)
def pE (f:FuncId) (ts:List T):Option T:=match A2 tb f with
 | some e=>if Nat.beq ts.length e.n then match q5X (Cb o Γ e.ic ⟨params 0 ts,[]⟩) with
   | some s=>qCg s e.rv
   | none=>none
  else none
 | none=>none
def fE (f:FuncId) (ts:List T):Option T:=match A2 tb f with
 | some e=>if Nat.beq ts.length e.n then match q5X (Cb o Γ e.ic ⟨params 0 ts,[]⟩) with
   | some s=>if q86 s then qCg s e.rv else none
   | none=>none
  else none
 | none=>none
def hhE (f:FuncId) (hp:List (Nat×Aj)) (as:List AV):Option (AV×List (Nat×Aj)):=match A2 tb f with
 | some e=>if Nat.beq as.length e.n then match q5X (Cb o Γ e.ic ⟨Xy 0 as,hp⟩) with
   | some s=>match qBk s e.rv with
    | some r=>some (r,s.hp)
    | none=>none
   | none=>none
  else none
 | none=>none
variable {tb:Tbl} {o:Or} {Γ:Tables} {P:Program}
theorem qBl {x:Option (AX×St)} {s:St} (h:q5X x=some s):x=some (.normal,s)\/x=some (.ret,s):=by
 unfold q5X at h
 split at h
 ·simp only[Option.some.injEq]at h;subst h;exact .inl rfl
 ·simp only[Option.some.injEq]at h;subst h;exact .inr rfl
 ·cases h
theorem q5Y (ho:q4S P Γ o) {c:IC} {s s1:St} (h:q5X (Cb o Γ c s)=some s1) {Q:AX->St->Prop} (h1:Q .normal s1) (h2:Q .ret s1):W6 P Γ c Q s:=by
 rcases qBl h with h|h
 ·exact Ai (Eg ho h) fun e s2 ⟨he,hs⟩=>by subst he;subst hs;exact h1
 ·exact Ai (Eg ho h) fun e s2 ⟨he,hs⟩=>by subst he;subst hs;exact h2
theorem qGz (ht:q5W P tb) (ho:q4S P Γ o) {f:FuncId} {ts:List T} {r:T} (h:pE tb o Γ f ts=some r):An P Γ f ts r:=by
 unfold pE at h
 split at h
 ·rename_i e he
  split at h
  ·rename_i hn
   split at h
   ·rename_i s hs
    obtain⟨c,h1,h2⟩:=qBj h
    exact q5P (Xz ht he) (Nat.eq_of_beq_eq_true hn) (q5Y ho hs ⟨c,h1,h2⟩ ⟨c,h1,h2⟩)
   ·cases h
  ·cases h
 ·cases h
theorem qL1 (ht:q5W P tb) (ho:q4S P Γ o) {f:FuncId} {ts:List T} {r:T} (h:fE tb o Γ f ts=some r):A6 P Γ f ts r:=by
 unfold fE at h
 split at h
 ·rename_i e he
  split at h
  ·rename_i hn
   split at h
   ·rename_i s hs
    split at h
    ·rename_i hf
     obtain⟨c,h1,h2⟩:=qBj h
     exact q45 (Xz ht he) (Nat.eq_of_beq_eq_true hn) (q5Y ho hs ⟨c,h1,h2,q7H hf⟩ ⟨c,h1,h2,q7H hf⟩)
    ·cases h
   ·cases h
  ·cases h
 ·cases h
theorem qIX (ht:q5W P tb) (ho:q4S P Γ o) {f:FuncId} {hp hp':List (Nat×Aj)} {as:List AV} {r:AV} (h:hhE tb o Γ f hp as=some (r,hp')):Bl P Γ f hp as r hp':=by
 unfold hhE at h
 split at h
 ·rename_i e he
  split at h
  ·rename_i hn
   split at h
   ·rename_i s hs
    split at h
    ·rename_i r' hr
     simp only[Option.some.injEq,Prod.mk.injEq]at h
     obtain⟨rfl,rfl⟩:=h
     obtain⟨c,h1,h2⟩:=qE1 hr
     exact qBc (Xz ht he) (Nat.eq_of_beq_eq_true hn) (q5Y ho hs ⟨c,h1,h2,rfl⟩ ⟨c,h1,h2,rfl⟩)
    ·cases h
   ·cases h
  ·cases h
 ·cases h
end
end Go.Lg
