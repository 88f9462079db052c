/- THE LOGIC, part 1: trees (immutable data as the program's values read), and their relation to the values of a world. Conditions: none. -/
import Derived.Tactics2
import Derived.Below
import Derived.Laws.Cells
import Derived.Laws.CopyRow
import Derived.Laws.AppendOwn
import Derived.Laws.Slices
import Derived.ChangeKeysEq
import Derived.Laws.IdiomStrings
import Derived.Laws.Tables
import Derived.Laws.BytesString
namespace Go.Lg
open Go
inductive T where
 | v (x:Value)
 | sl (es:List (List T)) (cap:Option Nat) (nl:Option Bool)
 | agg (cs:List T)
 | tup (vs:List T)
 | ip (cs:List T) (k:Nat)
 | fn (f:FuncId) (cs:List T)
 | mp (es:List (Value×T))
 | pin (t:T) (x:Value)
 | ifc
def fnV (f:FuncId) (xs:List Value):Value:=if f<1000000000 then .func (.func f) #[] xs.toArray else .func (.func (f-1000000000)) xs.toArray #[]
theorem q0R (f:FuncId) (xs:List Value):(fnV f xs).oneCell'=true:=by unfold fnV;split<;>rfl
theorem q31 {f:FuncId} {xs:List Value} (h:f<1000000000):fnV f xs=.func (.func f) #[] xs.toArray:=if_pos h
theorem qHK {f:FuncId} {xs:List Value}:fnV (f+1000000000) xs=.func (.func f) xs.toArray #[]:=by
 unfold fnV;rw[if_neg (Nat.not_lt.2 (Nat.le_add_left _ _)),Nat.add_sub_cancel]
def T.one:T->Bool
 | .v x=>x.oneCell'
 | .pin _ x=>x.oneCell'
 | .agg _ | .tup _=>false
 | _=>true
inductive TR (w:World) (X:Nat->Prop):T->Value->Prop
 | v (x:Value):TR w X (.v x) x
 | nil (cap:Option Nat) (nl:Option Bool) (a:Option Addr) (c:Nat) (hc:∀ n,cap=some n->c=n) (hn:∀ b,nl=some b->a.isNone=b) (hz:a=none->c=0):TR w X (.sl [] cap nl) (.slice a 0 c)
 | sl (es:List (List T)) (cap:Option Nat) (nl:Option Bool) (s b off c:Nat) (f:Nat->Nat->Value)
   (hcell:∀ i k,i<es.length->k<s->w.cell? ⟨b,off+i*s+k,none⟩=some (f i k))
   (hlen:∀ (i:Nat) (e:List T),es[i]? = some e->e.length=s)
   (hrel:∀ (i k:Nat) (e:List T) (t:T),es[i]? = some e->e[k]? = some t->TR w X t (f i k))
   (hone:∀ (i k:Nat) (e:List T) (t:T),es[i]? = some e->e[k]? = some t->t.one=true)
   (hx:X b) (hle:es.length<=c) (hc:∀ n,cap=some n->c=n) (hn:∀ q,nl=some q->q=false):TR w X (.sl es cap nl) (.slice (some ⟨b,off,none⟩) es.length c)
 | agg (cs:List T) (xs:List Value) (hlen:cs.length=xs.length) (hone:∀ (k:Nat) (t:T),cs[k]? = some t->t.one=true) (hrel:∀ (k:Nat) (t:T) (x:Value),cs[k]? = some t->xs[k]? = some x->TR w X t x):TR w X (.agg cs) (.agg xs.toArray)
 | tup (cs:List T) (xs:List Value) (hlen:cs.length=xs.length) (hrel:∀ (k:Nat) (t:T) (x:Value),cs[k]? = some t->xs[k]? = some x->TR w X t x):TR w X (.tup cs) (.tuple xs.toArray)
 | ip (cs:List T) (k b off:Nat) (f:Nat->Value) (hcell:∀ j,j<cs.length->w.cell? ⟨b,off+j,none⟩=some (f j)) (hrel:∀ (j:Nat) (t:T),cs[j]? = some t->TR w X t (f j))
   (hone:∀ (j:Nat) (t:T),cs[j]? = some t->t.one=true) (hx:X b):TR w X (.ip cs k) (.pointer (some ⟨b,off+k,none⟩))
 | fn (f:FuncId) (cs:List T) (xs:List Value) (hlen:cs.length=xs.length) (hrel:∀ (k:Nat) (t:T) (x:Value),cs[k]? = some t->xs[k]? = some x->TR w X t x):TR w X (.fn f cs) (.func (.func f) #[] xs.toArray)
 | mpnil:TR w X (.mp []) (.map none)
 | pin (t:T) (x:Value) (h:TR w X t x):TR w X (.pin t x) x
 | ifc (tp:TypeId) (x:Value):TR w X .ifc (.iface tp x)
 | mp (es:List (Value×T)) (r clock:Nat) (ms:List MapEntry) (hheap:w.heap[r]? = some (.map ms.toArray clock)) (hx:X r) (hlen:es.length=ms.length)
   (hkey:∀ (i:Nat) (e:Value×T) (m:MapEntry),es[i]? = some e->ms[i]? = some m->m.key=e.1)
   (hrel:∀ (i:Nat) (e:Value×T) (m:MapEntry),es[i]? = some e->ms[i]? = some m->TR w X e.2 m.val):TR w X (.mp es) (.map (some r))
def Same (X:Nat->Prop) (w w':World):Prop:=∀ b,X b->w'.heap[b]? = w.heap[b]?
theorem Same.cell {X:Nat->Prop} {w w':World} (h:Same X w w') {b o:Nat} (hb:X b):w'.cell? ⟨b,o,none⟩=w.cell? ⟨b,o,none⟩:=World.cell?_of_block (w:=w) (h b hb)
theorem TR.mono {w w':World} {X Y:Nat->Prop} (hs:Same X w w') (hxy:∀ b,X b->Y b) {t:T} {x:Value} (h:TR w X t x):TR w' Y t x:=by
 induction h with
 | v x=>exact .v x
 | nil cap nl a c hc hn hz=>exact .nil cap nl a c hc hn hz
 | sl es cap nl s b off c f hcell hlen hrel hone hx hle hc hn ih=>exact .sl es cap nl s b off c f (fun i k hi hk=>(hs.cell hx).trans (hcell i k hi hk)) hlen ih hone (hxy b hx) hle hc hn
 | agg cs xs hlen hone hrel ih=>exact .agg cs xs hlen hone ih
 | tup cs xs hlen hrel ih=>exact .tup cs xs hlen ih
 | ip cs k b off f hcell hrel hone hx ih=>exact .ip cs k b off f (fun j hj=>(hs.cell hx).trans (hcell j hj)) ih hone (hxy b hx)
 | fn f cs xs hlen hrel ih=>exact .fn f cs xs hlen ih
 | mpnil=>exact .mpnil
 | pin t x h ih=>exact .pin t x ih
 | ifc tp x=>exact .ifc tp x
 | mp es r clock ms hheap hx hlen hkey hrel ih=>exact .mp es r clock ms ((hs r hx).trans hheap) (hxy r hx) hlen hkey ih
def Ds (w:World) (X:Nat->Prop) (cs:List T) (xs:List Value):Prop:=cs.length=xs.length/\∀ (k:Nat) (t:T) (x:Value),cs[k]? = some t->xs[k]? = some x->TR w X t x
theorem Ds.mono {w w':World} {X Y:Nat->Prop} (hs:Same X w w') (hxy:∀ b,X b->Y b) {cs:List T} {xs:List Value} (h:Ds w X cs xs):Ds w' Y cs xs :=
 ⟨h.1,fun k t x ht hx=>(h.2 k t x ht hx).mono hs hxy⟩
theorem Ds.nil (w:World) (X:Nat->Prop):Ds w X [] []:=⟨rfl,fun k t x h=>by simp at h⟩
theorem Ds.cons {w:World} {X:Nat->Prop} {t:T} {x:Value} {cs:List T} {xs:List Value} (h:TR w X t x) (hs:Ds w X cs xs):Ds w X (t::cs) (x::xs) :=
 ⟨by simp[hs.1],fun k t' x' ht hx=>by
  cases k with
  | zero=>simp at ht hx;subst ht;subst hx;exact h
  | succ k=>simp at ht hx;exact hs.2 k t' x' ht hx⟩
theorem Ds.cons_inv {w:World} {X:Nat->Prop} {t:T} {cs:List T} {xs:List Value} (h:Ds w X (t::cs) xs):∃ x ys,xs=x::ys/\TR w X t x/\Ds w X cs ys:=by
 cases xs with
 | nil=>exact absurd h.1 (by simp)
 | cons x ys=>exact⟨x,ys,rfl,h.2 0 t x rfl rfl,by have:=h.1;simpa using this,fun k t' x' ht hx=>h.2 (k+1) t' x' (by simpa using ht) (by simpa using hx)⟩
theorem Ds.nil_inv {w:World} {X:Nat->Prop} {xs:List Value} (h:Ds w X [] xs):xs=[]:=List.eq_nil_of_length_eq_zero h.1.symm
theorem Ds.get {w:World} {X:Nat->Prop} {cs:List T} {xs:List Value} (h:Ds w X cs xs) {k:Nat} {t:T} (ht:cs[k]? = some t):∃ x,xs[k]? = some x/\TR w X t x:=by
 have hk:k<xs.length:=by rw[<- h.1];exact(List.getElem?_eq_some_iff.1 ht).1
 exact⟨xs[k],by simp[hk],h.2 k t _ ht (by simp[hk])⟩
theorem Ds.drop {w:World} {X:Nat->Prop} {cs:List T} {xs:List Value} (h:Ds w X cs xs) (n:Nat):Ds w X (cs.drop n) (xs.drop n) :=
 ⟨by simp[h.1],fun k t x ht hx=>h.2 (n+k) t x (by simpa using ht) (by simpa using hx)⟩
theorem Ds.take {w:World} {X:Nat->Prop} {cs:List T} {xs:List Value} (h:Ds w X cs xs) (n:Nat):Ds w X (cs.take n) (xs.take n):=by
 refine⟨by simp[h.1],fun k t x ht hx=>?_⟩
 rw[List.getElem?_take]at ht hx
 split at ht
 ·rename_i hk;rw[if_pos hk]at hx;exact h.2 k t x ht hx
 ·cases ht
theorem Ds.append {w:World} {X:Nat->Prop} {cs ds:List T} {xs ys:List Value} (h:Ds w X cs xs) (g:Ds w X ds ys):Ds w X (cs++ds) (xs++ys):=by
 induction cs generalizing xs with
 | nil=>rw[h.nil_inv];simpa using g
 | cons t cs ih =>
  obtain⟨x,zs,rfl,hx,hz⟩:=h.cons_inv
  exact Ds.cons hx (ih hz)
theorem TR.one {w:World} {X:Nat->Prop} {t:T} {x:Value} (h:TR w X t x) (h1:t.one=true):x.oneCell'=true:=by
 cases h<;>first|exact h1|rfl|simp[T.one]at h1
inductive AV where
 | t (x:T)
 | ls (id off len:Nat) (cap:Option Nat)
 | lp (id i k:Nat)
 | ag (cs:List AV)
 | fn (f:FuncId) (cs:List AV)
 | lm (id:Nat)
 | lb (id m:Nat)
 | li (id:Nat)
 | dead
 | un
 | tu (cs:List AV)
def AV.one:AV->Bool
 | .t x=>x.one
 | .ag _ | .un | .tu _=>false
 | _=>true
def Bo:AV->Bool
 | .ag _ | .tu _=>false
 | _=>true
def I9:AV->Bool
 | .tu _=>false
 | _=>true
theorem Vw {a:AV} (h:a.one=true):Bo a=true:=by cases a<;>first|rfl|simp[AV.one]at h
inductive Aj where
 | sl (ty s:Nat) (es:List (List T))
 | rs (ty s:Nat) (es:List (List AV))
 | bx (cs:List AV)
 | mp (es:List (Value×T))
 | mr (es:List (Value×AV))
 | it (s:ByteArray) (pos:Nat)
inductive Sh where
 | sl (s n:Nat)
 | bx
 | mp
 | it
def Aj.sh:Aj->Sh
 | .sl _ s es=>.sl s es.length
 | .rs _ s es=>.sl s es.length
 | .bx _=>.bx
 | .mp _=>.mp
 | .mr _=>.mp
 | .it _ _=>.it
def A2 {α:Type}:List (Nat×α)->Nat->Option α
 | [],_=>none
 | (k,v)::e,t=>if k=t then some v else A2 e t
theorem Cc {α β:Type} (f:α->β) (l:List (Nat×α)) (t:Nat):A2 (l.map fun p=>(p.1,f p.2)) t=(A2 l t).map f:=by
 induction l with
 | nil=>rfl
 | cons p l ih =>
  simp only[List.map_cons,A2]
  split
  ·rfl
  ·exact ih
def keep {α:Type} (ks:List Nat) (l:List (Nat×α)):List (Nat×α):=ks.filterMap fun k=>(A2 l k).map fun v=>(k,v)
theorem Rt {α:Type} (ks:List Nat) (l:List (Nat×α)) (t:Nat) (a:α) (h:A2 (keep ks l) t=some a):A2 l t=some a/\t∈ks:=by
 induction ks with
 | nil=>simp[keep,A2]at h
 | cons k ks ih =>
  unfold keep at h ih
  rw[List.filterMap_cons]at h
  cases hk:A2 l k with
  | none =>
   rw[hk]at h
   have:=ih h
   exact⟨this.1,List.mem_cons_of_mem _ this.2⟩
  | some v =>
   rw[hk]at h
   simp only[Option.map_some,A2]at h
   split at h
   ·rename_i hkt;subst hkt;simp only[Option.some.injEq]at h;subst h;exact⟨hk,List.mem_cons_self⟩
   ·have:=ih h
    exact⟨this.1,List.mem_cons_of_mem _ this.2⟩
def del {α:Type} (k:Nat) (l:List (Nat×α)):List (Nat×α):=l.filter fun p=>p.1 != k
theorem q24 {α:Type} (k:Nat) (l:List (Nat×α)) (t:Nat):A2 (del k l) t=if t=k then none else A2 l t:=by
 induction l with
 | nil=>simp[del,A2]
 | cons p l ih =>
  unfold del at ih ⊢
  rw[List.filter_cons]
  by_cases hp:p.1=k
  ·simp only[hp,bne_self_eq_false,Bool.false_eq_true,↓reduceIte,ih]
   by_cases ht:t=k
   ·simp[ht]
   ·have:¬ p.1=t:=fun e=>ht (e.symm.trans hp)
    simp[ht,A2,this]
  ·have hpk:(p.1 != k)=true:=by simp[hp]
   simp only[hpk,↓reduceIte,A2,ih]
   by_cases hpt:p.1=t
   ·have:¬ t=k:=fun e=>hp (hpt.trans e)
    simp[hpt,this]
   ·simp[hpt]
structure St where
 env:List (Nat×AV)
 hp:List (Nat×Aj)
abbrev Be:=Nat->Option (Nat×Nat)
inductive AR (w:World) (X:Nat->Prop) (μ:Be) (sh:Nat->Option Sh):AV->Value->Prop
 | t (x:T) (v:Value) (h:TR w X x v):AR w X μ sh (.t x) v
 | lsnil (id s n:Nat) (hs:sh id=some (.sl s n)) (hm:μ id=none) (a:Option Addr) (cap:Option Nat) (hc:∀ q,cap=some q->q=0):AR w X μ sh (.ls id 0 0 cap) (.slice a 0 0)
 | ls (id off len s n g m c:Nat) (cap:Option Nat) (hs:sh id=some (.sl s n)) (hm:μ id=some (g,m)) (hle:off+len<=n) (hlc:len<=c) (hcm:c<=maxLen) (hfit:(off+c)*s<=m)
   (hfull:cap=none->(off+c)*s=m) (hc:∀ q,cap=some q->c=q) (a:Addr) (ha:c≠0\/off=0->a=⟨g,off*s,none⟩):AR w X μ sh (.ls id off len cap) (.slice (some a) len c)
 | lpsl (id i k s n g m:Nat) (hs:sh id=some (.sl s n)) (hm:μ id=some (g,m)):AR w X μ sh (.lp id i k) (.pointer (some ⟨g,i*s+k,none⟩))
 | lpbx (id k g m:Nat) (hs:sh id=some .bx) (hm:μ id=some (g,m)):AR w X μ sh (.lp id 0 k) (.pointer (some ⟨g,k,none⟩))
 | ag (cs:List AV) (xs:List Value) (hlen:cs.length=xs.length) (hone:∀ (k:Nat) (a:AV),cs[k]? = some a->a.one=true) (hrel:∀ (k:Nat) (a:AV) (x:Value),cs[k]? = some a->xs[k]? = some x->AR w X μ sh a x):AR w X μ sh (.ag cs) (.agg xs.toArray)
 | fn (f:FuncId) (cs:List AV) (xs:List Value) (hlen:cs.length=xs.length) (hrel:∀ (k:Nat) (a:AV) (x:Value),cs[k]? = some a->xs[k]? = some x->AR w X μ sh a x):AR w X μ sh (.fn f cs) (fnV f xs)
 | lm (id g m:Nat) (hs:sh id=some .mp) (hm:μ id=some (g,m)):AR w X μ sh (.lm id) (.map (some g))
 | lb (id g m:Nat) (hs:sh id=some .bx) (hm:μ id=some (g,m)) (hle:m<=maxLen):AR w X μ sh (.lb id m) (.slice (some ⟨g,0,none⟩) m m)
 | li (id g m:Nat) (hs:sh id=some .it) (hm:μ id=some (g,m)):AR w X μ sh (.li id) (.pointer (some ⟨g,0,none⟩))
 | dead (v:Value) (h:v.oneCell'=true):AR w X μ sh .dead v
 | un:AR w X μ sh .un undef
 | tu (cs:List AV) (xs:List Value) (hlen:cs.length=xs.length) (hna:∀ (k:Nat) (a:AV),cs[k]? = some a->I9 a=true) (hrel:∀ (k:Nat) (a:AV) (x:Value),cs[k]? = some a->xs[k]? = some x->AR w X μ sh a x):AR w X μ sh (.tu cs) (.tuple xs.toArray)
theorem AR.mono {w w':World} {X Y:Nat->Prop} {μ μ':Be} {sh sh':Nat->Option Sh} (hs:Same X w w') (hxy:∀ b,X b->Y b)
  (hsh:∀ id q,sh id=some q->sh' id=some q/\μ' id=μ id) {a:AV} {x:Value} (h:AR w X μ sh a x):AR w' Y μ' sh' a x:=by
 induction h with
 | t x v h=>exact .t x v (h.mono hs hxy)
 | lsnil id s n h hm a cap hc=>exact .lsnil id s n (hsh _ _ h).1 ((hsh _ _ h).2.trans hm) a cap hc
 | ls id off len s n g m c cap h hm hle hlc hcm hfit hfull hc a ha=>exact .ls id off len s n g m c cap (hsh _ _ h).1 ((hsh _ _ h).2.trans hm) hle hlc hcm hfit hfull hc a ha
 | lpsl id i k s n g m h hm=>exact .lpsl id i k s n g m (hsh _ _ h).1 ((hsh _ _ h).2.trans hm)
 | lpbx id k g m h hm=>exact .lpbx id k g m (hsh _ _ h).1 ((hsh _ _ h).2.trans hm)
 | ag cs xs hlen hone hrel ih=>exact .ag cs xs hlen hone ih
 | fn f cs xs hlen hrel ih=>exact .fn f cs xs hlen ih
 | lm id g m h hm=>exact .lm id g m (hsh _ _ h).1 ((hsh _ _ h).2.trans hm)
 | lb id g m h hm hle=>exact .lb id g m (hsh _ _ h).1 ((hsh _ _ h).2.trans hm) hle
 | li id g m h hm=>exact .li id g m (hsh _ _ h).1 ((hsh _ _ h).2.trans hm)
 | dead v h=>exact .dead v h
 | un=>exact .un
 | tu cs xs hlen hna hrel ih=>exact .tu cs xs hlen hna ih
theorem AR.one {w:World} {X:Nat->Prop} {μ:Be} {sh:Nat->Option Sh} {a:AV} {x:Value} (h:AR w X μ sh a x) (h1:a.one=true):x.oneCell'=true:=by
 cases h with
 | t x v h=>exact h.one h1
 | dead v h=>exact h
 | ag=>simp[AV.one]at h1
 | un=>simp[AV.one]at h1
 | tu=>simp[AV.one]at h1
 | fn=>exact q0R _ _
 | _=>rfl
def q4N (ms:List MapEntry) (clock:Nat):Prop:=(∀ m∈ms,m.born<clock)/\(ms.map (·.born)).Nodup
def Bv (w:World) (X:Nat->Prop) (μ:Be) (sh:Nat->Option Sh) (id:Nat):Aj->Prop
 | .sl ty s es=>(∀ (i:Nat) (e:List T),es[i]? = some e->e.length=s/\∀ (k:Nat) (t:T),e[k]? = some t->t.one=true) /\
   ((es=[]/\μ id=none)\/∃ g arr,μ id=some (g,arr.size)/\w.heap[g]? = some (.cells arr ty (0,0))/\es.length*s<=arr.size /\
    ∀ (i k:Nat) (e:List T) (t:T) (x:Value),es[i]? = some e->e[k]? = some t->arr[i*s+k]? = some x->TR w X t x)
 | .rs ty s es=>(∀ (i:Nat) (e:List AV),es[i]? = some e->e.length=s/\∀ (k:Nat) (a:AV),e[k]? = some a->a.one=true) /\
   ((es=[]/\μ id=none)\/∃ g arr,μ id=some (g,arr.size)/\w.heap[g]? = some (.cells arr ty (0,0))/\es.length*s<=arr.size /\
    ∀ (i k:Nat) (e:List AV) (a:AV) (x:Value),es[i]? = some e->e[k]? = some a->arr[i*s+k]? = some x->AR w X μ sh a x)
 | .bx cs=>(∀ (k:Nat) (a:AV),cs[k]? = some a->a.one=true)/\∃ g arr ty,μ id=some (g,arr.size)/\w.heap[g]? = some (.cells arr ty (0,0))/\cs.length=arr.size /\
    ∀ (k:Nat) (a:AV) (x:Value),cs[k]? = some a->arr[k]? = some x->AR w X μ sh a x
 | .mp es=>∃ (g n clock:Nat) (ms:List MapEntry),μ id=some (g,n)/\w.heap[g]? = some (.map ms.toArray clock)/\es.length=ms.length /\
    ∀ (i:Nat) (e:Value×T) (m:MapEntry),es[i]? = some e->ms[i]? = some m->m.key=e.1/\TR w X e.2 m.val
 | .mr es=>∃ (g n clock:Nat) (ms:List MapEntry),μ id=some (g,n)/\w.heap[g]? = some (.map ms.toArray clock)/\q4N ms clock/\es.length=ms.length /\
    ∀ (i:Nat) (e:Value×AV) (m:MapEntry),es[i]? = some e->ms[i]? = some m->m.key=e.1/\AR w X μ sh e.2 m.val
 | .it s pos=>∃ g n,μ id=some (g,n)/\w.heap[g]? = some (.stringIter s pos)
def St.sh (st:St) (id:Nat):Option Sh:=(A2 st.hp id).map Aj.sh
structure B0 (w0:World) (B:Nat) (κ:Be) (X:Nat->Prop) (μ:Be) (st:St) (tm:Array Value) (w:World):Prop where
 env:∀ t a,A2 st.env t=some a->AR w X μ st.sh a (tm.getD t undef)
 reg:∀ id r,A2 st.hp id=some r->Bv w X μ st.sh id r
 inj:∀ id id' g n n',st.sh id≠none->st.sh id' ≠ none->μ id=some (g,n)->μ id'=some (g,n')->id=id'
 loc:∀ id g n,st.sh id≠none->μ id=some (g,n)->¬ X g/\g<w.heap.size/\(g<B->∃ id' n',κ id'=some (g,n'))
 kap:∀ id,1000000<=id->st.sh id≠none->μ id=κ id
 kbig:∀ id l,κ id=some l->1000000<=id
 xlt:∀ b,X b->b<w.heap.size
 os:w.os=w0.os
 tape:w.tape=w0.tape
 output:w.output=w0.output
 size:B<=w.heap.size
 fr:∀ k,k<B->(∀ id n,κ id≠some (k,n))->w.heap[k]? = w0.heap[k]?
theorem Bv.mono {w w':World} {X Y:Nat->Prop} {μ μ':Be} {sh sh':Nat->Option Sh} {id:Nat} {r:Aj} (hs:Same X w w') (hxy:∀ b,X b->Y b)
  (hsh:∀ id q,sh id=some q->sh' id=some q/\μ' id=μ id) (hid:μ' id=μ id) (hb:∀ g n,μ id=some (g,n)->w'.heap[g]? = w.heap[g]?) (h:Bv w X μ sh id r):Bv w' Y μ' sh' id r:=by
 cases r with
 | sl ty s es =>
  obtain⟨hl,h⟩:=h
  refine⟨hl,?_⟩
  rcases h with⟨he,hm⟩|⟨g,arr,hm,hg,hle,hr⟩
  ·exact .inl ⟨he,hid.trans hm⟩
  ·exact .inr ⟨g,arr,hid.trans hm,(hb g _ hm).trans hg,hle,fun i k e t x h1 h2 h3=>(hr i k e t x h1 h2 h3).mono hs hxy⟩
 | rs ty s es =>
  obtain⟨hl,h⟩:=h
  refine⟨hl,?_⟩
  rcases h with⟨he,hm⟩|⟨g,arr,hm,hg,hle,hr⟩
  ·exact .inl ⟨he,hid.trans hm⟩
  ·exact .inr ⟨g,arr,hid.trans hm,(hb g _ hm).trans hg,hle,fun i k e a x h1 h2 h3=>(hr i k e a x h1 h2 h3).mono hs hxy hsh⟩
 | bx cs =>
  obtain⟨h1,g,arr,ty,hm,hg,hle,hr⟩:=h
  exact⟨h1,g,arr,ty,hid.trans hm,(hb g _ hm).trans hg,hle,fun k a x h1 h2=>(hr k a x h1 h2).mono hs hxy hsh⟩
 | mp es =>
  obtain⟨g,n,clock,ms,hm,hg,hle,hr⟩:=h
  exact⟨g,n,clock,ms,hid.trans hm,(hb g _ hm).trans hg,hle,fun i e m h1 h2=>⟨(hr i e m h1 h2).1,(hr i e m h1 h2).2.mono hs hxy⟩⟩
 | mr es =>
  obtain⟨g,n,clock,ms,hm,hg,hbo,hle,hr⟩:=h
  exact⟨g,n,clock,ms,hid.trans hm,(hb g _ hm).trans hg,hbo,hle,fun i e m h1 h2=>⟨(hr i e m h1 h2).1,(hr i e m h1 h2).2.mono hs hxy hsh⟩⟩
 | it s pos =>
  obtain⟨g,n,hm,hg⟩:=h
  exact⟨g,n,hid.trans hm,(hb g _ hm).trans hg⟩
theorem Bv.rs_map {w w':World} {X Y:Nat->Prop} {μ μ':Be} {sh sh':Nat->Option Sh} {id id' ty s:Nat} {es:List (List AV)} (f:AV->AV) (h1:∀ a,a.one=true->(f a).one=true) (hr:∀ a x,AR w X μ sh a x->AR w' Y μ' sh' (f a) x) (hid:μ' id'=μ id)
  (hb:∀ g n,μ id=some (g,n)->w'.heap[g]? = w.heap[g]?) (h:Bv w X μ sh id (.rs ty s es)):Bv w' Y μ' sh' id' (.rs ty s (es.map fun e=>e.map f)):=by
 obtain⟨hl,h⟩:=h
 refine⟨fun i e he=>?_,h.imp (fun⟨h1,h2⟩=>⟨by rw[h1];rfl,hid.trans h2⟩) fun⟨g,arr,hm,hg,hle,hrr⟩=>⟨g,arr,hid.trans hm,(hb g _ hm).trans hg,by simpa using hle,fun i k e a x h1 h2 h3=>?_⟩⟩
 ·simp only[List.getElem?_map,Option.map_eq_some_iff]at he
  obtain⟨e0,he0,rfl⟩:=he
  refine⟨by simpa using(hl i e0 he0).1,fun k a ha=>?_⟩
  simp only[List.getElem?_map,Option.map_eq_some_iff]at ha
  obtain⟨a0,ha0,rfl⟩:=ha
  exact h1 _ ((hl i e0 he0).2 k a0 ha0)
 ·simp only[List.getElem?_map,Option.map_eq_some_iff]at h1
  obtain⟨e0,he0,rfl⟩:=h1
  simp only[List.getElem?_map,Option.map_eq_some_iff]at h2
  obtain⟨a0,ha0,rfl⟩:=h2
  exact hr _ _ (hrr i k e0 a0 x he0 ha0 h3)
theorem Bv.mr_map {w w':World} {X Y:Nat->Prop} {μ μ':Be} {sh sh':Nat->Option Sh} {id id':Nat} {es:List (Value×AV)} (f:AV->AV) (hr:∀ a x,AR w X μ sh a x->AR w' Y μ' sh' (f a) x) (hid:μ' id'=μ id)
  (hb:∀ g n,μ id=some (g,n)->w'.heap[g]? = w.heap[g]?) (h:Bv w X μ sh id (.mr es)):Bv w' Y μ' sh' id' (.mr (es.map fun e=>(e.1,f e.2))):=by
 obtain⟨g,n,clock,ms,hm,hg,hbo,hle,hrr⟩:=h
 refine⟨g,n,clock,ms,hid.trans hm,(hb g _ hm).trans hg,hbo,by simpa using hle,fun i e m h1 h2=>?_⟩
 simp only[List.getElem?_map,Option.map_eq_some_iff]at h1
 obtain⟨e0,he0,rfl⟩:=h1
 exact⟨(hrr i e0 m he0 h2).1,hr _ _ (hrr i e0 m he0 h2).2⟩
theorem St.sh_none {st:St} {id:Nat}:st.sh id=none↔A2 st.hp id=none:=by
 unfold St.sh;cases A2 st.hp id<;>simp
theorem B0.grow {w0:World} {B:Nat} {κ:Be} {X X':Nat->Prop} {μ:Be} {st:St} {tm:Array Value} {w w':World} (h:B0 w0 B κ X μ st tm w)
  (hb:RowKit.Below w.heap.size w w') (hX:∀ b,X b->X' b) (hX':∀ b,X' b->X b\/(w.heap.size<=b/\b<w'.heap.size)):B0 w0 B κ X' μ st tm w':=by
 have hs:Same X w w':=fun b hx=>hb.block b (h.xlt b hx)
 refine⟨fun t a ht=>(h.env t a ht).mono hs hX (fun id q hq=>⟨hq,rfl⟩),fun id r hr=>(h.reg id r hr).mono hs hX (fun id q hq=>⟨hq,rfl⟩) rfl ?_,h.inj,?_,h.kap,h.kbig,?_,
  hb.os.trans h.os,hb.tape.trans h.tape,hb.output.trans h.output,Nat.le_trans h.size hb.size,fun k hk hn=>(hb.block k (Nat.lt_of_lt_of_le hk h.size)).trans (h.fr k hk hn)⟩
 ·intro g n hm
  exact hb.block g (h.loc id g n (by simp[St.sh,hr]) hm).2.1
 ·intro id g n hi hm
  obtain⟨h1,h2,h3⟩:=h.loc id g n hi hm
  refine⟨fun hx=>?_,Nat.lt_of_lt_of_le h2 hb.size,h3⟩
  rcases hX' g hx with hx|hx
  ·exact h1 hx
  ·omega
 ·intro b hx
  rcases hX' b hx with hx|hx
  ·exact Nat.lt_of_lt_of_le (h.xlt b hx) hb.size
  ·exact hx.2
def Be.set (μ:Be) (d:Nat) (l:Option (Nat×Nat)):Be:=fun id=>if id=d then l else μ id
theorem B0.addReg {w0:World} {B:Nat} {κ:Be} {X:Nat->Prop} {μ:Be} {st:St} {tm:Array Value} {w:World} (h:B0 w0 B κ X μ st tm w) {d:Nat} (hd:A2 st.hp d=none) (hbig:d<1000000)
  (r:Aj) (l:Option (Nat×Nat)) (hl:∀ g n,l=some (g,n)->¬ X g/\g<w.heap.size/\(g<B->∃ id' n',κ id'=some (g,n'))/\∀ id n',st.sh id≠none->μ id≠some (g,n'))
  (hr:Bv w X (μ.set d l) (St.sh ⟨st.env,(d,r)::st.hp⟩) d r):B0 w0 B κ X (μ.set d l) ⟨st.env,(d,r)::st.hp⟩ tm w:=by
 have hsd:st.sh d=none:=St.sh_none.2 hd
 have hsh:∀ id q,st.sh id=some q->St.sh ⟨st.env,(d,r)::st.hp⟩ id=some q/\μ.set d l id=μ id:=by
  intro id q hq
  have hne:id≠d:=by intro e;subst e;rw[hsd]at hq;cases hq
  refine⟨?_,by simp[Be.set,hne]⟩
  simpa[St.sh,A2,Ne.symm hne]using hq
 have hinv:∀ id,St.sh ⟨st.env,(d,r)::st.hp⟩ id≠none->id=d\/(id≠d/\st.sh id≠none):=by
  intro id hi
  by_cases e:id=d
  ·exact .inl e
  ·refine .inr ⟨e,?_⟩
   simpa[St.sh,A2,Ne.symm e]using hi
 refine⟨fun t a ht=>(h.env t a ht).mono (fun _ _=>rfl) (fun _ hx=>hx) hsh,?_,?_,?_,?_,h.kbig,h.xlt,h.os,h.tape,h.output,h.size,h.fr⟩
 ·intro id r' hr'
  simp only[A2]at hr'
  split at hr'
  ·rename_i e;subst e;simp only[Option.some.injEq]at hr';subst hr';exact hr
  ·rename_i hne
   have:μ.set d l id=μ id:=by simp[Be.set,Ne.symm hne]
   exact(h.reg id r' hr').mono (fun _ _=>rfl) (fun _ hx=>hx) hsh this (fun _ _ _=>rfl)
 ·intro id id' g n n' hi hi' hm hm'
  rcases hinv id hi with e|⟨e,e'⟩<;>rcases hinv id' hi' with f|⟨f,f'⟩
  ·rw[e,f]
  ·subst e
   simp only[Be.set,↓reduceIte,f]at hm hm'
   exact absurd hm' ((hl g n hm).2.2.2 id' n' f')
  ·subst f
   simp only[Be.set,↓reduceIte,e]at hm hm'
   exact absurd hm ((hl g n' hm').2.2.2 id n e')
  ·simp only[Be.set,e,f,↓reduceIte]at hm hm'
   exact h.inj id id' g n n' e' f' hm hm'
 ·intro id g n hi hm
  rcases hinv id hi with e|⟨e,e'⟩
  ·subst e
   simp only[Be.set,↓reduceIte]at hm
   obtain⟨h1,h2,h3,_⟩:=hl g n hm
   exact⟨h1,h2,h3⟩
  ·simp only[Be.set,e,↓reduceIte]at hm
   exact h.loc id g n e' hm
 ·intro id hk hi
  have e:id≠d:=by omega
  rcases hinv id hi with f|⟨_,e'⟩
  ·exact absurd f e
  ·simp only[Be.set,e,↓reduceIte];exact h.kap id hk e'
theorem B0.put {w0:World} {B:Nat} {κ:Be} {X:Nat->Prop} {μ:Be} {st:St} {tm:Array Value} {w:World} (h:B0 w0 B κ X μ st tm w) {d:Nat} (hd:d<tm.size) {a:AV} {v:Value}
  (ha:AR w X μ st.sh a v):B0 w0 B κ X μ ⟨(d,a)::st.env,st.hp⟩ (tm.setIfInBounds d v) w:=by
 refine⟨?_,h.reg,h.inj,h.loc,h.kap,h.kbig,h.xlt,h.os,h.tape,h.output,h.size,h.fr⟩
 intro t b ht
 simp only[A2]at ht
 split at ht
 ·rename_i e;subst e;simp only[Option.some.injEq]at ht;subst ht
  show AR w X μ st.sh a _
  simpa[Array.getD,hd]using ha
 ·rename_i e
  have:=h.env t b ht
  show AR w X μ st.sh b _
  simpa[Array.getD_eq_getD_getElem?,Array.getElem?_setIfInBounds,e]using this
theorem B0.sub {w0:World} {B:Nat} {κ:Be} {X:Nat->Prop} {μ:Be} {st:St} {tm:Array Value} {w:World} (h:B0 w0 B κ X μ st tm w) (env':List (Nat×AV))
  (he:∀ t a,A2 env' t=some a->A2 st.env t=some a):B0 w0 B κ X μ ⟨env',st.hp⟩ tm w :=
 ⟨fun t a ht=>h.env t a (he t a ht),h.reg,h.inj,h.loc,h.kap,h.kbig,h.xlt,h.os,h.tape,h.output,h.size,h.fr⟩
inductive KT where
 | int (k:IntKind)
 | str
 | bl
inductive B6 where
 | mv (x:Operand)
 | pick (c a b:Operand)
 | alloc (fz:Bool) (zs:List Value)
 | allocR (ty:Nat) (zs:List Value)
 | box (fz:Bool) (x:Operand)
 | build (parts:List (Nat×Operand))
 | bsl (fz:Bool) (ty s:Nat) (parts:List Operand)
 | bslA (ty s:Nat) (parts:List Operand)
 | appA (ty s:Nat) (b x:Operand)
 | load (n:Nat) (g:Bool) (a:Operand)
 | store (n:Nat) (a x:Operand)
 | fadr (off:Nat) (a:Operand)
 | fld (off n:Nat) (g:Bool) (x:Operand)
 | iadr (s:Nat) (x i:Operand)
 | iadT (s:Nat) (x i:Operand)
 | iadrA (len s:Nat) (x i:Operand)
 | idxS (x i:Operand)
 | idxA (len s:Nat) (g:Bool) (x i:Operand)
 | bin (op:BinOp) (x y:Operand)
 | isNil (pos:Bool) (x:Operand)
 | eqb (pos:Bool) (x y:Operand)
 | eqg (pos:Bool) (ks:List (Option IntKind)) (x y:Operand)
 | un (op:UnOp) (x:Operand)
 | conv (k:IntKind) (x:Operand)
 | bytesStr (x:Operand)
 | runeStr (x:Operand)
 | len (k:Nat) (x:Operand)
 | cap (x:Operand)
 | mmx (mx:Bool) (xs:List Operand)
 | app (fz:Bool) (ty s:Nat) (b x:Operand)
 | appT (ty s:Nat) (b x:Operand)
 | appN (ty s:Nat) (x:Operand)
 | appB (b x:Operand)
 | appS (ty:Nat) (b x:Operand)
 | appR (fz:Bool) (i ty:Nat) (b x:Operand)
 | appZ (ty s:Nat) (zs:List Value) (b n:Operand)
 | cpy (s:Nat) (x y:Operand)
 | clr (s:Nat) (zs:List Value) (x:Operand)
 | slice (s:Nat) (x:Operand) (lo hi mx:Option Operand)
 | mk (ty s:Nat) (zs:List Value) (l c:Operand)
 | mkf (f:FuncId) (caps:List Operand)
 | mkfB (f:FuncId) (caps:List Operand)
 | ext (x:Operand) (i:Nat)
 | nck (x:Operand)
 | mkmap
 | mkB (ty:Nat) (zs:List Value) (l c:Operand)
 | mkE (ty s:Nat) (zs:List Value) (l c:Operand)
 | rng (x:Operand)
 | nxt (x:Operand)
 | lkup (kt:KT) (zv:Value) (ok:Bool) (m k:Operand)
 | lkupA (kt:KT) (zv:Value) (m k:Operand)
 | mupA (kt:KT) (m k x:Operand)
 | mdel (kt:KT) (m k:Operand)
 | mvP (x:Operand)
 | nckP (x:Operand)
 | fadP (off:Nat) (x:Operand)
 | ldP (n:Nat) (x:Operand)
 | isNilP (pos:Bool) (x:Operand)
 | isNilI (pos:Bool) (x:Operand)
 | mup (kt:KT) (m k x:Operand)
 | stR (id n:Nat) (a x:Operand)
 | iaR (id s:Nat) (x i:Operand)
 | stF (id f:Nat) (a x:Operand)
 | ldR (id n:Nat) (g:Bool) (a:Operand)
 | ldT (n:Nat) (g:Bool) (a:Operand)
 | lkT (kt:KT) (zv:Value) (ok:Bool) (m k:Operand)
 | hcall (f:FuncId) (args:List Operand) (rs:List Nat) (base:Nat)
 | hcallv (x:Operand) (args:List Operand) (rs:List Nat) (base:Nat)
 | hcallW (f:FuncId) (args:List Operand) (base:Nat)
 | hcallvW (x:Operand) (args:List Operand) (base:Nat)
 | hcallB (x:Operand) (args:List Operand) (base:Nat)
 | ncall (f:FuncId) (args:List Operand) (base:Nat)
 | callT (f:FuncId) (args:List Operand)
 | rcall (f:FuncId) (args:List Operand) (rs:List Nat)
 | call (f:FuncId) (args:List Operand)
 | callv (x:Operand) (args:List Operand)
abbrev Tables:=Nat->Option (List T)
def Ar:Value->T
 | .slice none 0 0=>.sl [] (some 0) (some true)
 | .map none=>.mp []
 | v=>.v v
def Hh:Value->T
 | .agg cs=>.agg (cs.toList.map Ar)
 | v=>Ar v
def Pe (v:Value):AV:=.t (Hh v)
def ev (Γ:Tables) (env:List (Nat×AV)):Operand->Option AV
 | .tmp t=>A2 env t
 | .const v=>some (Pe v)
 | .global g=>(Γ g).map fun cs=>.t (.ip cs 0)
 | .func f=>some (.t (.fn f []))
def Ac {α:Type}:List (Option α)->Option (List α)
 | []=>some []
 | none::_=>none
 | some a::l=>(Ac l).map (a::·)
def Ip (Γ:Tables) (env:List (Nat×AV)) (xs:List Operand):Option (List AV):=Ac (xs.map (ev Γ env))
def AV.cells:AV->List AV
 | .ag cs=>cs
 | .t (.agg ts)=>ts.map .t
 | a=>[a]
def Xj:AV->Option T
 | .t x=>some x
 | _=>none
def toT:AV->Option T
 | .t x=>some x
 | .ag cs=>(Ac (cs.map Xj)).map .agg
 | .fn f cs=>if f<1000000000 then(Ac (cs.map Xj)).map (.fn f)else none
 | _=>none
def Iq (as:List AV):Option (List T):=Ac (as.map Xj)
def Aq (hp:List (Nat×Aj)):Nat->AV->Option T
 | _,.t x=>some x
 | 0,_=>none
 | n+1,.ag cs=>(Ac (cs.map (Aq hp n))).map .agg
 | n+1,.fn f cs=>if f<1000000000 then(Ac (cs.map (Aq hp n))).map (.fn f)else none
 | n+1,.ls id off len cap=>match A2 hp id with
  | some (.sl _ _ es)=>some (.sl ((es.drop off).take len) cap none)
  | some (.rs _ _ es)=>(Ac (((es.drop off).take len).map fun e=>Ac (e.map (Aq hp n)))).map fun ts=>.sl ts cap none
  | _=>none
 | n+1,.lp id i k=>match A2 hp id with
  | some (.sl _ _ es)=>some (.ip (es.getD i []) k)
  | some (.rs _ _ es)=>(Ac ((es.getD i []).map (Aq hp n))).map fun ts=>.ip ts k
  | some (.bx cs)=>(Ac (cs.map (Aq hp n))).map fun ts=>.ip ts k
  | _=>none
 | _+1,.lm id=>match A2 hp id with
  | some (.mp es)=>some (.mp es)
  | _=>none
 | n+1,.lb id m=>match A2 hp id with
  | some (.bx cs)=>(Ac (cs.map (Aq hp n))).map fun ts=>.sl (ts.map fun t=>[t]) (some m) none
  | _=>none
 | _+1,.li _=>none
 | _+1,.dead=>none
 | _+1,.un=>none
 | _+1,.tu _=>none
def Bi (ts:List T):Bool:=ts.all T.one
def Aw (as:List AV):Bool:=as.all AV.one
def q1J (p:Bool):AV->AV->AV
 | .t (.v (.bool x)),.t (.v (.bool y))=>.t (.v (.bool (if p then x else y)))
 | .t (.v (.int k x)),.t (.v (.int j y))=>if k=j then .t (.v (.int k (if p then x else y)))else if p then .t (.v (.int k x))else .t (.v (.int j y))
 | a,b=>if p then a else b
def Bm (id:Nat) (r:Aj):List (Nat×Aj)->List (Nat×Aj)
 | []=>[]
 | (k,v)::e=>if k=id then(k,r)::e else(k,v)::Bm id r e
def no0 (id:Nat):AV->Bool
 | .ls i _ _ _=>i != id
 | .lp i _ _=>i != id
 | .lm i=>i != id
 | .lb i _=>i != id
 | .li i=>i != id
 | .t _=>true
 | .dead=>true
 | .un=>true
 | .fn _ []=>true
 | .fn _ (_::_)=>false
 | .ag _=>false
 | .tu _=>false
def kill1 (id:Nat):AV->AV
 | .ls i off len cap=>if i=id then .dead else .ls i off len cap
 | .lp i a b=>if i=id then .dead else .lp i a b
 | .lm i=>if i=id then .dead else .lm i
 | .lb i m=>if i=id then .dead else .lb i m
 | .li i=>if i=id then .dead else .li i
 | .fn f []=>.fn f []
 | .fn f (c::cs)=>if(c::cs).all (no0 id)then .fn f (c::cs)else .dead
 | .t x=>.t x
 | .dead=>.dead
 | .un=>.un
 | .ag cs=>.ag cs
 | .tu cs=>.tu cs
@[simp] def kill2 (id:Nat):AV->AV
 | .ag cs=>.ag (cs.map (kill1 id))
 | a=>kill1 id a
def Ae (id:Nat):AV->AV
 | .ag cs=>.ag (cs.map (kill1 id))
 | .tu cs=>.tu (cs.map (kill2 id))
 | a=>kill1 id a
def G1 (id:Nat):Aj->Aj
 | .bx cs=>.bx (cs.map (Ae id))
 | .rs ty s es=>.rs ty s (es.map fun e=>e.map (Ae id))
 | .mr es=>.mr (es.map fun e=>(e.1,Ae id e.2))
 | r=>r
def St.kill (id:Nat) (st:St):St :=
 ⟨st.env.map fun p=>(p.1,Ae id p.2),(del id st.hp).map fun p=>(p.1,G1 id p.2)⟩
def Z5:BinOp->Value->Value->Option (Prop×Value)
 | .add,.int k a,.int j b=>if k=j then some (True,.int k (k.wrap (a+b)))else none
 | .sub,.int k a,.int j b=>if k=j then some (True,.int k (k.wrap (a-b)))else none
 | .mul,.int k a,.int j b=>if k=j then some (True,.int k (k.wrap (a*b)))else none
 | .quo,.int k a,.int j b=>if k=j then some (b≠0,.int k (k.wrap (a.tdiv b)))else none
 | .rem,.int k a,.int j b=>if k=j then some (b≠0,.int k (a.tmod b))else none
 | .and,.int k a,.int j b=>if k=j then some (True,.int k (k.wrap (BitVec.ofInt k.bits a &&& BitVec.ofInt k.bits b).toNat))else none
 | .or,.int k a,.int j b=>if k=j then some (True,.int k (k.wrap (BitVec.ofInt k.bits a ||| BitVec.ofInt k.bits b).toNat))else none
 | .xor,.int k a,.int j b=>if k=j then some (True,.int k (k.wrap (BitVec.ofInt k.bits a ^^^ BitVec.ofInt k.bits b).toNat))else none
 | .shl,.int k a,.int _ b=>some (0<=b,.int k (k.wrap (a*2 ^ (min b.toNat k.bits))))
 | .shr,.int k a,.int _ b=>some (0<=b,.int k (a.fdiv (2 ^ (min b.toNat k.bits))))
 | .eql,.int k a,.int j b=>if k=j then some (True,.bool (a==b))else none
 | .neq,.int k a,.int j b=>if k=j then some (True,.bool (a != b))else none
 | .lss,.int k a,.int j b=>if k=j then some (True,.bool (decide (a<b)))else none
 | .leq,.int k a,.int j b=>if k=j then some (True,.bool (decide (a<=b)))else none
 | .gtr,.int k a,.int j b=>if k=j then some (True,.bool (decide (a > b)))else none
 | .geq,.int k a,.int j b=>if k=j then some (True,.bool (decide (a ≥ b)))else none
 | .add,.string a,.string b=>some (a.size+b.size<=9223372036854775807,.string (a++b))
 | .eql,.string a,.string b=>some (True,.bool (a.toList==b.toList))
 | .neq,.string a,.string b=>some (True,.bool (!(a.toList==b.toList)))
 | _,_,_=>none
def unV:UnOp->Value->Option Value
 | .neg,.int k n=>some (.int k (k.wrap (0-n)))
 | .not,.bool b=>some (.bool !b)
 | _,_=>none
def Vf (mx:Bool):List AV->Option Int->Option (IntKind×Int)
 | [],_=>none
 | .t (.v (.int k a))::l,acc =>
  let b:=match acc with|none=>a|some x=>if mx then(if a > x then a else x) else(if a<x then a else x)
  match l with
  | []=>some (k,b)
  | _=>Vf mx l (some b)
 | _::_,_=>none
def G2 (k:IntKind):List AV->Bool
 | []=>true
 | .t (.v (.int j _))::l=>decide (j=k)&&G2 k l
 | _::_=>false
def Lq:List (List T)->Option (List UInt8)
 | []=>some []
 | [.v (.int .u8 n)]::es=>(Lq es).map (UInt8.ofNat n.toNat::·)
 | _::_=>none
def KT.fits:KT->Value->Bool
 | .int k,.int j _=>decide (j=k)
 | .str,.string _=>true
 | .bl,.bool _=>true
 | _,_=>false
def Ky:Value->Value->Bool
 | .int _ a,.int _ b=>a==b
 | .string a,.string b=>a==b
 | .bool a,.bool b=>a==b
 | _,_=>false
def Ew (k:Value):List (Value×T)->Option T
 | []=>none
 | (q,x)::es=>if Ky k q then some x else Ew k es
def q32 (k:Value) (x:T):List (Value×T)->List (Value×T)
 | []=>[(k,x)]
 | (q,y)::es=>if Ky k q then(k,x)::es else(q,y)::q32 k x es
def Q1 (k:Value):List (Value×AV)->Option AV
 | []=>none
 | (q,x)::es=>if Ky k q then some x else Q1 k es
def q4O (k:Value) (x:AV):List (Value×AV)->List (Value×AV)
 | []=>[(k,x)]
 | (q,y)::es=>if Ky k q then(k,x)::es else(q,y)::q4O k x es
def q4P (k:Value):List (Value×AV)->List (Value×AV)
 | []=>[]
 | (q,y)::es=>if Ky k q then es else(q,y)::q4P k es
def Jd (kt:KT) (es:List (Value×AV)):Prop:=∀ e∈es,kt.fits e.1=true
def K1 (kt:KT) (es:List (Value×T)):Prop:=∀ e∈es,kt.fits e.1=true
def B7 (hp:List (Nat×Aj)):AV->Option (List (List T))
 | .t (.sl es _ _)=>some es
 | .ls id off len _=>match A2 hp id with
  | some (.sl _ _ es)=>some ((es.drop off).take len)
  | _=>none
 | _=>none
def Gk (s:Nat) (es:List (List T)):Prop:=∀ e∈es,e.length=s
def Ia (g:Bool) (ts:List T):T:=if g then .agg ts else ts.headD (.v undef)
def Je (g:Bool) (as:List AV):AV:=if g then .ag as else as.headD .dead
def lenOf (hp:List (Nat×Aj)):AV->Option Nat
 | .t (.sl es _ _)=>some es.length
 | .ls _ _ len _=>some len
 | .lb _ m=>some m
 | .t (.v (.string s))=>some s.size
 | .t (.mp es)=>some es.length
 | .lm id=>match A2 hp id with
  | some (.mp es)=>some es.length
  | some (.mr es)=>some es.length
  | _=>none
 | _=>none
def qCH:Nat->AV->Bool
 | 0,.t (.sl _ _ _)|0,.ls _ _ _ _|0,.lb _ _=>true
 | 1,.t (.v (.string _))=>true
 | 2,.t (.mp _)|2,.lm _=>true
 | _,_=>false
def Eo (Γ:Tables) (env:List (Nat×AV)) (o:Option Operand) (dflt:Nat):Option (Prop×Nat):=match o with
 | none=>some (True,dflt)
 | some o=>match ev Γ env o with
  | some (.t (.v (.int _ n)))=>some (0<=n,n.toNat)
  | _=>none
def D5 (id:Nat):Option AV->Bool
 | some (.lp j _ _)=>j==id
 | _=>false
def lk1:Option IntKind->Value->Prop
 | some k,.int j n=>j=k/\(Lit.int k n).wf=true
 | none,.bool _=>True
 | _,_=>False
def Z0:List (Option IntKind)->List Value->Prop
 | [],[]=>True
 | k::ks,v::vs=>lk1 k v/\Z0 ks vs
 | _,_=>False
def qHL:Value->Value->Bool
 | .int _ a,.int _ b=>a==b
 | .bool a,.bool b=>a==b
 | _,_=>true
def q0k:List Value->List Value->Bool
 | v::l,u::m=>qHL v u&&q0k l m
 | _,_=>true
def qHM:T->Option Value
 | .v x=>some x
 | _=>none
def qHN:AV->Option Value
 | .t (.v x)=>some x
 | _=>none
def q7m:AV->Option (List Value)
 | .ag cs=>Ac (cs.map qHN)
 | .t (.agg ts)=>Ac (ts.map qHM)
 | _=>none
def Jf (hp:List (Nat×Aj)):AV->Bool
 | .t _=>true
 | .lp id _ _=>match A2 hp id with|some (.bx _)=>true|_=>false
 | .lm id=>match A2 hp id with|some (.mp _)=>true|some (.mr _)=>true|_=>false
 | .ls id _ _ _=>match A2 hp id with|some (.rs _ _ _)=>true|_=>false
 | _=>false
def Q2 (s:ByteArray):List (List T):=s.data.toList.map fun b=>[T.v (.int .u8 b.toNat)]
def A7 (Γ:Tables) (d:Nat) (io:B6) (st:St):Option (Prop×AV×St) :=
  match io with
  | .mv x=>(ev Γ st.env x).map fun a=>(True,a,st)
  | .pick c a b=>match ev Γ st.env c,ev Γ st.env a,ev Γ st.env b with
    | some (.t (.v (.bool p))),some a,some b=>some (True,q1J p a b,st)
    | _,_,_=>none
  | .alloc fz zs =>
    if fz then some (True,.t (.ip (zs.map Ar) 0),st)
    else some (A2 st.hp d=none,.lp d 0 0,⟨st.env,(d,.bx (zs.map fun z=>.t (Ar z)))::st.hp⟩)
  | .allocR ty zs=>some (A2 st.hp d=none,.lp d 0 0,⟨st.env,(d,.rs ty zs.length [zs.map fun z=>.t (Ar z)])::st.hp⟩)
  | .box fz x=>(ev Γ st.env x).bind fun a =>
    if fz then(Iq a.cells).map fun ts=>(Bi ts=true,.t (.ip ts 0),st)
    else some (A2 st.hp d=none/\Aw a.cells=true,.lp d 0 0,⟨st.env,(d,.bx a.cells)::st.hp⟩)
  | .build parts=>(Ip Γ st.env (parts.map (·.2))).map fun as=>(as.map (·.cells.length)=parts.map (·.1)/\Aw (as.flatMap AV.cells)=true,.ag (as.flatMap AV.cells),st)
  | .bsl fz ty s parts=>(Ip Γ st.env parts).bind fun as=>(Ac (as.map fun a=>Iq a.cells)).map fun es =>
    if fz then((∀ e∈es,e.length=s/\Bi e=true),.t (.sl es (some es.length) (some false)),st)
    else(A2 st.hp d=none/\(∀ e∈es,e.length=s/\Bi e=true),.ls d 0 es.length none,⟨st.env,(d,.sl ty s es)::st.hp⟩)
  | .bslA ty s parts=>(Ip Γ st.env parts).map fun as=>(A2 st.hp d=none/\(∀ a∈as,a.cells.length=s/\Aw a.cells=true),.ls d 0 as.length none,⟨st.env,(d,.rs ty s (as.map AV.cells))::st.hp⟩)
  | .appA ty s b x=>match ev Γ st.env x,ev Γ st.env b with
    | some (.ls ix 0 n none),some (.ls id 0 len none)=>match A2 st.hp ix,A2 st.hp id with
      | some (.rs _ q news),some (.rs t q' es)=>some (q=s/\n=news.length/\news≠[]/\t=ty/\q'=s/\len+news.length<=2147483648/\A2 (st.kill id).hp d=none,.ls d 0 (es.take len++news).length none,⟨(st.kill id).env,(d,.rs ty s ((es.take len++news).map fun e=>e.map (Ae id)))::(st.kill id).hp⟩)
      | _,_=>none
    | _,_=>none
  | .load n g a=>match ev Γ st.env a with
    | some (.t (.ip cs k))=>some (k+n<=cs.length,.t (Ia g ((cs.drop k).take n)),st)
    | some (.lp id i k)=>match A2 st.hp id with
      | some (.sl _ s es)=>some (i<es.length/\k+n<=s,.t (Ia g (((es.getD i []).drop k).take n)),st)
      | some (.rs _ s es)=>some (i<es.length/\k+n<=s,Je g (((es.getD i []).drop k).take n),st)
      | some (.bx cs)=>some (i=0/\k+n<=cs.length,Je g ((cs.drop k).take n),st)
      | _=>none
    | _=>none
  | .store n a x=>(ev Γ st.env x).bind fun v=>match ev Γ st.env a with
    | some (.lp id i k)=>match A2 st.hp id with
      | some (.sl ty s es)=>(Iq v.cells).map fun ts =>
        (i<es.length/\k+n<=s/\ts.length=n/\Bi ts=true,.un,
          ⟨st.env,Bm id (.sl ty s (es.set i (if k=0/\n=s then ts else(es.getD i []).take k++ts++(es.getD i []).drop (k+n)))) st.hp⟩)
      | some (.rs ty s es)=>some (i<es.length/\k+n<=s/\v.cells.length=n/\Aw v.cells=true,.un,
          ⟨st.env,Bm id (.rs ty s (es.set i (if k=0/\n=s then v.cells else(es.getD i []).take k++v.cells++(es.getD i []).drop (k+n)))) st.hp⟩)
      | some (.bx cs)=>some (i=0/\k+n<=cs.length/\v.cells.length=n/\Aw v.cells=true,.un,⟨st.env,Bm id (.bx (cs.take k++v.cells++cs.drop (k+n))) st.hp⟩)
      | _=>none
    | _=>none
  | .fadr off a=>match ev Γ st.env a with
    | some (.t (.ip cs k))=>some (True,.t (.ip cs (k+off)),st)
    | some (.lp id i k)=>some (True,.lp id i (k+off),st)
    | _=>none
  | .fld off n g x=>(ev Γ st.env x).bind fun a=>match a with
    | .ag cs=>some (off+n<=cs.length,Je g ((cs.drop off).take n),st)
    | .t (.agg ts)=>some (off+n<=ts.length,.t (Ia g ((ts.drop off).take n)),st)
    | _=>none
  | .iadr s x i=>match ev Γ st.env x,ev Γ st.env i with
    | some (.t (.sl es _ _)),some (.t (.v (.int _ n)))=>some (0<=n/\n<es.length/\Gk s es,.t (.ip (es.getD n.toNat []) 0),st)
    | some (.ls id off len _),some (.t (.v (.int _ n)))=>match A2 st.hp id with
      | some (.sl _ q _)=>some (q=s/\0<=n/\n<len,.lp id (off+n.toNat) 0,st)
      | some (.rs _ q _)=>some (q=s/\0<=n/\n<len,.lp id (off+n.toNat) 0,st)
      | _=>none
    | some (.lb id m),some (.t (.v (.int _ n)))=>match A2 st.hp id with
      | some (.bx _)=>some (s=1/\0<=n/\n<m,.lp id 0 n.toNat,st)
      | _=>none
    | _,_=>none
  | .iadT s x i=>match ev Γ st.env x,ev Γ st.env i with
    | some (.t (.sl es _ _)),some (.t (.v (.int _ n)))=>some (0<=n/\n<es.length/\Gk s es,.t (.ip (es.getD n.toNat []) 0),st)
    | _,_=>none
  | .iadrA len s x i=>match ev Γ st.env x,ev Γ st.env i with
    | some (.t (.ip cs k)),some (.t (.v (.int _ n)))=>some (0<=n/\n<len,.t (.ip cs (k+n.toNat*s)),st)
    | some (.lp id j k),some (.t (.v (.int _ n)))=>some (0<=n/\n<len,.lp id j (k+n.toNat*s),st)
    | _,_=>none
  | .idxS x i=>match ev Γ st.env x,ev Γ st.env i with
    | some (.t (.v (.string s))),some (.t (.v (.int _ n)))=>some (0<=n/\n<s.size,.t (.v (.int .u8 (s.data.getD n.toNat 0).toNat)),st)
    | _,_=>none
  | .idxA len s g x i=>match ev Γ st.env x,ev Γ st.env i with
    | some (.t (.agg ts)),some (.t (.v (.int _ n)))=>some (0<=n/\n<len/\n.toNat*s+s<=ts.length,.t (Ia g ((ts.drop (n.toNat*s)).take s)),st)
    | some (.ag cs),some (.t (.v (.int _ n)))=>some (0<=n/\n<len/\n.toNat*s+s<=cs.length,Je g ((cs.drop (n.toNat*s)).take s),st)
    | _,_=>none
  | .bin op x y=>match ev Γ st.env x,ev Γ st.env y with
    | some (.t (.v a)),some (.t (.v b))=>(Z5 op a b).map fun r=>(r.1,.t (.v r.2),st)
    | _,_=>none
  | .eqb pos x y=>match ev Γ st.env x,ev Γ st.env y with
    | some (.t (.v (.bool a))),some (.t (.v (.bool b)))=>some (True,.t (.v (.bool (if pos then a==b else a != b))),st)
    | _,_=>none
  | .eqg pos ks x y=>((ev Γ st.env x).bind q7m).bind fun as=>((ev Γ st.env y).bind q7m).map fun bs=>(Z0 ks as/\Z0 ks bs,.t (.v (.bool (if pos then q0k as bs else !q0k as bs))),st)
  | .isNil pos x=>match ev Γ st.env x with
    | some (.t (.sl es _ nl))=>match nl with
      | some q=>some (True,.t (.v (.bool (q==pos))),st)
      | none=>some (es≠[],.t (.v (.bool (!pos))),st)
    | _=>none
  | .un op x=>match ev Γ st.env x with
    | some (.t (.v a))=>(unV op a).map fun r=>(True,.t (.v r),st)
    | _=>none
  | .conv k x=>match ev Γ st.env x with
    | some (.t (.v (.int _ n)))=>some (True,.t (.v (.int k (k.wrap n))),st)
    | _=>none
  | .bytesStr x=>((ev Γ st.env x).bind (B7 st.hp)).bind fun es=>(Lq es).map fun bs=>(True,.t (.v (.string ⟨bs.toArray⟩)),st)
  | .runeStr x=>match ev Γ st.env x with
    | some (.t (.v (.int _ n)))=>some (True,.t (.v (.string (Utf8.encode n))),st)
    | _=>none
  | .len k x=>(ev Γ st.env x).bind fun a=>if qCH k a then(lenOf st.hp a).map fun(n:Nat)=>(True,.t (.v (.int .i64 (n:Int))),st)else none
  | .cap x=>match ev Γ st.env x with
    | some (.t (.sl _ (some c) _))=>some (True,.t (.v (.int .i64 c)),st)
    | some (.ls _ _ _ (some c))=>some (True,.t (.v (.int .i64 c)),st)
    | _=>none
  | .mmx mx xs=>(Ip Γ st.env xs).bind fun as=>(Vf mx as none).map fun r=>(G2 r.1 as=true,.t (.v (.int r.1 r.2)),st)
  | .app fz ty s b x=>((ev Γ st.env x).bind (B7 st.hp)).bind fun news=>(ev Γ st.env b).bind fun a =>
    let fin (c0:Prop) (es:List (List T)) (st':St):Option (Prop×AV×St) :=
      let c:Prop:=Gk s news/\c0
      if fz then some (c,.t (.sl es none none),st')
      else some (c/\A2 st'.hp d=none,.ls d 0 es.length none,⟨st'.env,(d,.sl ty s es)::st'.hp⟩)
    match a with
    | .t (.sl es (some c) _)=>fin (Gk s es/\c=es.length/\es.length+news.length<=2147483648/\(fz=true\/news≠[]\/es=[])) (es++news) st
    | .ls id off len (some c)=>match A2 st.hp id with
      | some (.sl t q es)=>fin (t=ty/\q=s/\c=len/\len+news.length<=2147483648/\(news≠[]\/len=0)) ((es.drop off).take len++news) st
      | _=>none
    | .ls id 0 len none=>match A2 st.hp id with
      | some (.sl t q es)=>fin (t=ty/\q=s/\len+news.length<=2147483648) (es.take len++news) (st.kill id)
      | _=>none
    | _=>none
  | .appN ty s x=>match ev Γ st.env x with
    | some (.t (.sl es _ _))=>some (A2 st.hp d=none/\Gk s es/\es.length<=2147483648,.ls d 0 es.length none,⟨st.env,(d,.sl ty s es)::st.hp⟩)
    | _=>none
  | .appT _ s b x=>((ev Γ st.env x).bind (B7 st.hp)).bind fun news=>match ev Γ st.env b with
    | some (.t (.sl es (some c) _))=>some (Gk s news/\Gk s es/\c=es.length/\es.length+news.length<=2147483648,.t (.sl (es++news) none none),st)
    | _=>none
  | .appB b x=>((ev Γ st.env x).bind (B7 st.hp)).bind fun news=>match ev Γ st.env b with
    | some (.t (.sl es (some c) _))=>some (Gk 1 news/\Gk 1 es/\c=es.length/\es.length+news.length<=140737488355328,.t (.sl (es++news) none none),st)
    | _=>none
  | .appS ty b x=>match ev Γ st.env x,ev Γ st.env b with
    | some (.t (.v (.string s))),some (.ls id 0 len none)=>match A2 st.hp id with
      | some (.sl t q es)=>some (t=ty/\q=1/\0<s.size/\len+s.size<=140737488355328/\A2 (st.kill id).hp d=none,.ls d 0 (es.take len++Q2 s).length none,⟨(st.kill id).env,(d,.sl ty 1 (es.take len++Q2 s))::(st.kill id).hp⟩)
      | _=>none
    | some (.t (.v (.string s))),some (.t (.sl [] (some 0) _))=>some (0<s.size/\s.size<=140737488355328/\A2 st.hp d=none,.ls d 0 (Q2 s).length none,⟨st.env,(d,.sl ty 1 (Q2 s))::st.hp⟩)
    | _,_=>none
  | .appR fz i ty b x=>match ev Γ st.env x,ev Γ st.env b with
    | some (.t (.sl news _ _)),some (.ls id 0 len none)=>match A2 st.hp i with
      | some (.sl t q es) =>
        if fz then some (id=i/\Gk 1 news/\t=ty/\q=1/\len+news.length<=140737488355328,.t (.sl (es.take len++news) none none),st.kill i)
        else some ((id=i/\Gk 1 news/\t=ty/\q=1/\len+news.length<=140737488355328)/\A2 (st.kill i).hp d=none,.ls d 0 (es.take len++news).length none,⟨(st.kill i).env,(d,.sl ty 1 (es.take len++news))::(st.kill i).hp⟩)
      | _=>none
    | _,_=>none
  | .appZ ty s zs b n=>match ev Γ st.env b,ev Γ st.env n with
    | some (.t (.sl es (some q) _)),some (.t (.v (.int _ m))) =>
      some (A2 st.hp d=none/\0<m/\(Gk s es/\(q:Int)<es.length+m)/\es.length+m<=2147483648,.ls d 0 (es.length+m.toNat) none,⟨st.env,(d,.sl ty s (es++List.replicate m.toNat (zs.map Ar)))::st.hp⟩)
    | _,_=>none
  | .cpy s x y=>match ev Γ st.env x with
    | some (.ls id off len _)=>match A2 st.hp id with
      | some (.sl ty q es)=>((ev Γ st.env y).bind (B7 st.hp)).map fun news =>
        (q=s/\Gk s news,.t (.v (.int .i64 (min len news.length:Nat))),⟨st.env,Bm id (.sl ty s (es.take off++news.take (min len news.length)++es.drop (off+min len news.length))) st.hp⟩)
      | _=>none
    | _=>none
  | .clr s zs x=>match ev Γ st.env x with
    | some (.ls id off len _)=>match A2 st.hp id with
      | some (.sl ty q es)=>some (q=s,.t (.tup []),⟨st.env,Bm id (.sl ty s (es.take off++List.replicate len (zs.map Ar)++es.drop (off+len))) st.hp⟩)
      | _=>none
    | _=>none
  | .slice s x lo hi mx=>(ev Γ st.env x).bind fun a =>
    match a with
    | .t (.v (.string b))=>(Eo Γ st.env lo 0).bind fun l=>(Eo Γ st.env hi b.size).map fun h=>(s=0/\l.1/\h.1/\l.2<=h.2/\h.2<=b.size,.t (.v (.string (b.extract l.2 h.2))),st)
    | .t (.sl es cap nl)=>(Eo Γ st.env lo 0).bind fun l=>(Eo Γ st.env hi es.length).bind fun h=>match mx with
      | none=>some (s≠0/\Gk s es/\l.1/\h.1/\l.2<=h.2/\h.2<=es.length,.t (.sl ((es.drop l.2).take (h.2-l.2)) (cap.map (· - l.2)) nl),st)
      | some _=>(Eo Γ st.env mx 0).map fun m=>(s≠0/\Gk s es/\l.1/\h.1/\m.1/\l.2<=h.2/\h.2<=m.2/\m.2<=es.length,.t (.sl ((es.drop l.2).take (h.2-l.2)) (some (m.2-l.2)) nl),st)
    | .ls id off len cap=>(Eo Γ st.env lo 0).bind fun l=>(Eo Γ st.env hi len).bind fun h=>match A2 st.hp id with
     | some (.sl _ q _)=>match mx with
      | none=>some (s≠0/\q=s/\l.1/\h.1/\l.2<=h.2/\h.2<=len,.ls id (off+l.2) (h.2-l.2) (cap.map (· - l.2)),st)
      | some _=>(Eo Γ st.env mx 0).map fun m=>(s≠0/\q=s/\l.1/\h.1/\m.1/\l.2<=h.2/\h.2<=m.2/\m.2<=len,.ls id (off+l.2) (h.2-l.2) (some (m.2-l.2)),st)
     | _=>none
    | _=>none
  | .mk ty s zs l c=>match ev Γ st.env l,ev Γ st.env c with
    | some (.t (.v (.int _ n))),some (.t (.v (.int _ m))) =>
      some (A2 st.hp d=none/\0<=n/\n<=m/\m<=2147483648,.ls d 0 n.toNat none,⟨st.env,(d,.sl ty s (List.replicate n.toNat (zs.map Ar)))::st.hp⟩)
    | _,_=>none
  | .mkf f caps=>(Ip Γ st.env caps).map fun as=>(Aw as=true,(match Iq as with|some ts=>.t (.fn f ts)|none=>.fn f as),st)
  | .mkfB f caps=>(Ip Γ st.env caps).map fun as=>(Aw as=true,.fn (f+1000000000) as,st)
  | .ext x i=>match ev Γ st.env x with
    | some (.t (.tup vs))=>(vs[i]?).map fun t=>(True,.t t,st)
    | some (.tu vs)=>(vs[i]?).map fun t=>(True,t,st)
    | _=>none
  | .nck x=>match ev Γ st.env x with
    | some (.t (.ip cs k))=>some (True,.t (.ip cs k),st)
    | some (.lp id i k)=>some (True,.lp id i k,st)
    | some (.t (.fn f cs))=>some (True,.t (.fn f cs),st)
    | some (.fn f cs)=>some (True,.fn f cs,st)
    | _=>none
  | .mkmap=>some (A2 st.hp d=none,.lm d,⟨st.env,(d,.mp [])::st.hp⟩)
  | .mkB _ zs l c=>match ev Γ st.env l,ev Γ st.env c with
    | some (.t (.v (.int _ n))),some (.t (.v (.int _ m))) =>
      some (A2 st.hp d=none/\0<=n/\n=m/\m<=2147483648,.lb d n.toNat,⟨st.env,(d,.bx (List.replicate n.toNat (.t (Ar (zs.headD undef)))))::st.hp⟩)
    | _,_=>none
  | .mkE ty s zs l c=>match ev Γ st.env l,ev Γ st.env c with
    | some (.t (.v (.int _ n))),some (.t (.v (.int _ m))) =>
      some (A2 st.hp d=none/\0<=n/\n<=m/\m<=2147483648,.ls d 0 n.toNat (some m.toNat),⟨st.env,(d,.sl ty s (List.replicate n.toNat (zs.map Ar)))::st.hp⟩)
    | _,_=>none
  | .rng x=>match ev Γ st.env x with
    | some (.t (.v (.string s)))=>some (A2 st.hp d=none,.li d,⟨st.env,(d,.it s 0)::st.hp⟩)
    | _=>none
  | .nxt x=>match ev Γ st.env x with
    | some (.li id)=>match A2 st.hp id with
      | some (.it s pos)=>if pos<s.size then some (True,.t (.tup [.v (.bool true),.v (.int .i64 pos),.v (.int .i32 (Utf8.decode s pos).1)]),⟨st.env,Bm id (.it s (pos+(Utf8.decode s pos).2)) st.hp⟩)
        else some (True,.t (.tup [.v (.bool false)]),st)
      | _=>none
    | _=>none
  | .lkup kt zv ok m k=>match ev Γ st.env k with
    | some (.t (.v kv)) =>
      let out (es:List (Value×T)):Prop×AV×St :=
        (kt.fits kv=true/\K1 kt es,if ok then .t (.tup [(Ew kv es).getD (Hh zv),.v (.bool (Ew kv es).isSome)])else .t ((Ew kv es).getD (Hh zv)),st)
      match ev Γ st.env m with
      | some (.t (.mp es))=>some (out es)
      | some (.lm id)=>match A2 st.hp id with
        | some (.mp es)=>some (out es)
        | _=>none
      | _=>none
    | _=>none
  | .mup kt m k x=>match ev Γ st.env k,ev Γ st.env m with
    | some (.t (.v kv)),some (.lm id)=>match A2 st.hp id with
      | some (.mp es)=>((ev Γ st.env x).bind toT).map fun t=>(kt.fits kv=true/\K1 kt es,.un,⟨st.env,Bm id (.mp (q32 kv t es)) st.hp⟩)
      | _=>none
    | _,_=>none
  | .stR id n a x=>if D5 id (ev Γ st.env a) then((ev Γ st.env x).bind fun v=>match ev Γ st.env a with
      | some (.lp id i k)=>match A2 st.hp id with
        | some (.sl ty s es)=>(Iq v.cells).map fun ts =>
          (i<es.length/\k+n<=s/\ts.length=n/\Bi ts=true,.un,
            ⟨st.env,Bm id (.sl ty s (es.set i (if k=0/\n=s then ts else(es.getD i []).take k++ts++(es.getD i []).drop (k+n)))) st.hp⟩)
        | some (.rs ty s es)=>some (i<es.length/\k+n<=s/\v.cells.length=n/\Aw v.cells=true,.un,
            ⟨st.env,Bm id (.rs ty s (es.set i (if k=0/\n=s then v.cells else(es.getD i []).take k++v.cells++(es.getD i []).drop (k+n)))) st.hp⟩)
        | some (.bx cs)=>some (i=0/\k+n<=cs.length/\v.cells.length=n/\Aw v.cells=true,.un,⟨st.env,Bm id (.bx (cs.take k++v.cells++cs.drop (k+n))) st.hp⟩)
        | _=>none
      | _=>none)else none
  | .iaR id s x i=>match ev Γ st.env x,ev Γ st.env i with
    | some (.ls j off len _),some (.t (.v (.int _ n)))=>if j=id then(match A2 st.hp j with
      | some (.sl _ q _)=>some (q=s/\0<=n/\n<len,.lp j (off+n.toNat) 0,st)
      | some (.rs _ q _)=>some (q=s/\0<=n/\n<len,.lp j (off+n.toNat) 0,st)
      | _=>none)else none
    | _,_=>none
  | .stF id f a x=>(ev Γ st.env x).bind fun v=>match ev Γ st.env a with
    | some (.lp j i k)=>if j=id/\k=f then(match A2 st.hp j with
      | some (.rs ty s es)=>some (i<es.length/\f+1<=s/\v.one=true/\(es.getD i []).length=s,.un,⟨st.env,Bm j (.rs ty s (es.set i ((es.getD i []).set f v))) st.hp⟩)
      | _=>none)else none
    | _=>none
  | .ldR id n g a=>if D5 id (ev Γ st.env a) then(match ev Γ st.env a with
      | some (.t (.ip cs k))=>some (k+n<=cs.length,.t (Ia g ((cs.drop k).take n)),st)
      | some (.lp id i k)=>match A2 st.hp id with
        | some (.sl _ s es)=>some (i<es.length/\k+n<=s,.t (Ia g (((es.getD i []).drop k).take n)),st)
        | some (.rs _ s es)=>some (i<es.length/\k+n<=s,Je g (((es.getD i []).drop k).take n),st)
        | some (.bx cs)=>some (i=0/\k+n<=cs.length,Je g ((cs.drop k).take n),st)
        | _=>none
      | _=>none)else none
  | .ldT n g a=>match ev Γ st.env a with
    | some (.t (.ip cs k))=>some (k+n<=cs.length,.t (Ia g ((cs.drop k).take n)),st)
    | _=>none
  | .lkT kt zv ok m k=>match ev Γ st.env k,ev Γ st.env m with
    | some (.t (.v kv)),some (.t (.mp es))=>some (kt.fits kv=true/\K1 kt es,if ok then .t (.tup [(Ew kv es).getD (Hh zv),.v (.bool (Ew kv es).isSome)])else .t ((Ew kv es).getD (Hh zv)),st)
    | _,_=>none
  | .lkupA kt zv m k=>match ev Γ st.env k,ev Γ st.env m with
    | some (.t (.v kv)),some (.lm id)=>match A2 st.hp id with
      | some (.mr es)=>some (kt.fits kv=true/\Jd kt es,(Q1 kv es).getD (Pe zv),st)
      | _=>none
    | _,_=>none
  | .mupA kt m k x=>match ev Γ st.env k,ev Γ st.env m with
    | some (.t (.v kv)),some (.lm id)=>match A2 st.hp id with
      | some (.mr es)=>(ev Γ st.env x).map fun a=>(kt.fits kv=true/\Jd kt es,.un,⟨st.env,Bm id (.mr (q4O kv a es)) st.hp⟩)
      | _=>none
    | _,_=>none
  | .mdel kt m k=>match ev Γ st.env k,ev Γ st.env m with
    | some (.t (.v kv)),some (.lm id)=>match A2 st.hp id with
      | some (.mr es)=>some (kt.fits kv=true/\Jd kt es,.t (.tup []),⟨st.env,Bm id (.mr (q4P kv es)) st.hp⟩)
      | _=>none
    | _,_=>none
  | .isNilP pos x=>match ev Γ st.env x with
    | some (.lp _ _ _)=>some (True,.t (.v (.bool (!pos))),st)
    | some (.t (.ip _ _))=>some (True,.t (.v (.bool (!pos))),st)
    | some (.t (.v (.pointer none)))=>some (True,.t (.v (.bool pos)),st)
    | _=>none
  | .isNilI pos x=>match ev Γ st.env x with
    | some (.t .ifc)=>some (True,.t (.v (.bool (!pos))),st)
    | some (.t (.v .nilIface))=>some (True,.t (.v (.bool pos)),st)
    | _=>none
  | .mvP x=>(ev Γ st.env x).bind fun a=>if Jf st.hp a then some (True,a,st)else none
  | .nckP x=>match ev Γ st.env x with
    | some (.lp id i k)=>if Jf st.hp (.lp id i k)then some (True,.lp id i k,st)else none
    | _=>none
  | .fadP off x=>match ev Γ st.env x with
    | some (.lp id i k)=>if Jf st.hp (.lp id i k)then some (True,.lp id i (k+off),st)else none
    | _=>none
  | .ldP n x=>match ev Γ st.env x with
    | some (.lp id i k)=>match A2 st.hp id with
      | some (.bx cs)=>if Jf st.hp (((cs.drop k).take n).headD .dead)then some (i=0/\k+n<=cs.length,((cs.drop k).take n).headD .dead,st)else none
      | _=>none
    | _=>none
  | .hcall _ _ _ _=>none
  | .hcallv _ _ _ _=>none
  | .hcallW _ _ _=>none
  | .hcallvW _ _ _=>none
  | .hcallB _ _ _=>none
  | .ncall _ _ _=>none
  | .callT _ _=>none
  | .rcall _ _ _=>none
  | .call _ _=>none
  | .callv _ _=>none
def qHO (a b:ByteArray):Bool:=a.data.toList==b.data.toList
def qBG:Value->Value->Bool
 | .bool a,.bool b=>a==b
 | .int k a,.int j b=>decide (k=j)&&decide (a=b)
 | .string a,.string b=>qHO a b
 | .slice none 0 0,.slice none 0 0=>true
 | .map none,.map none=>true
 | .pointer none,.pointer none=>true
 | .nilFunc,.nilFunc=>true
 | .nilIface,.nilIface=>true
 | _,_=>false
def Nb:List Value->List Value->Bool
 | [],[]=>true
 | a::as,b::bs=>qBG a b&&Nb as bs
 | _,_=>false
def qCI:Value->Value->Bool
 | .agg a,.agg b=>Nb a.toList b.toList
 | a,b=>qBG a b
def Av:Operand->Operand->Bool
 | .tmp a,.tmp b=>a==b
 | .global a,.global b=>a==b
 | .func a,.func b=>a==b
 | .const a,.const b=>qCI a b
 | _,_=>false
def Mc:List Operand->List Operand->Bool
 | [],[]=>true
 | a::as,b::bs=>Av a b&&Mc as bs
 | _,_=>false
def q8R:Option Operand->Option Operand->Bool
 | none,none=>true
 | some a,some b=>Av a b
 | _,_=>false
theorem qFK {a b:ByteArray} (h:qHO a b=true):a=b:=by
 cases a;cases b
 simp only[qHO,beq_iff_eq]at h
 congr 1
 exact Array.toList_inj.1 h
theorem q8S {a b:Value} (h:qBG a b=true):a=b:=by
 unfold qBG at h
 split at h<;>first
  | rfl
  | (simp only[beq_iff_eq]at h;rw[h])
  | (simp only[Bool.and_eq_true,decide_eq_true_eq]at h;rw[h.1,h.2])
  | (rw[qFK h])
  | (cases h)
theorem K3 {a b:List Value} (h:Nb a b=true):a=b:=by
 induction a generalizing b with
 | nil=>cases b<;>first|rfl|cases h
 | cons x a ih =>
  cases b with
  | nil=>cases h
  | cons y b=>simp only[Nb,Bool.and_eq_true]at h;rw[q8S h.1,ih h.2]
theorem q7n {a b:Value} (h:qCI a b=true):a=b:=by
 unfold qCI at h
 split at h
 ·rename_i x y;congr 1;exact Array.toList_inj.1 (K3 h)
 ·exact q8S h
theorem A8 {a b:Operand} (h:Av a b=true):a=b:=by
 unfold Av at h
 split at h<;>first
  | (simp only[beq_iff_eq]at h;rw[h])
  | (rw[q7n h])
  | cases h
theorem Ib {a b:List Operand} (h:Mc a b=true):a=b:=by
 induction a generalizing b with
 | nil=>cases b<;>first|rfl|cases h
 | cons x a ih =>
  cases b with
  | nil=>cases h
  | cons y b=>simp only[Mc,Bool.and_eq_true]at h;rw[A8 h.1,ih h.2]
theorem q4r {a b:Option Operand} (h:q8R a b=true):a=b:=by
 unfold q8R at h
 split at h<;>first|rfl|(rw[A8 h])|cases h
def Re:Value->Bool
 | .agg cs=>cs.toList.all Value.oneCell'
 | _=>true
def A9:Operand->Bool
 | .const v=>Re v
 | _=>true
variable (P:Program)
def Ic (t:TypeId):Option Nat:=(P.info? t).map (·.size)
def Vx (t:TypeId):Option Bool:=match P.underlying t with
 | some (.struct _)|some (.array _ _)=>some true
 | some _=>some false
 | none=>none
def Ub (t:TypeId):Option TypeId:=match P.underlying t with
 | some (.slice e)=>some e
 | _=>none
def arO (t:TypeId):Option (Nat×TypeId):=match P.underlying t with
 | some (.array n e)=>some (n,e)
 | _=>none
def Br (t:TypeId):Option (List Value):=((P.info? t).bind (·.zero)).map fun z=>z.cells.toList
def byO (t:TypeId):Option Nat:=(P.info? t).map (·.bytes)
def q6P (t:TypeId):Option IntKind:=match P.underlying t with
 | some (.int k)=>some k
 | _=>none
def q0l (t:TypeId):Option (TypeId×TypeId):=match P.underlying t with
 | some (.map k e)=>some (k,e)
 | _=>none
def ktB (kt:KT) (t:TypeId):Bool:=match kt,P.underlying t with
 | .int k,some (.int j)=>decide (j=k)
 | .str,some .string=>true
 | .bl,some .bool=>true
 | _,_=>false
def q0m (t:TypeId):Bool:=match P.underlying t with
 | some .string=>true
 | _=>false
def Hi (vs:List Value):Bool:=vs.all Value.oneCell'
def q4i (t:TypeId):Option (List (Nat×Nat)):=match P.underlying t with
 | some (.struct fs)=>Ac (fs.toList.map fun f=>(Ic P f.type).map fun s=>(f.offset,s))
 | _=>none
def qHP (t:TypeId):Bool:=match P.underlying t with
 | some (.array _ e)=>(P.info? e).isSome
 | _=>false
def q3x:List Field->Nat->Nat->Bool
 | [],off,n=>off==n
 | f::fs,off,n=>f.offset==off&&q3x fs (off+P.cellsOf f.type) n
def q25:Nat->TypeId->List (Option IntKind)->Bool
 | 0,_,_=>false
 | d+1,t,ks=>match P.underlying t with
  | some .bool=>decide (ks=[none])
  | some (.int q)=>decide (ks=[some q])
  | some (.array n e)=>ks.length==P.cellsOf t&&ks.length==n*P.cellsOf e&&(List.range n).all fun i=>q25 d e ((ks.drop (i*P.cellsOf e)).take (P.cellsOf e))
  | some (.struct fs)=>ks.length==P.cellsOf t&&fs.all (·.name != "_")&&q3x P fs.toList 0 ks.length&&fs.toList.all fun f=>q25 d f.type ((ks.drop f.offset).take (P.cellsOf f.type))
  | _=>false
def Qe:Nat->Nat->List (Nat×Nat)->List Value->List (Nat×Operand)->List (Nat×Operand)->Bool
 | _,_,[],zs,ps,qs=>zs.isEmpty&&ps.isEmpty&&qs.isEmpty
 | j,off,(o,s)::fs,zs,ps,(s',x)::qs =>
  o==off&&s==s' && decide (s<=zs.length) &&
  (match ps with
  | (i,y)::ps' =>
   if i==j then Av x y&&Qe (j+1) (off+s) fs (zs.drop s) ps' qs
   else(match x with | .const v=>Nb v.cells.toList (zs.take s)|_=>false)&&Qe (j+1) (off+s) fs (zs.drop s) ps qs
  | []=>(match x with | .const v=>Nb v.cells.toList (zs.take s)|_=>false)&&Qe (j+1) (off+s) fs (zs.drop s) [] qs)
 | _,_,_::_,_,_,[]=>false
def K4:Nat->List (Nat×Operand)->List Operand->Bool
 | _,[],[]=>true
 | j,(i,y)::ps,x::xs=>i==j&&Av x y&&K4 (j+1) ps xs
 | _,_,_=>false
def qHQ (t:TypeId) (ps:List (Nat×Operand)) (zs:List Value) (qs:List (Nat×Operand)):Bool:=match P.underlying t with
 | some (.array _ e)=>(match Ic P e with|some s=>K4 0 ps (qs.map (·.2))&&qs.all (fun q=>q.1==s)&&zs.length==qs.length*s|none=>false)
 | _=>false
def Iy (io:B6) (o:Op):Bool :=
 match io with
 | .mv x=>match o with
  | .move y | .assign y=>Av x y
  | _=>false
 | .pick c a b=>match o with
  | .pick c' a' b'=>Av c c' && Av a a' && Av b b'
  | _=>false
 | .alloc _ zs=>match o with
  | .alloc t=>(match Br P t with|some z=>Nb z zs|none=>false)&&Hi zs
  | _=>false
 | .allocR ty zs=>match o with
  | .alloc t=>(match Br P t with|some z=>Nb z zs|none=>false)&&Hi zs&&t==ty
  | _=>false
 | .box _ x=>match o with
  | .box _ y=>Av x y
  | _=>false
 | .build qs=>match o with
  | .build t ps=>match q4i P t,Br P t with
   | some fs,some zs=>Qe 0 0 fs zs ps.toList qs
   | none,some zs=>(ps.isEmpty&&qHP P t&&Qe 0 0 [(0,zs.length)] zs [] qs)||qHQ P t ps.toList zs qs
   | _,_=>false
  | _=>false
 | .bsl _ ty s xs=>match o with
  | .buildSlice t n ps=>Ub P t==some ty&&Ic P ty==some s&&decide (0<s)&&n==xs.length&&K4 0 ps.toList xs&&(Br P ty).isSome&&decide (n*s<=16777216) &&
   (match Br P ty with|some z=>z.length==s|none=>false)
  | _=>false
 | .bslA ty s xs=>match o with
  | .buildSlice t n ps=>Ub P t==some ty&&Ic P ty==some s&&decide (0<s)&&n==xs.length&&K4 0 ps.toList xs&&(Br P ty).isSome&&decide (n*s<=16777216) &&
   (match Br P ty with|some z=>z.length==s|none=>false)
  | _=>false
 | .appA ty s b x=>match o with
  | .call c=>(match c.callee,c.args.toList,c.argTypes.toList with
   | .builtin .append,[b',x'],[t,t']=>Av b b' && Av x x' && t==t' && Ub P t==some ty&&Ic P ty==some s&&decide (0<s) &&
    (match Br P ty with|some z=>z.length==s|none=>false)&&(match byO P ty with|some n=>decide (n<=65536)|none=>false)
   | _,_,_=>false)
  | _=>false
 | .load n g a=>match o with
  | .load t b=>Av a b&&Ic P t==some n&&Vx P t==some g&&(g||n==1)
  | _=>false
 | .store n a x=>match o with
  | .store t b y=>Av a b&&Av x y&&Ic P t==some n
  | _=>false
 | .fadr off a=>match o with
  | .fieldAddr t b i=>Av a b&&(match P.underlying t with
   | some (.struct fs)=>match fs[i]? with
    | some f=>f.offset==off&&(match Ic P f.type with|some s=>decide (0<s)|none=>false)
    | none=>false
   | _=>false)
  | _=>false
 | .fld off n g x=>match o with
  | .field t y i=>Av x y&&(match P.underlying t with
   | some (.struct fs)=>match fs[i]? with
    | some f=>f.offset==off&&Ic P f.type==some n&&Vx P f.type==some g&&(g||n==1)
    | none=>false
   | _=>false)
  | _=>false
 | .iadr s x i=>match o with
  | .indexAddr t y j=>Av x y&&Av i j&&(match Ub P t with|some e=>Ic P e==some s|none=>false)
  | _=>false
 | .iaR _ s x i=>match o with
  | .indexAddr t y j=>Av x y&&Av i j&&(match Ub P t with|some e=>Ic P e==some s|none=>false)
  | _=>false
 | .stF _ _ a x=>match o with
  | .store t b y=>Av a b&&Av x y&&Ic P t==some 1
  | _=>false
 | .iadT s x i=>match o with
  | .indexAddr t y j=>Av x y&&Av i j&&(match Ub P t with|some e=>Ic P e==some s|none=>false)
  | _=>false
 | .iadrA len s x i=>match o with
  | .indexAddr t y j=>Av x y&&Av i j&&(match arO P t with|some (n,e)=>n==len&&Ic P e==some s|none=>false)
  | _=>false
 | .idxS x i=>match o with
  | .index t y j=>Av x y&&Av i j&&q0m P t
  | _=>false
 | .idxA len s g x i=>match o with
  | .index t y j=>Av x y&&Av i j&&(match arO P t with|some (n,e)=>n==len&&Ic P e==some s&&Vx P e==some g&&(g||s==1)|none=>false)
  | _=>false
 | .bin op x y=>match o with
  | .binOp op' _ x' y' _=>decide (op=op')&&Av x x' && Av y y'
  | _=>false
 | .isNil pos x=>match o with
  | .binOp op t x' y' _=>decide (op=if pos then .eql else .neq)&&(Ub P t).isSome&&((Av x x' && Av (.const (.slice none 0 0)) y')||(Av x y' && Av (.const (.slice none 0 0)) x'))
  | _=>false
 | .eqg pos ks x y=>match o with
  | .binOp op t x' y' _=>decide (op=if pos then .eql else .neq)&&(match P.underlying t with|some (.array _ _)|some (.struct _)=>true|_=>false)&&P.keyTypeAt 20 t&&q25 P 20 t ks && !(P.eqGuardType P.depth t)&&Av x x' && Av y y'
  | _=>false
 | .eqb pos x y=>match o with
  | .binOp op t x' y' _=>decide (op=if pos then .eql else .neq)&&(match P.underlying t with|some .bool=>true|_=>false)&&Av x x' && Av y y'
  | _=>false
 | .un op x=>match o with
  | .unOp op' _ y=>decide (op=op')&&Av x y
  | _=>false
 | .conv k x=>match o with
  | .convert src dst y=>Av x y&&(P.underlying src).isSome&&q6P P dst==some k
  | _=>false
 | .bytesStr x=>match o with
  | .convert src dst y=>Av x y&&(match Ub P src with|some e=>q6P P e==some .u8|none=>false)&&q0m P dst
  | _=>false
 | .runeStr x=>match o with
  | .convert src dst y=>Av x y&&(q6P P src).isSome&&q0m P dst
  | _=>false
 | .len k x=>match o with
  | .call c=>(match c.callee,c.args.toList,c.argTypes.toList with
   | .builtin .len,[y],[t]=>Av x y&&(match k with|0=>(Ub P t).isSome|1=>q0m P t|2=>(q0l P t).isSome|_=>false)
   | _,_,_=>false)
  | _=>false
 | .cap x=>match o with
  | .call c=>(match c.callee,c.args.toList,c.argTypes.toList with
   | .builtin .cap,[y],[t]=>Av x y&&(Ub P t).isSome
   | _,_,_=>false)
  | _=>false
 | .mmx mx xs=>match o with
  | .call c=>(match c.callee with
   | .builtin .max=>mx&&Mc xs c.args.toList
   | .builtin .min=>!mx&&Mc xs c.args.toList
   | _=>false)
  | _=>false
 | .app _ ty s b x=>match o with
  | .call c=>(match c.callee,c.args.toList,c.argTypes.toList with
   | .builtin .append,[b',x'],[t,t']=>Av b b' && Av x x' && t==t' && Ub P t==some ty&&Ic P ty==some s&&decide (0<s) &&
    (match Br P ty with|some z=>z.length==s|none=>false)&&(match byO P ty with|some n=>decide (n<=65536)|none=>false)
   | _,_,_=>false)
  | _=>false
 | .appS ty b x=>match o with
  | .call c=>(match c.callee,c.args.toList,c.argTypes.toList with
   | .builtin .append,[b',x'],[t,u]=>Av b b' && Av x x' && q0m P u&&Ub P t==some ty&&Ic P ty==some 1 &&
    (match Br P ty with|some z=>z.length==1|none=>false)&&(match byO P ty with|some n=>decide (n<=1)|none=>false)
   | _,_,_=>false)
  | _=>false
 | .appN ty s x=>match o with
  | .call c=>(match c.callee,c.args.toList,c.argTypes.toList with
   | .builtin .append,[b',x'],[t,t']=>Av (.const (.slice none 0 0)) b' && Av x x' && t==t' && Ub P t==some ty&&Ic P ty==some s&&decide (0<s) &&
    (match Br P ty with|some z=>z.length==s|none=>false)&&(match byO P ty with|some n=>decide (n<=65536)|none=>false)
   | _,_,_=>false)
  | _=>false
 | .mvP x=>match o with
  | .move y | .assign y=>Av x y
  | _=>false
 | .nckP x=>match o with
  | .nilCheck y=>Av x y
  | _=>false
 | .fadP off a=>match o with
  | .fieldAddr t b i=>Av a b&&(match P.underlying t with
   | some (.struct fs)=>match fs[i]? with
    | some f=>f.offset==off&&(match Ic P f.type with|some s=>decide (0<s)|none=>false)
    | none=>false
   | _=>false)
  | _=>false
 | .ldP n a=>match o with
  | .load t b=>Av a b&&Ic P t==some n&&Vx P t==some false&&(false||n==1)
  | _=>false
 | .appT ty s b x=>match o with
  | .call c=>(match c.callee,c.args.toList,c.argTypes.toList with
   | .builtin .append,[b',x'],[t,t']=>Av b b' && Av x x' && t==t' && Ub P t==some ty&&Ic P ty==some s&&decide (0<s) &&
    (match Br P ty with|some z=>z.length==s|none=>false)&&(match byO P ty with|some n=>decide (n<=65536)|none=>false)
   | _,_,_=>false)
  | _=>false
 | .appB b x=>match o with
  | .call c=>(match c.callee,c.args.toList,c.argTypes.toList with
   | .builtin .append,[b',x'],[t,t']=>Av b b' && Av x x' && t==t' && (match Ub P t with
    | some ty=>Ic P ty==some 1&&(match Br P ty with|some z=>z.length==1|none=>false)&&(match byO P ty with|some n=>decide (n<=1)|none=>false)
    | none=>false)
   | _,_,_=>false)
  | _=>false
 | .appR _ _ ty b x=>match o with
  | .call c=>(match c.callee,c.args.toList,c.argTypes.toList with
   | .builtin .append,[b',x'],[t,t']=>Av b b' && Av x x' && t==t' && Ub P t==some ty&&Ic P ty==some 1&&(match Br P ty with|some z=>z.length==1|none=>false)&&(match byO P ty with|some n=>decide (n<=1)|none=>false)
   | _,_,_=>false)
  | _=>false
 | .appZ ty s zs b n=>match o with
  | .call c=>(match c.callee,c.args.toList,c.argTypes.toList with
   | .builtin .append,[b',n'],[t,t']=>Av b b' && Av n n' && Ub P t==some ty&&Ic P ty==some s&&decide (0<s)&&(match Br P ty with|some z=>Nb z zs&&z.length==s|none=>false)&&Hi zs &&
    (match byO P ty with|some n=>decide (n<=65536)|none=>false)&&(q6P P t').isSome
   | _,_,_=>false)
  | _=>false
 | .cpy s x y=>match o with
  | .call c=>(match c.callee,c.args.toList,c.argTypes.toList with
   | .builtin .copy,[x',y'],[t,_]=>Av x x' && Av y y' && (match Ub P t with|some ty=>Ic P ty==some s|none=>false)&&decide (0<s)
   | _,_,_=>false)
  | _=>false
 | .clr s zs x=>match o with
  | .call c=>(match c.callee,c.args.toList,c.argTypes.toList with
   | .builtin .clear,[x'],[t]=>Av x x' && (match Ub P t with|some ty=>Ic P ty==some s&&(match Br P ty with|some z=>Nb z zs&&z.length==s|none=>false)|none=>false)&&decide (0<s)&&Hi zs
   | _,_,_=>false)
  | _=>false
 | .slice s x lo hi mx=>match o with
  | .slice t x' lo' hi' mx'=>Av x x' && q8R lo lo' && q8R hi hi' && q8R mx mx' && (mx.isNone||hi.isSome)&&(if s==0 then q0m P t&&mx.isNone else match Ub P t with|some e=>Ic P e==some s|none=>false)
  | _=>false
 | .mk ty s zs l c=>match o with
  | .makeSlice t l' c'=>Av l l' && Av c c' && Ub P t==some ty&&Ic P ty==some s&&decide (0<s)&&(match Br P ty with|some z=>Nb z zs&&z.length==s|none=>false)&&Hi zs &&
   (match byO P ty with|some n=>decide (n<=65536)|none=>false)
  | _=>false
 | .mkE ty s zs l c=>match o with
  | .makeSlice t l' c'=>Av l l' && Av c c' && Ub P t==some ty&&Ic P ty==some s&&decide (0<s)&&(match Br P ty with|some z=>Nb z zs&&z.length==s|none=>false)&&Hi zs &&
   (match byO P ty with|some n=>decide (n<=65536)|none=>false)
  | _=>false
 | .mkf f xs=>match o with
  | .makeFunc (.func f') first caps=>f==f' && first.isEmpty&&Mc xs caps.toList&&decide (f<1000000000)
  | _=>false
 | .mkfB f xs=>match o with
  | .makeFunc (.func f') first caps=>f==f' && caps.isEmpty&&Mc xs first.toList
  | _=>false
 | .hcallB x xs _=>match o with
  | .call c=>(match c.callee with
   | .value y=>Av x y&&Mc xs c.args.toList
   | _=>false)
  | _=>false
 | .ext x i=>match o with
  | .extract y j=>Av x y&&i==j
  | _=>false
 | .nck x=>match o with
  | .nilCheck y=>Av x y
  | _=>false
 | .mkmap=>match o with
  | .makeMap t r=>r.isNone&&(q0l P t).isSome
  | _=>false
 | .mkB ty zs l c=>match o with
  | .makeSlice t l' c'=>Av l l' && Av c c' && Ub P t==some ty&&Ic P ty==some 1&&(match Br P ty with|some z=>Nb z zs&&z.length==1|none=>false)&&Hi zs &&
   (match byO P ty with|some n=>decide (n<=65536)|none=>false)
  | _=>false
 | .rng x=>match o with
  | .range t y=>Av x y&&q0m P t
  | _=>false
 | .nxt x=>match o with
  | .next y isS=>Av x y&&isS
  | _=>false
 | .lkup kt zv ok m k=>match o with
  | .lookup t m' k' ok'=>Av m m' && Av k k' && ok==ok' && (match q0l P t with|some (q,e)=>ktB P kt q&&(match (P.info? e).bind (·.zero) with|some z=>qCI z zv|none=>false)&&Re zv|none=>false)
  | _=>false
 | .mup kt m k x=>match o with
  | .mapUpdate t m' k' x'=>Av m m' && Av k k' && Av x x' && (match q0l P t with|some (q,_)=>ktB P kt q|none=>false)
  | _=>false
 | .lkupA kt zv m k=>match o with
  | .lookup t m' k' ok'=>Av m m' && Av k k' && !ok' && (match q0l P t with|some (q,e)=>ktB P kt q&&(match (P.info? e).bind (·.zero) with|some z=>qCI z zv|none=>false)&&Re zv|none=>false)
  | _=>false
 | .mupA kt m k x=>match o with
  | .mapUpdate t m' k' x'=>Av m m' && Av k k' && Av x x' && (match q0l P t with|some (q,_)=>ktB P kt q|none=>false)
  | _=>false
 | .mdel kt m k=>match o with
  | .call c=>(match c.callee,c.args.toList,c.argTypes.toList with
   | .builtin .delete,[m',k'],[t,_]=>Av m m' && Av k k' && (match q0l P t with|some (q,_)=>ktB P kt q|none=>false)
   | _,_,_=>false)
  | _=>false
 | .isNilP pos x=>match o with
  | .binOp op t p q _=>decide (op=if pos then .eql else .neq)&&((Av x p&&Av (.const (.pointer none)) q)||(Av x q&&Av (.const (.pointer none)) p))&&(match P.underlying t with|some (.pointer _)=>true|_=>false)
  | _=>false
 | .isNilI pos x=>match o with
  | .binOp op t p q _=>decide (op=if pos then .eql else .neq)&&((Av x p&&Av (.const .nilIface) q)||(Av x q&&Av (.const .nilIface) p))&&(match P.underlying t with|some (.interface _)=>true|_=>false)
  | _=>false
 | .ldR _ n g a=>match o with
  | .load t b=>Av a b&&Ic P t==some n&&Vx P t==some g&&(g||n==1)
  | _=>false
 | .stR _ n a x=>match o with
  | .store t b y=>Av a b&&Av x y&&Ic P t==some n
  | _=>false
 | .ldT n g a=>match o with
  | .load t b=>Av a b&&Ic P t==some n&&Vx P t==some g&&(g||n==1)
  | _=>false
 | .lkT kt zv ok m k=>match o with
  | .lookup t m' k' ok'=>Av m m' && Av k k' && ok==ok' && (match q0l P t with|some (q,e)=>ktB P kt q&&(match (P.info? e).bind (·.zero) with|some z=>qCI z zv|none=>false)&&Re zv|none=>false)
  | _=>false
 | .hcall f xs _ _=>match o with
  | .call c=>(match c.callee with
   | .value (.func f')=>f==f' && Mc xs c.args.toList
   | _=>false)
  | _=>false
 | .hcallW f xs _=>match o with
  | .call c=>(match c.callee with
   | .value (.func f')=>f==f' && Mc xs c.args.toList
   | _=>false)
  | _=>false
 | .ncall f xs _=>match o with
  | .call c=>(match c.callee with
   | .value (.func f')=>f==f' && Mc xs c.args.toList
   | _=>false)
  | _=>false
 | .callT f xs=>match o with
  | .call c=>(match c.callee with
   | .value (.func f')=>f==f' && Mc xs c.args.toList
   | _=>false)
  | _=>false
 | .rcall f xs _=>match o with
  | .call c=>(match c.callee with
   | .value (.func f')=>f==f' && Mc xs c.args.toList
   | _=>false)
  | _=>false
 | .call f xs=>match o with
  | .call c=>(match c.callee with
   | .value (.func f')=>f==f' && Mc xs c.args.toList
   | _=>false)
  | _=>false
 | .hcallv x xs _ _=>match o with
  | .call c=>(match c.callee with
   | .value y=>Av x y&&Mc xs c.args.toList
   | _=>false)
  | _=>false
 | .hcallvW x xs _=>match o with
  | .call c=>(match c.callee with
   | .value y=>Av x y&&Mc xs c.args.toList
   | _=>false)
  | _=>false
 | .callv x xs=>match o with
  | .call c=>(match c.callee with
   | .value y=>Av x y&&Mc xs c.args.toList
   | _=>false)
  | _=>false
def B6.opds:B6->List Operand
 | .mv x | .box _ x | .load _ _ x | .ldR _ _ _ x | .ldT _ _ x | .fadr _ x | .fld _ _ _ x | .un _ x | .conv _ x | .bytesStr x | .runeStr x | .len _ x | .cap x | .isNil _ x | .ext x _ | .nck x | .rng x | .nxt x | .clr _ _ x | .appN _ _ x | .isNilP _ x | .isNilI _ x | .mvP x | .nckP x | .fadP _ x | .ldP _ x=>[x]
 | .pick c a b=>[c,a,b]
 | .alloc _ _ | .allocR _ _ | .mkmap=>[]
 | .build ps=>ps.map (·.2)
 | .bsl _ _ _ xs | .bslA _ _ xs | .mmx _ xs | .mkf _ xs | .mkfB _ xs | .call _ xs | .hcall _ xs _ _ | .hcallW _ xs _ | .ncall _ xs _ | .callT _ xs | .rcall _ xs _=>xs
 | .callv x xs | .hcallv x xs _ _ | .hcallvW x xs _ | .hcallB x xs _=>x::xs
 | .store _ a x | .stR _ _ a x | .iaR _ _ a x | .stF _ _ a x | .iadr _ a x | .iadT _ a x | .iadrA _ _ a x | .idxS a x | .idxA _ _ _ a x | .bin _ a x | .eqb _ a x | .eqg _ _ a x | .app _ _ _ a x | .appA _ _ a x | .appS _ a x | .appT _ _ a x | .appB a x | .appR _ _ _ a x | .cpy _ a x | .appZ _ _ _ a x | .lkup _ _ _ a x | .lkT _ _ _ a x | .mk _ _ _ a x | .mkE _ _ _ a x | .mkB _ _ a x=>[a,x]
 | .slice _ x lo hi mx=>[x]++lo.toList++hi.toList++mx.toList
 | .mup _ m k x | .mupA _ m k x=>[m,k,x]
 | .lkupA _ _ m k | .mdel _ m k=>[m,k]
end Go.Lg
namespace Go.Lg
open Go
def Gf (w:World) (X:Nat->Prop) (μ:Be) (sh:Nat->Option Sh) (as:List AV) (xs:List Value):Prop:=as.length=xs.length/\∀ (k:Nat) (a:AV) (x:Value),as[k]? = some a->xs[k]? = some x->AR w X μ sh a x
section
variable {w:World} {X:Nat->Prop} {μ:Be} {sh:Nat->Option Sh}
theorem Gf.nil:Gf w X μ sh [] []:=⟨rfl,fun k a x h=>by simp at h⟩
theorem Gf.cons {a:AV} {x:Value} {as:List AV} {xs:List Value} (h:AR w X μ sh a x) (hs:Gf w X μ sh as xs):Gf w X μ sh (a::as) (x::xs) :=
 ⟨by simp[hs.1],fun k a' x' ha hx=>by
  cases k with
  | zero=>simp at ha hx;subst ha;subst hx;exact h
  | succ k=>simp at ha hx;exact hs.2 k a' x' ha hx⟩
theorem Gf.cons_inv {a:AV} {as:List AV} {xs:List Value} (h:Gf w X μ sh (a::as) xs):∃ x ys,xs=x::ys/\AR w X μ sh a x/\Gf w X μ sh as ys:=by
 cases xs with
 | nil=>exact absurd h.1 (by simp)
 | cons x ys=>exact⟨x,ys,rfl,h.2 0 a x rfl rfl,by have:=h.1;simpa using this,fun k a' x' ha hx=>h.2 (k+1) a' x' (by simpa using ha) (by simpa using hx)⟩
theorem Gf.nil_inv {xs:List Value} (h:Gf w X μ sh [] xs):xs=[]:=List.eq_nil_of_length_eq_zero h.1.symm
theorem Gf.get {as:List AV} {xs:List Value} (h:Gf w X μ sh as xs) {k:Nat} {a:AV} (ha:as[k]? = some a):∃ x,xs[k]? = some x/\AR w X μ sh a x:=by
 have hk:k<xs.length:=by rw[<- h.1];exact(List.getElem?_eq_some_iff.1 ha).1
 exact⟨xs[k],by simp[hk],h.2 k a _ ha (by simp[hk])⟩
theorem Gf.drop {as:List AV} {xs:List Value} (h:Gf w X μ sh as xs) (n:Nat):Gf w X μ sh (as.drop n) (xs.drop n) :=
 ⟨by simp[h.1],fun k t x ht hx=>h.2 (n+k) t x (by simpa using ht) (by simpa using hx)⟩
theorem Gf.take {as:List AV} {xs:List Value} (h:Gf w X μ sh as xs) (n:Nat):Gf w X μ sh (as.take n) (xs.take n):=by
 refine⟨by simp[h.1],fun k t x ht hx=>?_⟩
 rw[List.getElem?_take]at ht hx
 split at ht
 ·rename_i hk;rw[if_pos hk]at hx;exact h.2 k t x ht hx
 ·cases ht
theorem Gf.append {as bs:List AV} {xs ys:List Value} (h:Gf w X μ sh as xs) (g:Gf w X μ sh bs ys):Gf w X μ sh (as++bs) (xs++ys):=by
 induction as generalizing xs with
 | nil=>rw[h.nil_inv];simpa using g
 | cons t cs ih =>
  obtain⟨x,zs,rfl,hx,hz⟩:=h.cons_inv
  exact Gf.cons hx (ih hz)
theorem Gf.ones {as:List AV} {xs:List Value} (h:Gf w X μ sh as xs) (h1:Aw as=true):∀ x∈xs,x.oneCell'=true:=by
 intro x hx
 obtain⟨k,hk,rfl⟩:=List.getElem_of_mem hx
 have hk':k<as.length:=by rw[h.1];exact hk
 exact(h.2 k as[k] xs[k] (by simp[hk']) (by simp[hk])).one (List.all_eq_true.1 h1 _ (List.getElem_mem hk'))
theorem Ds.ones {ts:List T} {xs:List Value} (h:Ds w X ts xs) (h1:Bi ts=true):∀ x∈xs,x.oneCell'=true:=by
 intro x hx
 obtain⟨k,hk,rfl⟩:=List.getElem_of_mem hx
 have hk':k<ts.length:=by rw[h.1];exact hk
 exact(h.2 k ts[k] xs[k] (by simp[hk']) (by simp[hk])).one (List.all_eq_true.1 h1 _ (List.getElem_mem hk'))
theorem Gf.ofT {ts:List T} {xs:List Value} (h:Ds w X ts xs):Gf w X μ sh (ts.map .t) xs :=
 ⟨by simp[h.1],fun k a x ha hx=>by
  simp only[List.getElem?_map,Option.map_eq_some_iff]at ha
  obtain⟨t,ht,rfl⟩:=ha
  exact .t t x (h.2 k t x ht hx)⟩
theorem qCJ {x:Value} (h:x.oneCell'=true):x.cells=#[x]:=by cases x<;>first|rfl|simp[Value.oneCell']at h
theorem AR.t_inv {t:T} {x:Value} (h:AR w X μ sh (.t t) x):TR w X t x:=by cases h;assumption
theorem TR.v_inv {v x:Value} (h:TR w X (.v v) x):x=v:=by cases h;rfl
theorem TR.agg_inv {cs:List T} {x:Value} (h:TR w X (.agg cs) x):∃ xs:List Value,x=.agg xs.toArray/\Bi cs=true/\Ds w X cs xs:=by
 cases h with
 | agg cs xs hlen hone hrel =>
  refine⟨xs,rfl,List.all_eq_true.2 fun t ht=>?_,hlen,hrel⟩
  obtain⟨k,hk,rfl⟩:=List.getElem_of_mem ht
  exact hone k _ (by simp[hk])
theorem TR.tup_inv {cs:List T} {x:Value} (h:TR w X (.tup cs) x):∃ xs:List Value,x=.tuple xs.toArray/\Ds w X cs xs:=by
 cases h with
 | tup cs xs hlen hrel=>exact⟨xs,rfl,hlen,hrel⟩
theorem AR.ag_inv {cs:List AV} {x:Value} (h:AR w X μ sh (.ag cs) x):∃ xs:List Value,x=.agg xs.toArray/\Aw cs=true/\Gf w X μ sh cs xs:=by
 cases h with
 | ag cs xs hlen hone hrel =>
  refine⟨xs,rfl,List.all_eq_true.2 fun t ht=>?_,hlen,hrel⟩
  obtain⟨k,hk,rfl⟩:=List.getElem_of_mem ht
  exact hone k _ (by simp[hk])
theorem q26 {ts:List T} (h:Bi ts=true) {k:Nat} {t:T} (ht:ts[k]? = some t):t.one=true:=by
 obtain⟨hk,rfl⟩:=List.getElem?_eq_some_iff.1 ht
 exact List.all_eq_true.1 h _ (List.getElem_mem hk)
theorem K5 {ts:List AV} (h:Aw ts=true) {k:Nat} {t:AV} (ht:ts[k]? = some t):t.one=true:=by
 obtain⟨hk,rfl⟩:=List.getElem?_eq_some_iff.1 ht
 exact List.all_eq_true.1 h _ (List.getElem_mem hk)
theorem TR.mk_agg {cs:List T} {xs:List Value} (h1:Bi cs=true) (h:Ds w X cs xs):TR w X (.agg cs) (.agg xs.toArray):=.agg cs xs h.1 (fun _ _ ht=>q26 h1 ht) h.2
theorem AR.tu_inv {cs:List AV} {x:Value} (h:AR w X μ sh (.tu cs) x):∃ xs:List Value,x=.tuple xs.toArray/\(∀ (k:Nat) (a:AV),cs[k]? = some a->I9 a=true)/\Gf w X μ sh cs xs:=by
 cases h with
 | tu cs xs hlen hna hrel=>exact⟨xs,rfl,hna,hlen,hrel⟩
theorem AR.mk_tu {cs:List AV} {xs:List Value} (h1:∀ (k:Nat) (a:AV),cs[k]? = some a->I9 a=true) (h:Gf w X μ sh cs xs):AR w X μ sh (.tu cs) (.tuple xs.toArray):=.tu cs xs h.1 h1 h.2
theorem AR.mk_ag {cs:List AV} {xs:List Value} (h1:Aw cs=true) (h:Gf w X μ sh cs xs):AR w X μ sh (.ag cs) (.agg xs.toArray):=.ag cs xs h.1 (fun _ _ ht=>K5 h1 ht) h.2
theorem TR.mk_tup {cs:List T} {xs:List Value} (h:Ds w X cs xs):TR w X (.tup cs) (.tuple xs.toArray):=.tup cs xs h.1 h.2
theorem AR.cells {a:AV} {x:Value} (h:AR w X μ sh a x) (h1:Aw a.cells=true):Gf w X μ sh a.cells x.cells.toList:=by
 have one:∀ {b:AV},b.one=true->AR w X μ sh b x->Gf w X μ sh [b] x.cells.toList:=fun hb hx=>by
  rw[qCJ (hx.one hb)];exact Gf.cons hx Gf.nil
 have h1':∀ {b:AV},Aw [b]=true->b.one=true:=fun hb=>by simpa[Aw]using hb
 cases a with
 | t x' =>
  cases x' with
  | agg ts =>
   obtain⟨xs,rfl,_,hr⟩:=h.t_inv.agg_inv
   simpa[AV.cells,Value.cells]using Gf.ofT hr
  | _=>exact one (h1' h1) h
 | ag cs =>
  obtain⟨xs,rfl,_,hr⟩:=h.ag_inv
  simpa[AV.cells,Value.cells]using hr
 | _=>exact one (h1' h1) h
theorem Oy {α:Type} {l:List (Option α)} {r:List α} (h:Ac l=some r):l=r.map some:=by
 induction l generalizing r with
 | nil=>simp only[Ac,Option.some.injEq]at h;subst h;rfl
 | cons o l ih =>
  cases o with
  | none=>simp[Ac]at h
  | some a =>
   simp only[Ac,Option.map_eq_some_iff]at h
   obtain⟨r',h',rfl⟩:=h
   rw[ih h'];rfl
theorem Vy {as:List AV} {ts:List T} (h:Iq as=some ts):as=ts.map .t:=by
 unfold Iq at h
 have:=Oy h
 clear h
 induction as generalizing ts with
 | nil=>cases ts with
  | nil=>rfl
  | cons t ts=>simp at this
 | cons a as ih =>
  cases ts with
  | nil=>simp at this
  | cons t ts =>
   simp only[List.map_cons,List.cons.injEq]at this
   obtain⟨h1,h2⟩:=this
   cases a<;>simp only[Xj,Option.some.injEq,reduceCtorEq]at h1
   subst h1
   rw[ih h2];rfl
theorem Gf.toT {as:List AV} {ts:List T} {xs:List Value} (h:Gf w X μ sh as xs) (ht:Iq as=some ts):Ds w X ts xs:=by
 rw[Vy ht]at h
 exact⟨by simpa using h.1,fun k t x h1 h2=>(h.2 k (.t t) x (by simp[h1]) h2).t_inv⟩
theorem Md (ts:List T):Aw (ts.map .t)=Bi ts:=by simp[Aw,Bi,List.all_map,Function.comp_def,AV.one]
theorem q0S (v:Value):TR w X (Ar v) v:=by
 unfold Ar
 split
 ·exact .nil _ _ _ _ (by simp) (by simp) (by simp)
 ·exact .mpnil
 ·exact .v v
end
theorem q1K {v:Value} (h:v.oneCell'=true):(Ar v).one=true:=by
 unfold Ar
 split<;>first|rfl|exact h
theorem q4s {w:World} {X:Nat->Prop} (v:Value) (h:Re v=true):TR w X (Hh v) v:=by
 unfold Hh
 split
 ·rename_i cs
  refine TR.mk_agg (cs:=cs.toList.map Ar) (xs:=cs.toList) ?_ ⟨by simp,?_⟩
  ·unfold Re at h
   simp only[Bi,List.all_map,List.all_eq_true,Function.comp_def]at h ⊢
   exact fun x hx=>q1K (h x hx)
  ·intro k t x ht hx
   simp only[List.getElem?_map,hx,Option.map_some,Option.some.injEq]at ht
   subst ht;exact q0S x
 ·exact q0S v
theorem q4t {w:World} {X:Nat->Prop} {μ:Be} {sh:Nat->Option Sh} (v:Value) (h:Re v=true):AR w X μ sh (Pe v) v:=.t _ _ (q4s v h)
def Gl (Γ:Tables) (w:World) (X:Nat->Prop):Prop:=∀ g cs,Γ g=some cs->TR w X (.ip cs 0) (.pointer (some ⟨g,0,none⟩))/\∃ arr ty fr,w.heap[g]? = some (.cells arr ty fr)/\arr.size=cs.length
theorem Gl.mono {Γ:Tables} {w w':World} {X Y:Nat->Prop} (hs:Same X w w') (hxy:∀ b,X b->Y b) (h:Gl Γ w X):Gl Γ w' Y:=fun g cs hg=>by
 obtain⟨h1,arr,ty,fr,h2,h3⟩:=h g cs hg
 refine⟨h1.mono hs hxy,?_⟩
 cases h1 with
 | ip cs k b off f hcell hrel hone hx=>exact⟨arr,ty,fr,(hs _ hx).trans h2,h3⟩
theorem Ah {Γ:Tables} {w0:World} {B:Nat} {κ:Be} {X:Nat->Prop} {μ:Be} {st:St} {tm:Array Value} {w:World} {ds:List Deferred} (h:B0 w0 B κ X μ st tm w) (hg:Gl Γ w X)
  {x:Operand} {a:AV} (hx:ev Γ st.env x=some a) (hk:A9 x=true):AR w X μ st.sh a (Act.eval ⟨tm,ds⟩ x):=by
 cases x with
 | tmp t=>exact h.env t a hx
 | const v=>simp only[ev,Option.some.injEq]at hx;subst hx;exact q4t v hk
 | global g =>
  simp only[ev,Option.map_eq_some_iff]at hx
  obtain⟨cs,hc,rfl⟩:=hx
  exact .t _ _ (hg g cs hc).1
 | func f =>
  simp only[ev,Option.some.injEq]at hx;subst hx
  exact .t _ _ (.fn f [] [] rfl (fun k t x h=>by simp at h))
theorem Ft {Γ:Tables} {w0:World} {B:Nat} {κ:Be} {X:Nat->Prop} {μ:Be} {st:St} {tm:Array Value} {w:World} {ds:List Deferred} (h:B0 w0 B κ X μ st tm w) (hg:Gl Γ w X)
  {xs:List Operand} {as:List AV} (hx:Ip Γ st.env xs=some as) (hk:xs.all A9=true):Gf w X μ st.sh as (xs.map (Act.eval ⟨tm,ds⟩)):=by
 have h2:=Oy hx
 clear hx
 induction xs generalizing as with
 | nil=>cases as with
  | nil=>exact Gf.nil
  | cons a as=>simp at h2
 | cons x xs ih =>
  cases as with
  | nil=>simp at h2
  | cons a as =>
   simp only[List.map_cons,List.cons.injEq]at h2
   simp only[List.all_cons,Bool.and_eq_true]at hk
   exact Gf.cons (Ah h hg h2.1 hk.1) (ih hk.2 h2.2)
end Go.Lg
set_option linter.unusedSimpArgs false
namespace Go.Lg
open Go
def Ad (P:Program) (w0:World) (B:Nat) (κ:Be) (X:Nat->Prop) (o:Oper) (r:AV) (st1:St) (tm:Array Value) (w:World) (ds:List Deferred):Prop :=
 ∃ nx v w' μ' X',(execOp (Act.eval ⟨tm,ds⟩) o).run P w=.ok nx w'/\(nx=.value v\/nx=.skip/\v=undef)/\B0 w0 B κ X' μ' st1 tm w'/\AR w' X' μ' st1.sh r v/\(∀ b,X b->X' b)/\Same X w w'/\∀ b,X' b->X b\/B<=b\/∃ id n,κ id=some (b,n)
section
variable {P:Program} {Γ:Tables} {w0:World} {B:Nat} {κ:Be} {X:Nat->Prop} {μ:Be} {st:St} {tm:Array Value} {w:World} {ds:List Deferred} {o:Oper}
theorem Ad.same {r:AV} {v:Value} (h:B0 w0 B κ X μ st tm w) (hr:(execOp (Act.eval ⟨tm,ds⟩) o).run P w=.ok (.value v) w) (ha:AR w X μ st.sh r v):Ad P w0 B κ X o r st tm w ds :=
 ⟨_,v,w,μ,X,hr,.inl rfl,h,ha,fun _ hx=>hx,fun _ _=>rfl,fun _ hx=>.inl hx⟩
theorem Ad.block {r:AV} {v:Value} {arr:Array Value} {ty:TypeId} (h:B0 w0 B κ X μ st tm w) (n:Nat) (fr:Nat×Nat)
  (hr:(execOp (Act.eval ⟨tm,ds⟩) o).run P w=.ok (.value v) (World.alloc { w with drawn:=n } (.cells arr ty fr)))
  (ha:AR (World.alloc { w with drawn:=n } (.cells arr ty fr)) (fun b=>X b\/b=w.heap.size) μ st.sh r v):Ad P w0 B κ X o r st tm w ds:=by
 have hb:RowKit.Below w.heap.size w (World.alloc { w with drawn:=n } (.cells arr ty fr)) :=
  ⟨rfl,rfl,rfl,by simp,fun k hk=>RowKit.Below.heap_alloc { w with drawn:=n } _ _ hk⟩
 refine⟨_,v,_,μ,_,hr,.inl rfl,h.grow hb (fun _ hx=>.inl hx) (fun b hx=>?_),ha,fun _ hx=>.inl hx,fun b hx=>hb.block b (h.xlt b hx),fun b hx=>?_⟩
 ·rcases hx with hx|hx
  ·exact .inl hx
  ·exact .inr ⟨by omega,by simp;omega⟩
 rcases hx with hx|hx
 ·exact .inl hx
 ·exact .inr (.inl (by rw[hx];exact h.size))
theorem qK3 {x:Operand} {a:AV} (h:B0 w0 B κ X μ st tm w) (hg:Gl Γ w X) (ho:o.op=.move x\/o.op=.assign x) (hx:ev Γ st.env x=some a) (hk:A9 x=true):Ad P w0 B κ X o a st tm w ds :=
 Ad.same h (v:=Act.eval ⟨tm,ds⟩ x) (by rcases ho with ho|ho<;>simp[execOp,ho]) (Ah h hg hx hk)
theorem qCK {sh:Nat->Option Sh} {p:Bool} {a b:AV} {x y:Value} (ha:AR w X μ sh a x) (hb:AR w X μ sh b y):AR w X μ sh (q1J p a b) (if p then x else y):=by
 unfold q1J
 split
 ·cases ha.t_inv.v_inv;cases hb.t_inv.v_inv;cases p<;>exact .t _ _ (.v _)
 ·cases ha.t_inv.v_inv;cases hb.t_inv.v_inv
  split
  ·rename_i h;subst h;cases p<;>exact .t _ _ (.v _)
  ·cases p<;>exact .t _ _ (.v _)
 ·cases p<;>assumption
theorem qHR {c a b:Operand} {p:Bool} {va vb:AV} (h:B0 w0 B κ X μ st tm w) (hg:Gl Γ w X) (ho:o.op=.pick c a b) (hc:ev Γ st.env c=some (.t (.v (.bool p)))) (hx:ev Γ st.env a=some va) (hy:ev Γ st.env b=some vb)
  (kc:A9 c=true) (ka:A9 a=true) (kb:A9 b=true):Ad P w0 B κ X o (q1J p va vb) st tm w ds:=by
 have h1:=(Ah (ds:=ds) h hg hc kc).t_inv.v_inv
 exact Ad.same h (v:=if p then Act.eval ⟨tm,ds⟩ a else Act.eval ⟨tm,ds⟩ b) (by simp[execOp,ho,h1,asBool]) (qCK (Ah h hg hx ka) (Ah h hg hy kb))
theorem qD9 {op:BinOp} {a b:Value} {c:Prop} {r:Value} (h:Z5 op a b=some (c,r)) (hc:c) (t:TypeId) (x y:Operand) (w:World) :
  (do eqGuard op t x y a b;binOp op t a b:Sem Value).run P w=.ok r w:=by
 unfold Z5 at h
 split at h<;>(try (split at h))<;>(try cases h) <;>
  first
   | (rename_i hkj;subst hkj;simp[go_sem,Op.intArith,Op.intDiv,Op.intBits];done)
   | (rename_i hkj;subst hkj;simp[go_sem,Op.intArith,Op.intDiv,Op.intBits];intro h0;exact absurd h0 hc)
   | (simp[go_sem,Op.shift,Int.not_lt.2 hc];done)
   | (simp[go_sem,binOp,Op.stringOp];done)
   | (simp[go_sem,binOp,Op.stringOp,IntKind.max,IntKind.signed,IntKind.bits];omega)
theorem qK4 {op:BinOp} {t u:TypeId} {x y:Operand} {a b:Value} {c:Prop} {r:Value} (h:B0 w0 B κ X μ st tm w) (hg:Gl Γ w X) (ho:o.op=.binOp op t x y u) (hx:ev Γ st.env x=some (.t (.v a))) (hy:ev Γ st.env y=some (.t (.v b)))
  (kx:A9 x=true) (ky:A9 y=true) (hb:Z5 op a b=some (c,r)) (hc:c):Ad P w0 B κ X o (.t (.v r)) st tm w ds:=by
 have h1:=(Ah (ds:=ds) h hg hx kx).t_inv.v_inv
 have h2:=(Ah (ds:=ds) h hg hy ky).t_inv.v_inv
 refine Ad.same h (v:=r) ?_ (.t _ _ (.v _))
 have:=qD9 (P:=P) hb hc t x y w
 simp only[execOp,ho,h1,h2]at this ⊢
 simp only[Sem.run_bind,this]
 rfl
end
end Go.Lg
namespace Go.Lg
open Go
section
variable {P:Program} {Γ:Tables} {w0:World} {B:Nat} {κ:Be} {X:Nat->Prop} {μ:Be} {st:St} {tm:Array Value} {w:World} {ds:List Deferred} {o:Oper}
theorem Cm {t:TypeId} {n:Nat} (h:Ic P t=some n) (w:World):(sizeOf t).run P w=.ok n w:=by
 simp only[Ic,Option.map_eq_some_iff]at h
 obtain⟨i,hi,rfl⟩:=h
 simp[sizeOf,typeInfo,hi]
theorem q4j {t:TypeId} {g:Bool} (h:Vx P t=some g) (w:World):(isAgg t).run P w=.ok g w:=by
 unfold Vx at h
 split at h<;>first
  | (rename_i hu;cases h;simp[isAgg,run_underlying hu];done)
  | (rename_i d hu1 hu2 hu;cases h;simp only[isAgg,Sem.run_bind,run_underlying hu,Result.andThen_ok];cases d<;>first|rfl|simp_all)
  | cases h
theorem Xk {t:TypeId} {n:Nat} {g:Bool} (hz:Ic P t=some n) (ha:Vx P t=some g) (hn:(g||n==1)=true) {b off:Nat} {xs:List Value} (hl:xs.length=n)
  (hc:∀ (j:Nat) (x:Value),xs[j]? = some x->w.cell? ⟨b,off+j,none⟩=some x) :
  (Instr.loadAt t (.pointer (some ⟨b,off,none⟩))).run P w=.ok (if g then .agg xs.toArray else xs.headD undef) w:=by
 cases g with
 | true =>
  subst hl
  have:=run_loadCells_list (P:=P) w ⟨b,off,none⟩ xs (fun j x hx=>by rw[Addr.add_lit];exact hc j x hx)
  simp only[Instr.loadAt,Instr.sureAddr,loadVar,Sem.run_bind,Sem.run_pure,Result.andThen_ok,q4j ha,Sem.run_ite,if_true,Cm hz,this]
 | false =>
  have h1:n=1:=by simpa using hn
  subst h1
  match xs,hl with
  | [x],_ =>
   have:=hc 0 x rfl
   simp[Instr.loadAt,Instr.sureAddr,loadVar,q4j ha]at this ⊢
   simp[this]
theorem q4u {g:Bool} {ts:List T} {xs:List Value} (h:Ds w X ts xs) (h1:Bi ts=true) (hn:(g||xs.length==1)=true):TR w X (Ia g ts) (if g then .agg xs.toArray else xs.headD undef):=by
 cases g with
 | true=>exact TR.mk_agg h1 h
 | false =>
  match xs,ts,h with
  | [x],t::ts,h=>exact h.2 0 t x rfl rfl
  | [x],[],h=>exact absurd h.1 (by simp)
  | [],_,_=>simp at hn
  | _::_::_,_,_=>simp at hn
theorem Z6 {μ:Be} {sh:Nat->Option Sh} {g:Bool} {as:List AV} {xs:List Value} (h:Gf w X μ sh as xs) (h1:Aw as=true) (hn:(g||xs.length==1)=true):AR w X μ sh (Je g as) (if g then .agg xs.toArray else xs.headD undef):=by
 cases g with
 | true=>exact AR.mk_ag h1 h
 | false =>
  match xs,as,h with
  | [x],t::ts,h=>exact h.2 0 t x rfl rfl
  | [x],[],h=>exact absurd h.1 (by simp)
  | [],_,_=>simp at hn
  | _::_::_,_,_=>simp at hn
theorem q33 {ts:List T} (h:Bi ts=true) (k n:Nat):Bi ((ts.drop k).take n)=true :=
 List.all_eq_true.2 fun t ht=>List.all_eq_true.1 h t (List.mem_of_mem_drop (List.mem_of_mem_take ht))
theorem Vz {ts:List AV} (h:Aw ts=true) (k n:Nat):Aw ((ts.drop k).take n)=true :=
 List.all_eq_true.2 fun t ht=>List.all_eq_true.1 h t (List.mem_of_mem_drop (List.mem_of_mem_take ht))
theorem TR.ip_inv {cs:List T} {k:Nat} {x:Value} (h:TR w X (.ip cs k) x):∃ b off xs,x=.pointer (some ⟨b,off+k,none⟩)/\X b/\Bi cs=true/\Ds w X cs xs/\∀ (j:Nat) (x:Value),xs[j]? = some x->w.cell? ⟨b,off+j,none⟩=some x:=by
 cases h with
 | ip cs k b off f hcell hrel hone hx =>
  refine⟨b,off,(List.range cs.length).map f,rfl,hx,List.all_eq_true.2 fun t ht=>?_,⟨by simp,fun j t y ht hy=>?_⟩,fun j y hy=>?_⟩
  ·obtain⟨j,hj,rfl⟩:=List.getElem_of_mem ht;exact hone j _ (by simp[hj])
  ·have hj:=(List.getElem?_eq_some_iff.1 ht).1
   simp[hj]at hy;subst hy;exact hrel j t ht
  ·simp only[List.getElem?_map,Option.map_eq_some_iff]at hy
   obtain⟨i,hi,rfl⟩:=hy
   obtain⟨hj,rfl⟩:=List.getElem?_eq_some_iff.1 hi
   simp only[List.getElem_range]at hj ⊢
   simp at hj
   exact hcell j hj
theorem TR.mk_ip {cs:List T} {k b off:Nat} {xs:List Value} (h1:Bi cs=true) (h:Ds w X cs xs) (hx:X b) (hc:∀ (j:Nat) (x:Value),xs[j]? = some x->w.cell? ⟨b,off+j,none⟩=some x):TR w X (.ip cs k) (.pointer (some ⟨b,off+k,none⟩)):=by
 refine .ip cs k b off (fun j=>xs.getD j undef) (fun j hj=>hc j _ ?_) (fun j t ht=>?_) (fun j t ht=>q26 h1 ht) hx
 ·rw[h.1]at hj;simp[hj]
 ·obtain⟨x,hx',hr⟩:=h.get ht
  simpa[List.getD,hx']using hr
theorem qCL {t:TypeId} {n k:Nat} {g:Bool} {a:Operand} {cs:List T} (h:B0 w0 B κ X μ st tm w) (hg:Gl Γ w X) (ho:o.op=.load t a) (hx:ev Γ st.env a=some (.t (.ip cs k))) (kx:A9 a=true)
  (hz:Ic P t=some n) (ha:Vx P t=some g) (hn:(g||n==1)=true) (hc:k+n<=cs.length):Ad P w0 B κ X o (.t (Ia g ((cs.drop k).take n))) st tm w ds:=by
 obtain⟨b,off,xs,he,hxb,h1,hr,hcell⟩:=(Ah (ds:=ds) h hg hx kx).t_inv.ip_inv
 have hlen:((xs.drop k).take n).length=n:=by have:=hr.1;simp;omega
 refine Ad.same h (v:=if g then .agg ((xs.drop k).take n).toArray else((xs.drop k).take n).headD undef) ?_ (.t _ _ (q4u ((hr.drop k).take n) (q33 h1 k n) (by rw[hlen];exact hn)))
 simp only[execOp,ho,he,Sem.run_bind]
 rw[Xk hz ha hn hlen (fun j x hj=>?_)]
 ·rfl
 ·rw[List.getElem?_take]at hj
  split at hj
  ·rw[List.getElem?_drop]at hj;rw[Nat.add_assoc];exact hcell _ _ hj
  ·cases hj
theorem AR.lp_inv {id i k:Nat} {sh:Nat->Option Sh} {x:Value} (h:AR w X μ sh (.lp id i k) x):∃ g m,μ id=some (g,m)/\((∃ s n,sh id=some (.sl s n)/\x=.pointer (some ⟨g,i*s+k,none⟩))\/(sh id=some .bx/\i=0/\x=.pointer (some ⟨g,k,none⟩))):=by
 cases h with
 | lpsl id i k s n g m hs hm=>exact⟨g,m,hm,.inl ⟨s,n,hs,rfl⟩⟩
 | lpbx id k g m hs hm=>exact⟨g,m,hm,.inr ⟨hs,rfl,rfl⟩⟩
theorem By {id:Nat} {r:Aj} (h:A2 st.hp id=some r):st.sh id=some r.sh:=by simp[St.sh,h]
theorem qCM {t:TypeId} {n id i k:Nat} {g:Bool} {a:Operand} {cs:List AV} (h:B0 w0 B κ X μ st tm w) (hg:Gl Γ w X) (ho:o.op=.load t a) (hx:ev Γ st.env a=some (.lp id i k)) (kx:A9 a=true)
  (hz:Ic P t=some n) (ha:Vx P t=some g) (hn:(g||n==1)=true) (hl:A2 st.hp id=some (.bx cs)) (hc:k+n<=cs.length):Ad P w0 B κ X o (Je g ((cs.drop k).take n)) st tm w ds:=by
 obtain⟨gb,m,hm,hp⟩:=(Ah (ds:=ds) h hg hx kx).lp_inv
 rcases hp with⟨s,q,hs,_⟩|⟨hs,rfl,he⟩
 ·rw[By hl]at hs;cases hs
 obtain⟨h1,g',arr,ty,hm',hheap,hsz,hr⟩:=h.reg id _ hl
 rw[hm]at hm';cases hm'
 have hr:Gf w X μ st.sh cs arr.toList:=⟨by simp[hsz],fun k a x h2 h3=>hr k a x h2 (by simpa using h3)⟩
 have h1:Aw cs=true:=List.all_eq_true.2 fun t ht=>by obtain⟨j,hj,rfl⟩:=List.getElem_of_mem ht;exact h1 j _ (by simp[hj])
 have hlen:((arr.toList.drop k).take n).length=n:=by simp;omega
 refine Ad.same h (v:=if g then .agg ((arr.toList.drop k).take n).toArray else((arr.toList.drop k).take n).headD undef) ?_ (Z6 ((hr.drop k).take n) (Vz h1 k n) (by rw[hlen];exact hn))
 simp only[execOp,ho,he,Sem.run_bind]
 rw[Xk hz ha hn hlen (fun j x hj=>?_)]
 ·rfl
 ·rw[List.getElem?_take]at hj
  split at hj
  ·rw[List.getElem?_drop]at hj
   rw[cell_of_row w gb _ arr ty (0,0) hheap];simpa using hj
  ·cases hj
theorem Iz {i len s:Nat} (h:i<len):i*s+s<=len*s:=by
 have:=Nat.mul_le_mul_right s (show i+1<=len from h)
 rw[Nat.add_mul,Nat.one_mul]at this;exact this
theorem Bv.rs_sl {sh:Nat->Option Sh} {id ty s:Nat} {es:List (List T)}:Bv w X μ sh id (.sl ty s es)↔Bv w X μ sh id (.rs ty s (es.map fun e=>e.map .t)):=by
 constructor
 ·rintro⟨hl,h⟩
  refine⟨fun i e he=>?_,h.imp (fun⟨h1,h2⟩=>⟨by rw[h1];rfl,h2⟩) fun⟨g,arr,hm,hg,hle,hr⟩=>⟨g,arr,hm,hg,by simpa using hle,fun i k e a x h1 h2 h3=>?_⟩⟩
  ·simp only[List.getElem?_map,Option.map_eq_some_iff]at he
   obtain⟨e0,he0,rfl⟩:=he
   refine⟨by simpa using(hl i e0 he0).1,fun k a ha=>?_⟩
   simp only[List.getElem?_map,Option.map_eq_some_iff]at ha
   obtain⟨a0,ha0,rfl⟩:=ha
   exact(hl i e0 he0).2 k a0 ha0
  ·simp only[List.getElem?_map,Option.map_eq_some_iff]at h1
   obtain⟨e0,he0,rfl⟩:=h1
   simp only[List.getElem?_map,Option.map_eq_some_iff]at h2
   obtain⟨a0,ha0,rfl⟩:=h2
   exact .t _ _ (hr i k e0 a0 x he0 ha0 h3)
 ·rintro⟨hl,h⟩
  refine⟨fun i e he=>?_,h.imp (fun⟨h1,h2⟩=>⟨by simpa using h1,h2⟩) fun⟨g,arr,hm,hg,hle,hr⟩=>⟨g,arr,hm,hg,by simpa using hle,fun i k e a x h1 h2 h3=>?_⟩⟩
  ·have h4:=hl i (e.map .t) (by simp[he])
   exact⟨by simpa using h4.1,fun k t ht=>h4.2 k (.t t) (by simp[ht])⟩
  ·exact(hr i k (e.map .t) (.t a) x (by simp[h1]) (by simp[h2]) h3).t_inv
theorem Bv.elemA {sh:Nat->Option Sh} {id ty s:Nat} {es:List (List AV)} (h:Bv w X μ sh id (.rs ty s es)) {i:Nat} (hi:i<es.length) :
  ∃ g arr,μ id=some (g,arr.size)/\w.heap[g]? = some (.cells arr ty (0,0))/\es.length*s<=arr.size/\(es.getD i []).length=s/\Aw (es.getD i [])=true/\Gf w X μ sh (es.getD i []) ((arr.toList.drop (i*s)).take s):=by
 obtain⟨hw,h⟩:=h
 have hei:es[i]? = some (es.getD i []):=by simp[hi]
 obtain⟨hl,h1⟩:=hw i _ hei
 rcases h with⟨he,_⟩|⟨g,arr,hm,hg,hle,hr⟩
 ·subst he;simp at hi
 ·refine⟨g,arr,hm,hg,hle,hl,List.all_eq_true.2 fun t ht=>?_,?_,fun k t x ht hx=>?_⟩
  ·obtain⟨j,hj,rfl⟩:=List.getElem_of_mem ht;exact h1 j _ (by simp[hj])
  ·have:=Iz (s:=s) hi;rw[hl];simp;omega
  ·rw[List.getElem?_take]at hx
   split at hx
   ·rw[List.getElem?_drop]at hx;exact hr i k _ t x hei ht (by simpa using hx)
   ·cases hx
theorem q1L {es:List (List T)} {i:Nat}:(es.map fun e=>e.map AV.t).getD i []=(es.getD i []).map .t:=by
 simp only[List.getD_eq_getElem?_getD,List.getElem?_map]
 cases es[i]?<;>rfl
theorem Gf.t_inv {sh:Nat->Option Sh} {ts:List T} {xs:List Value} (h:Gf w X μ sh (ts.map .t) xs):Ds w X ts xs :=
 ⟨by simpa using h.1,fun k t x ht hx=>(h.2 k (.t t) x (by simp[ht]) hx).t_inv⟩
theorem Bv.elem {sh:Nat->Option Sh} {id ty s:Nat} {es:List (List T)} (h:Bv w X μ sh id (.sl ty s es)) {i:Nat} (hi:i<es.length) :
  ∃ g arr,μ id=some (g,arr.size)/\w.heap[g]? = some (.cells arr ty (0,0))/\es.length*s<=arr.size/\(es.getD i []).length=s/\Bi (es.getD i [])=true/\Ds w X (es.getD i []) ((arr.toList.drop (i*s)).take s):=by
 obtain⟨g,arr,hm,hg,hle,h1,h2,h3⟩:=(Bv.rs_sl.1 h).elemA (i:=i) (by simpa using hi)
 rw[q1L]at h1 h2 h3
 exact⟨g,arr,hm,hg,by simpa using hle,by simpa using h1,by rw[Md]at h2;exact h2,h3.t_inv⟩
theorem q6q {t:TypeId} {n id i k ty s:Nat} {g:Bool} {a:Operand} {r:Aj} {es:List (List AV)} (h:B0 w0 B κ X μ st tm w) (hg:Gl Γ w X) (ho:o.op=.load t a) (hx:ev Γ st.env a=some (.lp id i k)) (kx:A9 a=true)
  (hz:Ic P t=some n) (ha:Vx P t=some g) (hn:(g||n==1)=true) (hl:A2 st.hp id=some r) (hrs:r.sh=.sl s es.length) (hrg:Bv w X μ st.sh id (.rs ty s es)) (hi:i<es.length) (hc:k+n<=s):Ad P w0 B κ X o (Je g (((es.getD i []).drop k).take n)) st tm w ds:=by
 obtain⟨gb,m,hm,hp⟩:=(Ah (ds:=ds) h hg hx kx).lp_inv
 rcases hp with⟨s',q,hs,he⟩|⟨hs,rfl,he⟩
 case inr=>rw[By hl,hrs]at hs;cases hs
 rw[By hl,hrs]at hs
 simp only[Option.some.injEq,Sh.sl.injEq]at hs
 obtain⟨rfl,rfl⟩:=hs
 obtain⟨g',arr,hm',hheap,hle,hlen,h1,hr⟩:=hrg.elemA hi
 rw[hm]at hm';cases hm'
 have hfit:=Iz (s:=s) hi
 have hlen2:((((arr.toList.drop (i*s)).take s).drop k).take n).length=n:=by simp;omega
 refine Ad.same h (v:=if g then .agg ((((arr.toList.drop (i*s)).take s).drop k).take n).toArray else((((arr.toList.drop (i*s)).take s).drop k).take n).headD undef) ?_ (Z6 ((hr.drop k).take n) (Vz h1 k n) (by rw[hlen2];exact hn))
 simp only[execOp,ho,he,Sem.run_bind]
 rw[Xk hz ha hn hlen2 (fun j x hj=>?_)]
 ·rfl
 ·rw[List.getElem?_take]at hj
  split at hj
  ·rw[List.getElem?_drop,List.getElem?_take]at hj
   split at hj
   ·rw[List.getElem?_drop]at hj
    rw[cell_of_row w gb _ arr ty (0,0) hheap,Nat.add_assoc];simpa using hj
   ·cases hj
  ·cases hj
theorem AR.wrap_t {sh:Nat->Option Sh} {g:Bool} {ts:List T} {v:Value} (hn:ts≠[]\/g=true) (h:AR w X μ sh (Je g (ts.map .t)) v):AR w X μ sh (.t (Ia g ts)) v:=by
 cases g with
 | true =>
  obtain⟨xs,rfl,h1,hr⟩:=h.ag_inv
  rw[Md]at h1
  exact .t _ _ (TR.mk_agg h1 hr.t_inv)
 | false =>
  cases ts with
  | nil=>simp at hn
  | cons t ts=>exact h
theorem qCN {t:TypeId} {n id i k ty s:Nat} {g:Bool} {a:Operand} {es:List (List T)} (h:B0 w0 B κ X μ st tm w) (hg:Gl Γ w X) (ho:o.op=.load t a) (hx:ev Γ st.env a=some (.lp id i k)) (kx:A9 a=true)
  (hz:Ic P t=some n) (ha:Vx P t=some g) (hn:(g||n==1)=true) (hl:A2 st.hp id=some (.sl ty s es)) (hi:i<es.length) (hc:k+n<=s):Ad P w0 B κ X o (.t (Ia g (((es.getD i []).drop k).take n))) st tm w ds:=by
 have hrg:=Bv.rs_sl.1 (h.reg id _ hl)
 have hlen:(es.getD i []).length=s:=((h.reg id _ hl).elem hi).choose_spec.choose_spec.2.2.2.1
 obtain⟨nx,v,w',μ',X',h1,h2,h3,h4,h5⟩:=q6q (ds:=ds) h hg ho hx kx hz ha hn hl (by simp[Aj.sh]) hrg (by simpa using hi) hc
 refine⟨nx,v,w',μ',X',h1,h2,h3,?_,h5⟩
 rw[q1L,<- List.map_drop,<- List.map_take]at h4
 refine h4.wrap_t ?_
 cases g with
 | true=>exact .inr rfl
 | false =>
  have h1:n=1:=by simpa using hn
  refine .inl fun e=>?_
  have:(((es.getD i []).drop k).take n).length=1:=by simp only[List.length_take,List.length_drop,hlen];omega
  rw[e]at this;cases this
end
end Go.Lg
set_option linter.unusedVariables false
namespace Go.Lg
open Go
section
variable {P:Program} {Γ:Tables} {w0:World} {B:Nat} {κ:Be} {X:Nat->Prop} {μ:Be} {st:St} {tm:Array Value} {w:World} {ds:List Deferred} {o:Oper}
theorem Z7 {t:TypeId} {i off:Nat} {fs:Array Field} {f:Field} {s:Nat} (hu:P.underlying t=some (.struct fs)) (hf:fs[i]? = some f) (ho:f.offset=off) (hs:Ic P f.type=some s) (hp:0<s) (b q:Nat) (w:World) :
  (Instr.fieldAt t (.pointer (some ⟨b,q,none⟩)) i).run P w=.ok (.pointer (some ⟨b,q+off,none⟩)) w:=by
 have h0:s≠0:=by omega
 simp[Instr.fieldAt,run_underlying hu,hf,Instr.sureAddr,fieldPlace,Cm hs,h0,ho,Addr.add_lit]
theorem qHS {t:TypeId} {i off k:Nat} {fs:Array Field} {f:Field} {s:Nat} {a:Operand} {cs:List T} (h:B0 w0 B κ X μ st tm w) (hg:Gl Γ w X) (ho:o.op=.fieldAddr t a i) (kx:A9 a=true)
  (hu:P.underlying t=some (.struct fs)) (hf:fs[i]? = some f) (hoff:f.offset=off) (hs:Ic P f.type=some s) (hp:0<s) (hx:ev Γ st.env a=some (.t (.ip cs k))):Ad P w0 B κ X o (.t (.ip cs (k+off))) st tm w ds:=by
 obtain⟨b,q,xs,he,hxb,h1,hr,hcell⟩:=(Ah (ds:=ds) h hg hx kx).t_inv.ip_inv
 refine Ad.same h (v:=.pointer (some ⟨b,q+k+off,none⟩)) (by simp[execOp,ho,he,Z7 hu hf hoff hs hp]) (.t _ _ ?_)
 rw[Nat.add_assoc];exact TR.mk_ip h1 hr hxb hcell
theorem qCO {t:TypeId} {id j i off k:Nat} {fs:Array Field} {f:Field} {s:Nat} {a:Operand} (h:B0 w0 B κ X μ st tm w) (hg:Gl Γ w X) (ho:o.op=.fieldAddr t a i) (kx:A9 a=true)
  (hu:P.underlying t=some (.struct fs)) (hf:fs[i]? = some f) (hoff:f.offset=off) (hs:Ic P f.type=some s) (hp:0<s) (hx:ev Γ st.env a=some (.lp id j k)):Ad P w0 B κ X o (.lp id j (k+off)) st tm w ds:=by
 obtain⟨g,m,hm,hq⟩:=(Ah (ds:=ds) h hg hx kx).lp_inv
 rcases hq with⟨s',n,hs',he⟩|⟨hs',rfl,he⟩
 ·refine Ad.same h (v:=.pointer (some ⟨g,j*s'+k+off,none⟩)) (by simp[execOp,ho,he,Z7 hu hf hoff hs hp]) ?_
  rw[Nat.add_assoc];exact .lpsl id j (k+off) s' n g m hs' hm
 ·exact Ad.same h (v:=.pointer (some ⟨g,k+off,none⟩)) (by simp[execOp,ho,he,Z7 hu hf hoff hs hp]) (.lpbx id (k+off) g m hs' hm)
theorem q4v {t:TypeId} {n off:Nat} {g:Bool} (hz:Ic P t=some n) (ha:Vx P t=some g) (hn:(g||n==1)=true) {xs:List Value} (hl:off+n<=xs.length) (w:World) :
  (part t xs.toArray off).run P w=.ok (if g then .agg ((xs.drop off).take n).toArray else((xs.drop off).take n).headD undef) w:=by
 cases g with
 | true =>
  simp only[part,Sem.run_bind,q4j ha,Result.andThen_ok,if_true,Cm hz,Sem.run_pure]
  congr 2
  apply Array.ext'
  simp[List.take_drop]
 | false =>
  have h1:n=1:=by simpa using hn
  subst h1
  have hlt:off<xs.length:=by omega
  have e:((xs.drop off).take 1).headD undef=xs[off]:=by rw[List.drop_eq_getElem_cons hlt];rfl
  have e2:xs.toArray[off]? = some xs[off]:=by simp[hlt]
  simp only[part,Sem.run_bind,q4j ha,Result.andThen_ok,Bool.false_eq_true,↓reduceIte,e,e2,Sem.run_pure]
theorem q6r {t:TypeId} {i off n:Nat} {g:Bool} {fs:Array Field} {f:Field} (hu:P.underlying t=some (.struct fs)) (hf:fs[i]? = some f) (ho:f.offset=off) (hz:Ic P f.type=some n) (ha:Vx P f.type=some g) (hn:(g||n==1)=true)
  {xs:List Value} (hl:off+n<=xs.length) (w:World):(Instr.field t (.agg xs.toArray) i).run P w=.ok (if g then .agg ((xs.drop off).take n).toArray else((xs.drop off).take n).headD undef) w:=by
 simp only[Instr.field,Sem.run_bind,run_underlying hu,Result.andThen_ok,hf,asAgg,Sem.run_pure,ho,q4v hz ha hn hl]
theorem qDA {t:TypeId} {i off n:Nat} {g:Bool} {fs:Array Field} {f:Field} {x:Operand} {cs:List AV} (h:B0 w0 B κ X μ st tm w) (hg:Gl Γ w X) (ho:o.op=.field t x i) (kx:A9 x=true)
  (hu:P.underlying t=some (.struct fs)) (hf:fs[i]? = some f) (hoff:f.offset=off) (hz:Ic P f.type=some n) (ha:Vx P f.type=some g) (hn:(g||n==1)=true)
  (hx:ev Γ st.env x=some (.ag cs)) (hc:off+n<=cs.length):Ad P w0 B κ X o (Je g ((cs.drop off).take n)) st tm w ds:=by
 obtain⟨xs,he,h1,hr⟩:=(Ah (ds:=ds) h hg hx kx).ag_inv
 have hl:off+n<=xs.length:=by rw[<- hr.1];exact hc
 exact Ad.same h (v:=if g then .agg ((xs.drop off).take n).toArray else((xs.drop off).take n).headD undef) (by simp only[execOp,ho,he,Sem.run_bind,q6r hu hf hoff hz ha hn hl];rfl)
  (Z6 ((hr.drop off).take n) (Vz h1 off n) (by have:((xs.drop off).take n).length=n:=(by simp;omega);rw[this];exact hn))
theorem qFL {t:TypeId} {i off n:Nat} {g:Bool} {fs:Array Field} {f:Field} {x:Operand} {cs:List T} (h:B0 w0 B κ X μ st tm w) (hg:Gl Γ w X) (ho:o.op=.field t x i) (kx:A9 x=true)
  (hu:P.underlying t=some (.struct fs)) (hf:fs[i]? = some f) (hoff:f.offset=off) (hz:Ic P f.type=some n) (ha:Vx P f.type=some g) (hn:(g||n==1)=true)
  (hx:ev Γ st.env x=some (.t (.agg cs))) (hc:off+n<=cs.length):Ad P w0 B κ X o (.t (Ia g ((cs.drop off).take n))) st tm w ds:=by
 obtain⟨xs,he,h1,hr⟩:=(Ah (ds:=ds) h hg hx kx).t_inv.agg_inv
 have hl:off+n<=xs.length:=by rw[<- hr.1];exact hc
 exact Ad.same h (v:=if g then .agg ((xs.drop off).take n).toArray else((xs.drop off).take n).headD undef) (by simp only[execOp,ho,he,Sem.run_bind,q6r hu hf hoff hz ha hn hl];rfl)
  (.t _ _ (q4u ((hr.drop off).take n) (q33 h1 off n) (by have:((xs.drop off).take n).length=n:=(by simp;omega);rw[this];exact hn)))
theorem B9 {t e:TypeId} (h:Ub P t=some e):P.underlying t=some (.slice e):=by
 unfold Ub at h;split at h<;>simp_all
theorem Z8 {t e:TypeId} {n:Nat} (h:arO P t=some (n,e)):P.underlying t=some (.array n e):=by
 unfold arO at h;split at h<;>simp_all
theorem Ep {t k e:TypeId} (h:q0l P t=some (k,e)):P.underlying t=some (.map k e):=by
 unfold q0l at h;split at h<;>simp_all
theorem W0 {t:TypeId} {k:IntKind} (h:q6P P t=some k):P.underlying t=some (.int k):=by
 unfold q6P at h;split at h<;>simp_all
theorem Ik {t:TypeId} (h:q0m P t=true):P.underlying t=some .string:=by
 unfold q0m at h;split at h<;>simp_all
theorem TR.sl_inv {es:List (List T)} {cap:Option Nat} {nl:Option Bool} {x:Value} (h:TR w X (.sl es cap nl) x) :
  (es=[]/\∃ a c,x=.slice a 0 c/\(∀ n,cap=some n->c=n)/\(∀ b,nl=some b->a.isNone=b)/\(a=none->c=0)) \/
  ∃ s b off c,x=.slice (some ⟨b,off,none⟩) es.length c/\X b/\es.length<=c/\(∀ n,cap=some n->c=n)/\(∀ q,nl=some q->q=false)/\Gk s es/\(∀ e∈es,Bi e=true) /\
   ∃ f:Nat->Nat->Value,(∀ i k,i<es.length->k<s->w.cell? ⟨b,off+i*s+k,none⟩=some (f i k))/\∀ (i k:Nat) (e:List T) (t:T),es[i]? = some e->e[k]? = some t->TR w X t (f i k):=by
 cases h with
 | nil cap nl a c hc hn hz=>exact .inl ⟨rfl,a,c,rfl,hc,hn,hz⟩
 | sl es cap nl s b off c f hcell hlen hrel hone hx hle hc hn =>
  refine .inr ⟨s,b,off,c,rfl,hx,hle,hc,hn,fun e he=>?_,fun e he=>List.all_eq_true.2 fun t ht=>?_,f,hcell,hrel⟩
  ·obtain⟨i,hi,rfl⟩:=List.getElem_of_mem he;exact hlen i _ (by simp[hi])
  ·obtain⟨i,hi,rfl⟩:=List.getElem_of_mem he
   obtain⟨k,hk,rfl⟩:=List.getElem_of_mem ht
   exact hone i k es[i] _ (by simp[hi]) (by simp[hk])
theorem TR.mk_sl {es:List (List T)} {cap:Option Nat} {nl:Option Bool} {s b off c:Nat} {f:Nat->Nat->Value} (hx:X b) (hle:es.length<=c) (hc:∀ n,cap=some n->c=n) (hn:∀ q,nl=some q->q=false) (hw:Gk s es)
  (h1:∀ e∈es,Bi e=true) (hcell:∀ i k,i<es.length->k<s->w.cell? ⟨b,off+i*s+k,none⟩=some (f i k)) (hrel:∀ (i k:Nat) (e:List T) (t:T),es[i]? = some e->e[k]? = some t->TR w X t (f i k)) :
  TR w X (.sl es cap nl) (.slice (some ⟨b,off,none⟩) es.length c) :=
 .sl es cap nl s b off c f hcell (fun i e he=>hw e (List.mem_of_getElem? he)) hrel (fun i k e t he ht=>q26 (h1 e (List.mem_of_getElem? he)) ht) hx hle hc hn
theorem Z9 {es:List (List T)} {i:Nat} (h:i<es.length):es.getD i []∈es/\es[i]? = some (es.getD i []):=by
 constructor
 ·simp[List.getD,h]
 ·simp[h]
theorem qDB {t e:TypeId} {s:Nat} {x i:Operand} {es:List (List T)} {cap:Option Nat} {nl:Option Bool} {k:IntKind} {n:Int} (h:B0 w0 B κ X μ st tm w) (hg:Gl Γ w X) (ho:o.op=.indexAddr t x i) (kx:A9 x=true) (ki:A9 i=true)
  (hu:Ub P t=some e) (hz:Ic P e=some s) (hx:ev Γ st.env x=some (.t (.sl es cap nl))) (hi:ev Γ st.env i=some (.t (.v (.int k n)))) (h0:0<=n) (h1:n<es.length) (hw:Gk s es) :
  Ad P w0 B κ X o (.t (.ip (es.getD n.toNat []) 0)) st tm w ds:=by
 have hix:=(Ah (ds:=ds) h hg hi ki).t_inv.v_inv
 have hnl:n.toNat<es.length:=by omega
 obtain⟨hmem,hget⟩:=Z9 hnl
 rcases(Ah (ds:=ds) h hg hx kx).t_inv.sl_inv with⟨rfl,_⟩|⟨s',b,off,c,he,hxb,hle,_,_,hw',hone,f,hcell,hrel⟩
 ·simp at hnl
 have hss:s'=s:=(hw' _ hmem).symm.trans (hw _ hmem)
 subst hss
 refine Ad.same h (v:=.pointer (some ⟨b,off+n.toNat*s',none⟩)) ?_ (.t _ _ ?_)
 ·have hlt:(0<=n/\n<(es.length:Int)):=⟨h0,h1⟩
  simp[execOp,ho,he,hix,Instr.indexAt,asIntOf,run_underlying (B9 hu),hlt,Cm hz,Addr.add_lit]
 ·have:=TR.mk_ip (w:=w) (X:=X) (cs:=es.getD n.toNat []) (k:=0) (b:=b) (off:=off+n.toNat*s') (xs:=(List.range s').map (f n.toNat)) (hone _ hmem)
   ⟨by rw[List.length_map,List.length_range];exact hw _ hmem,fun q t' y ht hy=>by
    have hq:q<s':=by rw[<- hw _ hmem];exact(List.getElem?_eq_some_iff.1 ht).1
    simp[hq]at hy;subst hy;exact hrel _ _ _ _ hget ht⟩ hxb (fun j y hy=>by
    simp only[List.getElem?_map,Option.map_eq_some_iff]at hy
    obtain⟨q,hq,rfl⟩:=hy
    obtain⟨hj,rfl⟩:=List.getElem?_eq_some_iff.1 hq
    simp at hj
    simpa using hcell n.toNat j hnl hj)
  simpa using this
theorem AR.ls_inv {id off len:Nat} {cap:Option Nat} {sh:Nat->Option Sh} {x:Value} (h:AR w X μ sh (.ls id off len cap) x) :
  ∃ s n,sh id=some (.sl s n)/\((μ id=none/\(∃ a,x=.slice a 0 0)/\off=0/\len=0/\∀ q,cap=some q->q=0) \/
   ∃ g m c a,μ id=some (g,m)/\x=.slice (some a) len c/\off+len<=n/\len<=c/\c<=maxLen/\(off+c)*s<=m/\(cap=none->(off+c)*s=m)/\(∀ q,cap=some q->c=q)/\(c≠0\/off=0->a=⟨g,off*s,none⟩)):=by
 cases h with
 | lsnil id s n hs hm a cap hc=>exact⟨s,n,hs,.inl ⟨hm,⟨a,rfl⟩,rfl,rfl,hc⟩⟩
 | ls id off len s n g m c cap hs hm hle hlc hcm hfit hfull hc a ha=>exact⟨s,n,hs,.inr ⟨g,m,c,a,hm,rfl,hle,hlc,hcm,hfit,hfull,hc,ha⟩⟩
theorem q6s {t e:TypeId} {s q nn:Nat} {x i:Operand} {id off len:Nat} {cap:Option Nat} {k:IntKind} {n:Int} (h:B0 w0 B κ X μ st tm w) (hg:Gl Γ w X) (ho:o.op=.indexAddr t x i) (kx:A9 x=true) (ki:A9 i=true)
  (hu:Ub P t=some e) (hz:Ic P e=some s) (hx:ev Γ st.env x=some (.ls id off len cap)) (hl:st.sh id=some (.sl q nn)) (hq:q=s) (hi:ev Γ st.env i=some (.t (.v (.int k n)))) (h0:0<=n) (h1:n<len) :
  Ad P w0 B κ X o (.lp id (off+n.toNat) 0) st tm w ds:=by
 have hix:=(Ah (ds:=ds) h hg hi ki).t_inv.v_inv
 obtain⟨s',n',hs,hcase⟩:=(Ah (ds:=ds) h hg hx kx).ls_inv
 have hs':=hs
 rw[hl]at hs
 simp only[Option.some.injEq,Sh.sl.injEq]at hs
 obtain⟨rfl,rfl⟩:=hs
 subst hq
 rcases hcase with⟨_,_,_,rfl,_⟩|⟨g,m,c,a,hm,he,hle,hlc,hcm,hfit,_,_,ha⟩
 ·omega
 have hc0:c≠0:=by omega
 rw[ha (.inl hc0)]at he
 refine Ad.same h (v:=.pointer (some ⟨g,(off+n.toNat)*q+0,none⟩)) ?_ (.lpsl id _ 0 q nn g m hs' hm)
 have hlt:(0<=n/\n<(len:Int)):=⟨h0,h1⟩
 simp[execOp,ho,he,hix,Instr.indexAt,asIntOf,run_underlying (B9 hu),hlt,Cm hz,Addr.add_lit,Nat.add_mul]
theorem q9r {t e:TypeId} {l s kk:Nat} {x i:Operand} {cs:List T} {k:IntKind} {n:Int} (h:B0 w0 B κ X μ st tm w) (hg:Gl Γ w X) (ho:o.op=.indexAddr t x i) (kx:A9 x=true) (ki:A9 i=true)
  (hu:arO P t=some (l,e)) (hz:Ic P e=some s) (hx:ev Γ st.env x=some (.t (.ip cs kk))) (hi:ev Γ st.env i=some (.t (.v (.int k n)))) (h0:0<=n) (h1:n<l) :
  Ad P w0 B κ X o (.t (.ip cs (kk+n.toNat*s))) st tm w ds:=by
 have hix:=(Ah (ds:=ds) h hg hi ki).t_inv.v_inv
 obtain⟨b,q,xs,he,hxb,hone,hr,hcell⟩:=(Ah (ds:=ds) h hg hx kx).t_inv.ip_inv
 refine Ad.same h (v:=.pointer (some ⟨b,q+(kk+n.toNat*s),none⟩)) ?_ (.t _ _ (TR.mk_ip hone hr hxb hcell))
 have hlt:(0<=n/\n<(l:Int)):=⟨h0,h1⟩
 simp[execOp,ho,he,hix,Instr.indexAt,Instr.sureAddr,asIntOf,run_underlying (Z8 hu),hlt,Cm hz,Addr.add_lit,Nat.add_assoc]
theorem q9s {t e:TypeId} {l s id j kk:Nat} {x i:Operand} {k:IntKind} {n:Int} (h:B0 w0 B κ X μ st tm w) (hg:Gl Γ w X) (ho:o.op=.indexAddr t x i) (kx:A9 x=true) (ki:A9 i=true)
  (hu:arO P t=some (l,e)) (hz:Ic P e=some s) (hx:ev Γ st.env x=some (.lp id j kk)) (hi:ev Γ st.env i=some (.t (.v (.int k n)))) (h0:0<=n) (h1:n<l) :
  Ad P w0 B κ X o (.lp id j (kk+n.toNat*s)) st tm w ds:=by
 have hix:=(Ah (ds:=ds) h hg hi ki).t_inv.v_inv
 have hlt:(0<=n/\n<(l:Int)):=⟨h0,h1⟩
 obtain⟨g,m,hm,hq⟩:=(Ah (ds:=ds) h hg hx kx).lp_inv
 rcases hq with⟨s',n',hs',he⟩|⟨hs',rfl,he⟩
 ·refine Ad.same h (v:=.pointer (some ⟨g,j*s'+(kk+n.toNat*s),none⟩)) ?_ (.lpsl id j _ s' n' g m hs' hm)
  simp[execOp,ho,he,hix,Instr.indexAt,Instr.sureAddr,asIntOf,run_underlying (Z8 hu),hlt,Cm hz,Addr.add_lit,Nat.add_assoc]
 ·refine Ad.same h (v:=.pointer (some ⟨g,kk+n.toNat*s,none⟩)) ?_ (.lpbx id _ g m hs' hm)
  simp[execOp,ho,he,hix,Instr.indexAt,Instr.sureAddr,asIntOf,run_underlying (Z8 hu),hlt,Cm hz,Addr.add_lit,Nat.add_assoc]
theorem qHT {t:TypeId} {x i:Operand} {s:ByteArray} {k:IntKind} {n:Int} (h:B0 w0 B κ X μ st tm w) (hg:Gl Γ w X) (ho:o.op=.index t x i) (kx:A9 x=true) (ki:A9 i=true)
  (hu:q0m P t=true) (hx:ev Γ st.env x=some (.t (.v (.string s)))) (hi:ev Γ st.env i=some (.t (.v (.int k n)))) (h0:0<=n) (h1:n<s.size) :
  Ad P w0 B κ X o (.t (.v (.int .u8 (s.data.getD n.toNat 0).toNat))) st tm w ds:=by
 have hix:=(Ah (ds:=ds) h hg hi ki).t_inv.v_inv
 have hsx:=(Ah (ds:=ds) h hg hx kx).t_inv.v_inv
 refine Ad.same h (v:=.int .u8 (s.data.getD n.toNat 0).toNat) ?_ (.t _ _ (.v _))
 have hlt:n.toNat<s.data.size:=by have:s.size=s.data.size:=rfl;omega
 have hlt':n.toNat<s.size:=by omega
 have hget:s[n.toNat]? = some (s.data.getD n.toNat 0):=by
  rw[getElem?_pos s n.toNat hlt']
  simp only[Array.getD,hlt,↓reduceDIte,Option.some.injEq];rfl
 simp[execOp,ho,hsx,hix,Instr.index,asIntOf,run_underlying (Ik hu),h0,hget]
theorem qDC {t e:TypeId} {l s:Nat} {g:Bool} {x i:Operand} {cs:List T} {k:IntKind} {n:Int} (h:B0 w0 B κ X μ st tm w) (hg:Gl Γ w X) (ho:o.op=.index t x i) (kx:A9 x=true) (ki:A9 i=true)
  (hu:arO P t=some (l,e)) (hz:Ic P e=some s) (ha:Vx P e=some g) (hn:(g||s==1)=true) (hx:ev Γ st.env x=some (.t (.agg cs))) (hi:ev Γ st.env i=some (.t (.v (.int k n)))) (h0:0<=n) (h1:n<l) (hc:n.toNat*s+s<=cs.length) :
  Ad P w0 B κ X o (.t (Ia g ((cs.drop (n.toNat*s)).take s))) st tm w ds:=by
 have hix:=(Ah (ds:=ds) h hg hi ki).t_inv.v_inv
 obtain⟨xs,he,hone,hr⟩:=(Ah (ds:=ds) h hg hx kx).t_inv.agg_inv
 have hl:n.toNat*s+s<=xs.length:=by rw[<- hr.1];exact hc
 refine Ad.same h (v:=if g then .agg ((xs.drop (n.toNat*s)).take s).toArray else((xs.drop (n.toNat*s)).take s).headD undef) ?_
  (.t _ _ (q4u ((hr.drop _).take s) (q33 hone _ s) (by have:((xs.drop (n.toNat*s)).take s).length=s:=(by simp;omega);rw[this];exact hn)))
 have hlt:(0<=n/\n<(l:Int)):=⟨h0,h1⟩
 simp only[execOp,ho,he,hix,Instr.index,asIntOf,Sem.run_bind,Sem.run_pure,Result.andThen_ok,run_underlying (Z8 hu),hlt,and_self,if_true,Cm hz,q4v hz ha hn hl]
theorem qCP {t e:TypeId} {l s:Nat} {g:Bool} {x i:Operand} {cs:List AV} {k:IntKind} {n:Int} (h:B0 w0 B κ X μ st tm w) (hg:Gl Γ w X) (ho:o.op=.index t x i) (kx:A9 x=true) (ki:A9 i=true)
  (hu:arO P t=some (l,e)) (hz:Ic P e=some s) (ha:Vx P e=some g) (hn:(g||s==1)=true) (hx:ev Γ st.env x=some (.ag cs)) (hi:ev Γ st.env i=some (.t (.v (.int k n)))) (h0:0<=n) (h1:n<l) (hc:n.toNat*s+s<=cs.length) :
  Ad P w0 B κ X o (Je g ((cs.drop (n.toNat*s)).take s)) st tm w ds:=by
 have hix:=(Ah (ds:=ds) h hg hi ki).t_inv.v_inv
 obtain⟨xs,he,hone,hr⟩:=(Ah (ds:=ds) h hg hx kx).ag_inv
 have hl:n.toNat*s+s<=xs.length:=by rw[<- hr.1];exact hc
 refine Ad.same h (v:=if g then .agg ((xs.drop (n.toNat*s)).take s).toArray else((xs.drop (n.toNat*s)).take s).headD undef) ?_
  (Z6 ((hr.drop _).take s) (Vz hone _ s) (by have:((xs.drop (n.toNat*s)).take s).length=s:=(by simp;omega);rw[this];exact hn))
 have hlt:(0<=n/\n<(l:Int)):=⟨h0,h1⟩
 simp only[execOp,ho,he,hix,Instr.index,asIntOf,Sem.run_bind,Sem.run_pure,Result.andThen_ok,run_underlying (Z8 hu),hlt,and_self,if_true,Cm hz,q4v hz ha hn hl]
theorem qME {op:UnOp} {t:TypeId} {x:Operand} {a r:Value} (h:B0 w0 B κ X μ st tm w) (hg:Gl Γ w X) (ho:o.op=.unOp op t x) (hx:ev Γ st.env x=some (.t (.v a))) (kx:A9 x=true) (hb:unV op a=some r):Ad P w0 B κ X o (.t (.v r)) st tm w ds:=by
 have h1:=(Ah (ds:=ds) h hg hx kx).t_inv.v_inv
 refine Ad.same h (v:=r) ?_ (.t _ _ (.v _))
 unfold unV at hb
 split at hb<;>cases hb<;>simp[execOp,ho,h1,Op.unary,Op.intArith]
theorem qHU {src dst:TypeId} {k k':IntKind} {x:Operand} {n:Int} (h:B0 w0 B κ X μ st tm w) (hg:Gl Γ w X) (ho:o.op=.convert src dst x) (hx:ev Γ st.env x=some (.t (.v (.int k' n)))) (kx:A9 x=true) (hs:(P.underlying src).isSome=true) (hd:q6P P dst=some k) :
  Ad P w0 B κ X o (.t (.v (.int k (k.wrap n)))) st tm w ds:=by
 have h1:=(Ah (ds:=ds) h hg hx kx).t_inv.v_inv
 obtain⟨d,hd'⟩:=Option.isSome_iff_exists.mp hs
 exact Ad.same h (v:=.int k (k.wrap n)) (by simp[execOp,ho,h1,convert,run_underlying hd',run_underlying (W0 hd),Conv.intToInt]) (.t _ _ (.v _))
theorem qHV {src dst:TypeId} {k k':IntKind} {x:Operand} {n:Int} (h:B0 w0 B κ X μ st tm w) (hg:Gl Γ w X) (ho:o.op=.convert src dst x) (hx:ev Γ st.env x=some (.t (.v (.int k' n)))) (kx:A9 x=true) (hs:q6P P src=some k) (hd:q0m P dst=true) :
  Ad P w0 B κ X o (.t (.v (.string (Utf8.encode n)))) st tm w ds:=by
 have h1:=(Ah (ds:=ds) h hg hx kx).t_inv.v_inv
 exact Ad.same h (v:=.string (Utf8.encode n)) (by simp[execOp,ho,h1,convert,run_underlying (W0 hs),run_underlying (Ik hd),Conv.intToString]) (.t _ _ (.v _))
theorem qK5 {x:Operand} {i:Nat} {vs:List T} {t:T} (h:B0 w0 B κ X μ st tm w) (hg:Gl Γ w X) (ho:o.op=.extract x i) (hx:ev Γ st.env x=some (.t (.tup vs))) (kx:A9 x=true) (hi:vs[i]? = some t):Ad P w0 B κ X o (.t t) st tm w ds:=by
 obtain⟨xs,he,hr⟩:=(Ah (ds:=ds) h hg hx kx).t_inv.tup_inv
 obtain⟨y,hy,hty⟩:=hr.get hi
 exact Ad.same h (v:=y) (by simp[execOp,ho,he,Instr.extract,hy]) (.t _ _ hty)
theorem qHW {x:Operand} {i:Nat} {vs:List AV} {t:AV} (h:B0 w0 B κ X μ st tm w) (hg:Gl Γ w X) (ho:o.op=.extract x i) (hx:ev Γ st.env x=some (.tu vs)) (kx:A9 x=true) (hi:vs[i]? = some t):Ad P w0 B κ X o t st tm w ds:=by
 obtain⟨xs,he,_,hr⟩:=(Ah (ds:=ds) h hg hx kx).tu_inv
 obtain⟨y,hy,hty⟩:=hr.get hi
 exact Ad.same h (v:=y) (by simp[execOp,ho,he,Instr.extract,hy]) hty
theorem qBH {x:Operand} {a:AV} (h:B0 w0 B κ X μ st tm w) (hg:Gl Γ w X) (ho:o.op=.nilCheck x) (hx:ev Γ st.env x=some a) (kx:A9 x=true) (ha:(∃ cs k,a=.t (.ip cs k))\/(∃ id i k,a=.lp id i k)\/(∃ f cs,a=.t (.fn f cs))\/(∃ f cs,a=.fn f cs)) :
  Ad P w0 B κ X o a st tm w ds:=by
 have h1:=Ah (ds:=ds) h hg hx kx
 refine Ad.same h (v:=Act.eval ⟨tm,ds⟩ x) ?_ h1
 rcases ha with⟨cs,k,rfl⟩|⟨id,i,k,rfl⟩|⟨f,cs,rfl⟩|⟨f,cs,rfl⟩
 ·obtain⟨b,off,xs,he,_⟩:=h1.t_inv.ip_inv
  simp[execOp,ho,he]
 ·obtain⟨g,m,hm,hq⟩:=h1.lp_inv
  rcases hq with⟨s',n',hs',he⟩|⟨hs',_,he⟩<;>simp[execOp,ho,he]
 ·generalize hv:Act.eval ⟨tm,ds⟩ x=y at h1
  cases h1.t_inv with
  | fn f cs xs hlen hrel=>simp[execOp,ho,hv]
 ·generalize hv:Act.eval ⟨tm,ds⟩ x=y at h1
  cases h1 with
  | fn f cs xs hlen hrel=>unfold fnV at hv ⊢;split at hv<;>rename_i hlt<;>simp[execOp,ho,hv,hlt]
end
end Go.Lg
namespace Go.Lg
open Go
section
variable {P:Program} {Γ:Tables} {w0:World} {B:Nat} {κ:Be} {X:Nat->Prop} {μ:Be} {st:St} {tm:Array Value} {w:World} {ds:List Deferred} {o:Oper}
theorem TR.sl_val {es:List (List T)} {cap:Option Nat} {nl:Option Bool} {x:Value} (h:TR w X (.sl es cap nl) x):∃ a c,x=.slice a es.length c/\(∀ n,cap=some n->c=n)/\(∀ b,nl=some b->a.isNone=b)/\(es≠[]->a.isNone=false):=by
 rcases h.sl_inv with⟨rfl,a,c,rfl,hc,hn,hz⟩|⟨s,b,off,c,rfl,hx,hle,hc,hn,_⟩
 ·exact⟨a,c,rfl,hc,hn,fun h=>absurd rfl h⟩
 ·exact⟨_,c,rfl,hc,fun b hb=>(hn b hb).symm,fun _=>rfl⟩
theorem TR.mp_inv {es:List (Value×T)} {x:Value} (h:TR w X (.mp es) x):(es=[]/\x=.map none)\/∃ (r clock:Nat) (ms:List MapEntry),x=.map (some r)/\w.heap[r]? = some (.map ms.toArray clock)/\X r/\es.length=ms.length /\
  ∀ (i:Nat) (e:Value×T) (m:MapEntry),es[i]? = some e->ms[i]? = some m->m.key=e.1/\TR w X e.2 m.val:=by
 cases h with
 | mpnil=>exact .inl ⟨rfl,rfl⟩
 | mp es r clock ms hheap hx hlen hkey hrel=>exact .inr ⟨r,clock,ms,rfl,hheap,hx,hlen,fun i e m h1 h2=>⟨hkey i e m h1 h2,hrel i e m h1 h2⟩⟩
theorem AR.lm_inv {id:Nat} {sh:Nat->Option Sh} {x:Value} (h:AR w X μ sh (.lm id) x):∃ g m,sh id=some .mp/\μ id=some (g,m)/\x=.map (some g):=by
 cases h with
 | lm id g m hs hm=>exact⟨g,m,hs,hm,rfl⟩
theorem AR.lb_inv {id m:Nat} {sh:Nat->Option Sh} {x:Value} (h:AR w X μ sh (.lb id m) x):∃ g,sh id=some .bx/\μ id=some (g,m)/\m<=maxLen/\x=.slice (some ⟨g,0,none⟩) m m:=by
 cases h with
 | lb id g m hs hm hle=>exact⟨g,hs,hm,hle,rfl⟩
theorem AR.li_inv {id:Nat} {sh:Nat->Option Sh} {x:Value} (h:AR w X μ sh (.li id) x):∃ g m,sh id=some .it/\μ id=some (g,m)/\x=.pointer (some ⟨g,0,none⟩):=by
 cases h with
 | li id g m hs hm=>exact⟨g,m,hs,hm,rfl⟩
def qBI (d:Option TypeDesc) (a:AV):Bool:=match d,a with
 | some .string,.t (.v (.string _))=>true
 | some (.slice _),.t (.sl _ _ _)|some (.slice _),.ls _ _ _ _|some (.slice _),.lb _ _=>true
 | some (.map _ _),.t (.mp _)|some (.map _ _),.lm _=>true
 | _,_=>false
theorem qK6 {t:TypeId} {x:Operand} {a:AV} {n:Nat} (h:B0 w0 B κ X μ st tm w) (hg:Gl Γ w X) (ho:o.op=.call { callee:=.builtin .len,args:=#[x],argTypes:=#[t] }) (kx:A9 x=true)
  (hx:ev Γ st.env x=some a) (hd:qBI (P.underlying t) a=true) (hn:lenOf st.hp a=some n):Ad P w0 B κ X o (.t (.v (.int .i64 n))) st tm w ds:=by
 refine Ad.same h (v:=.int .i64 n) ?_ (.t _ _ (.v _))
 have hr:=Ah (ds:=ds) h hg hx kx
 unfold qBI at hd
 split at hd<;>rename_i hu
 ·simp only[lenOf,Option.some.injEq]at hn;subst hn
  have:=hr.t_inv.v_inv
  simp[execOp,ho,resolve,invoke,builtin,this,Builtin.len_,run_underlying hu,goInt]
 ·simp only[lenOf,Option.some.injEq]at hn;subst hn
  obtain⟨b,c,he,_⟩:=hr.t_inv.sl_val
  simp[execOp,ho,resolve,invoke,builtin,he,Builtin.len_,run_underlying hu,goInt]
 ·simp only[lenOf,Option.some.injEq]at hn;subst hn
  obtain⟨s,q,_,hc⟩:=hr.ls_inv
  rcases hc with⟨_,⟨a0,he⟩,_,rfl,_⟩|⟨g,m,c,b,_,he,_⟩<;>simp[execOp,ho,resolve,invoke,builtin,he,Builtin.len_,run_underlying hu,goInt]
 ·simp only[lenOf,Option.some.injEq]at hn;subst hn
  obtain⟨g,_,_,_,he⟩:=hr.lb_inv
  simp[execOp,ho,resolve,invoke,builtin,he,Builtin.len_,run_underlying hu,goInt]
 ·simp only[lenOf,Option.some.injEq]at hn;subst hn
  rcases hr.t_inv.mp_inv with⟨rfl,he⟩|⟨r,clock,ms,he,hh,_,hl,_⟩
  ·simp[execOp,ho,resolve,invoke,builtin,he,Builtin.len_,run_underlying hu,goInt]
  ·simp[execOp,ho,resolve,invoke,builtin,he,Builtin.len_,run_underlying hu,goInt,hl,getObj,Sem.run,hh]
 ·obtain⟨g,m,hs,hm,he⟩:=hr.lm_inv
  simp only[lenOf]at hn
  split at hn
  ·rename_i es hl
   simp only[Option.some.injEq]at hn;subst hn
   obtain⟨g',n',clock,ms,hm',hh,hle,_⟩:=h.reg _ _ hl
   rw[hm]at hm';cases hm'
   simp[execOp,ho,resolve,invoke,builtin,he,Builtin.len_,run_underlying hu,goInt,hle,getObj,Sem.run,hh]
  ·rename_i es hl
   simp only[Option.some.injEq]at hn;subst hn
   obtain⟨g',n',clock,ms,hm',hh,_,hle,_⟩:=h.reg _ _ hl
   rw[hm]at hm';cases hm'
   simp[execOp,ho,resolve,invoke,builtin,he,Builtin.len_,run_underlying hu,goInt,hle,getObj,Sem.run,hh]
  ·cases hn
 ·cases hd
theorem qGb {t e:TypeId} {x:Operand} {a:AV} {n:Nat} (h:B0 w0 B κ X μ st tm w) (hg:Gl Γ w X) (ho:o.op=.call { callee:=.builtin .cap,args:=#[x],argTypes:=#[t] }) (kx:A9 x=true)
  (hu:Ub P t=some e) (hx:ev Γ st.env x=some a) (ha:(∃ es nl,a=.t (.sl es (some n) nl))\/∃ id off len,a=.ls id off len (some n)):Ad P w0 B κ X o (.t (.v (.int .i64 n))) st tm w ds:=by
 refine Ad.same h (v:=.int .i64 n) ?_ (.t _ _ (.v _))
 have hr:=Ah (ds:=ds) h hg hx kx
 rcases ha with⟨es,nl,rfl⟩|⟨id,off,len,rfl⟩
 ·obtain⟨b,c,he,hc,_⟩:=hr.t_inv.sl_val
  cases hc n rfl
  simp[execOp,ho,resolve,invoke,builtin,he,Builtin.cap_,run_underlying (B9 hu),goInt]
 ·obtain⟨s,q,_,hc⟩:=hr.ls_inv
  rcases hc with⟨_,⟨_,he⟩,_,rfl,hc⟩|⟨g,m,c,b,_,he,_,_,_,_,_,hc,_⟩
  ·have:=hc n rfl;subst this
   simp[execOp,ho,resolve,invoke,builtin,he,Builtin.cap_,run_underlying (B9 hu),goInt]
  ·cases hc n rfl
   simp[execOp,ho,resolve,invoke,builtin,he,Builtin.cap_,run_underlying (B9 hu),goInt]
theorem q4Q (d:Nat) {t e:TypeId} {a b:Value} (hu:Ub P t=some e) (y:Option Addr) (n m:Nat) (h:(a=.slice y n m/\b=.slice none 0 0)\/(b=.slice y n m/\a=.slice none 0 0)) (w:World):(Op.equalIn (d+1) t a b).run P w=.ok y.isNone w:=by
 rcases h with⟨rfl,rfl⟩|⟨rfl,rfl⟩
 ·cases y<;>simp[Op.equalIn,run_underlying (B9 hu)]
 ·simp[Op.equalIn,run_underlying (B9 hu)]
theorem q6Q {t e:TypeId} {a b:Value} (hu:Ub P t=some e) (y:Option Addr) (n m:Nat) (h:(a=.slice y n m/\b=.slice none 0 0)\/(b=.slice y n m/\a=.slice none 0 0)) (w:World):(Op.equal t a b).run P w=.ok y.isNone w :=
 q4Q 9999 hu y n m h w
theorem q4w (d:Nat) {t:TypeId} (hu:P.underlying t=some .bool) (a b:Bool) (w:World):(Op.equalIn (d+1) t (.bool a) (.bool b)).run P w=.ok (a==b) w:=by
 simp[Op.equalIn,run_underlying hu]
theorem q27 {t:TypeId} (hu:P.underlying t=some .bool) (a b:Bool) (w:World):(Op.equal t (.bool a) (.bool b)).run P w=.ok (a==b) w:=q4w 9999 hu a b w
theorem qBJ {t e u:TypeId} {pos:Bool} {x p q:Operand} {es:List (List T)} {cap:Option Nat} {nl:Option Bool} {r:Bool} (h:B0 w0 B κ X μ st tm w) (hg:Gl Γ w X) (ho:o.op=.binOp (if pos then .eql else .neq) t p q u) (hpq:(p=x/\q=.const (.slice none 0 0))\/(q=x/\p=.const (.slice none 0 0)))
  (kx:A9 x=true) (hu:Ub P t=some e) (hx:ev Γ st.env x=some (.t (.sl es cap nl))) (hr:(∃ b,nl=some b/\r=(b==pos))\/(es≠[]/\r=!pos)):Ad P w0 B κ X o (.t (.v (.bool r))) st tm w ds:=by
 refine Ad.same h (v:=.bool r) ?_ (.t _ _ (.v _))
 obtain⟨a,c,he,_,hn,hne⟩:=(Ah (ds:=ds) h hg hx kx).t_inv.sl_val
 have hr2:r=(a.isNone==pos):=by
  rcases hr with⟨b,rfl,rfl⟩|⟨h1,rfl⟩
  ·rw[hn b rfl]
  ·rw[hne h1];cases pos<;>rfl
 have hrun:∀ A B:Value,((A=.slice a es.length c/\B=.slice none 0 0)\/(B=.slice a es.length c/\A=.slice none 0 0))->(do eqGuard (if pos then .eql else .neq) t p q A B;binOp (if pos then .eql else .neq) t A B:Sem Value).run P w=.ok (.bool r) w:=by
  intro A B hAB
  have:=q6Q (P:=P) hu a es.length c hAB w
  rcases hAB with⟨rfl,rfl⟩|⟨rfl,rfl⟩<;>cases pos<;>simp[eqGuard,binOp,this,hr2]
 rcases hpq with⟨rfl,rfl⟩|⟨rfl,rfl⟩
 ·have:=hrun _ (.slice none 0 0) (.inl ⟨he,rfl⟩)
  simp only[execOp,ho,Act.eval]at this he ⊢
  rw[he]at this ⊢
  simp only[Sem.run_bind]at this ⊢
  rw[this];rfl
 ·have:=hrun (.slice none 0 0) _ (.inr ⟨he,rfl⟩)
  simp only[execOp,ho,Act.eval]at this he ⊢
  rw[he]at this ⊢
  simp only[Sem.run_bind]at this ⊢
  rw[this];rfl
theorem qK7 {t u:TypeId} {pos:Bool} {x y:Operand} {a b:Bool} (h:B0 w0 B κ X μ st tm w) (hg:Gl Γ w X) (ho:o.op=.binOp (if pos then .eql else .neq) t x y u) (hu:P.underlying t=some .bool) (kx:A9 x=true) (ky:A9 y=true)
  (hx:ev Γ st.env x=some (.t (.v (.bool a)))) (hy:ev Γ st.env y=some (.t (.v (.bool b)))):Ad P w0 B κ X o (.t (.v (.bool (if pos then a==b else a != b)))) st tm w ds:=by
 have h1:=(Ah (ds:=ds) h hg hx kx).t_inv.v_inv
 have h2:=(Ah (ds:=ds) h hg hy ky).t_inv.v_inv
 refine Ad.same h (v:=.bool (if pos then a==b else a != b)) ?_ (.t _ _ (.v _))
 cases pos
 ·simp only[execOp,ho,h1,h2,Bool.false_eq_true,↓reduceIte]
  simp[eqGuard,binOp,q27 hu];cases a<;>cases b<;>rfl
 ·simp only[execOp,ho,h1,h2,↓reduceIte]
  simp[eqGuard,binOp,q27 hu]
theorem q9t {xs:List Value} {k:IntKind} {a:Int}:∀ {as:List AV} {r:IntKind×Int},Gf w X μ st.sh as xs->Vf false as (some a)=some r->as≠[]->(xs.foldlM Builtin.min2 (.int k a)).run P w=.ok (.int k r.2) w:=by
 induction xs generalizing a with
 | nil=>intro as r h hr hne;cases as with
  | nil=>exact absurd rfl hne
  | cons b as=>exact absurd h.1 (by simp)
 | cons x xs ih =>
  intro as r h hr hne
  match as,h with
  | b::as,h =>
   obtain⟨y,ys,he,hb,hs⟩:=h.cons_inv
   cases he
   match b,hr with
   | .t (.v (.int j q)),hr =>
    cases hb.t_inv.v_inv
    cases as with
    | nil =>
     simp only[Vf,Option.some.injEq]at hr;subst hr
     rw[hs.nil_inv]
     simp only[List.foldlM_cons,List.foldlM_nil,Sem.run_bind,Builtin.min2,Sem.run_pure,Result.andThen_ok]
     simp
    | cons c cs =>
     simp only[Vf]at hr
     simp only[List.foldlM_cons,Sem.run_bind,Builtin.min2,Sem.run_pure,Result.andThen_ok]
     exact ih hs hr (by simp)
theorem q9u {xs:List Value} {k:IntKind} {a:Int}:∀ {as:List AV} {r:IntKind×Int},Gf w X μ st.sh as xs->Vf true as (some a)=some r->as≠[]->(xs.foldlM Builtin.max2 (.int k a)).run P w=.ok (.int k r.2) w:=by
 induction xs generalizing a with
 | nil=>intro as r h hr hne;cases as with
  | nil=>exact absurd rfl hne
  | cons b as=>exact absurd h.1 (by simp)
 | cons x xs ih =>
  intro as r h hr hne
  match as,h with
  | b::as,h =>
   obtain⟨y,ys,he,hb,hs⟩:=h.cons_inv
   cases he
   match b,hr with
   | .t (.v (.int j q)),hr =>
    cases hb.t_inv.v_inv
    cases as with
    | nil =>
     simp only[Vf,Option.some.injEq]at hr;subst hr
     rw[hs.nil_inv]
     simp only[List.foldlM_cons,List.foldlM_nil,Sem.run_bind,Builtin.max2,Sem.run_pure,Result.andThen_ok]
     simp
    | cons c cs =>
     simp only[Vf]at hr
     simp only[List.foldlM_cons,Sem.run_bind,Builtin.max2,Sem.run_pure,Result.andThen_ok]
     exact ih hs hr (by simp)
end
end Go.Lg
namespace Go.Lg
open Go
section
variable {P:Program} {Γ:Tables} {w0:World} {B:Nat} {κ:Be} {X:Nat->Prop} {μ:Be} {st:St} {tm:Array Value} {w:World} {ds:List Deferred} {o:Oper}
theorem q6t {mx:Bool} {as:List AV} {xs:List Value} {r:IntKind×Int} (h:Gf w X μ st.sh as xs) (hr:Vf mx as none=some r) :
  ∃ k a ys bs,xs=.int k a::ys/\Gf w X μ st.sh bs ys/\((bs=[]/\r=(k,a))\/(bs≠[]/\Vf mx bs (some a)=some r)):=by
 match as,h,hr with
 | .t (.v (.int k a))::as,h,hr =>
  obtain⟨y,ys,he,hb,hs⟩:=h.cons_inv
  cases hb.t_inv.v_inv
  refine⟨k,a,ys,as,he,hs,?_⟩
  cases as with
  | nil=>simp only[Vf,Option.some.injEq]at hr;exact .inl ⟨rfl,hr.symm⟩
  | cons c cs=>simp only[Vf]at hr;exact .inr ⟨by simp,hr⟩
theorem Vg {mx:Bool} {k:IntKind}:∀ {as:List AV} {acc:Option Int} {r:IntKind×Int},G2 k as=true->Vf mx as acc=some r->r.1=k
 | .t (.v (.int j a))::[],acc,r,hs,hr=>by
  simp only[G2,Bool.and_eq_true,decide_eq_true_eq]at hs
  simp only[Vf,Option.some.injEq]at hr
  subst hr;exact hs.1
 | .t (.v (.int j a))::c::cs,acc,r,hs,hr=>by
  simp only[G2,Bool.and_eq_true]at hs
  simp only[Vf]at hr
  exact Vg (as:=c::cs) (by simpa[G2]using hs.2) hr
theorem qK8 {xs:List Operand} {ts:Array TypeId} {as:List AV} {r:IntKind×Int} {k:IntKind} (h:B0 w0 B κ X μ st tm w) (hg:Gl Γ w X) (ho:o.op=.call { callee:=.builtin .min,args:=xs.toArray,argTypes:=ts }) (kx:xs.all A9=true)
  (hx:Ip Γ st.env xs=some as) (hr:Vf false as none=some r) (hk:G2 k as=true):Ad P w0 B κ X o (.t (.v (.int r.1 r.2))) st tm w ds:=by
 refine Ad.same h (v:=.int r.1 r.2) ?_ (.t _ _ (.v _))
 have hk1:=Vg hk hr
 obtain⟨k',a,ys,bs,he,hs,hc⟩:=q6t (Ft (ds:=ds) h hg hx kx) hr
 have hk':k'=k:=by
  have:=Ft (ds:=ds) h hg hx kx
  match as,this,hk with
  | .t (.v (.int j q))::as,this,hk =>
   obtain⟨y,zs,he2,hb,_⟩:=this.cons_inv
   rw[he]at he2;cases he2
   cases hb.t_inv.v_inv
   simp only[G2,Bool.and_eq_true,decide_eq_true_eq]at hk;exact hk.1
  | [],this,_=>rw[he]at this;exact absurd this.1 (by simp)
 have hrun:(ys.foldlM Builtin.min2 (.int k' a)).run P w=.ok (.int r.1 r.2) w:=by
  rcases hc with⟨rfl,rfl⟩|⟨hne,hm⟩
  ·rw[hs.nil_inv];simp
  ·rw[q9t hs hm hne,hk1,hk']
 simp only[execOp,ho,resolve,invoke,builtin,List.map_toArray,he,Builtin.min_,Sem.run_bind,Sem.run_pure,Result.andThen_ok,hrun]
theorem qK9 {xs:List Operand} {ts:Array TypeId} {as:List AV} {r:IntKind×Int} {k:IntKind} (h:B0 w0 B κ X μ st tm w) (hg:Gl Γ w X) (ho:o.op=.call { callee:=.builtin .max,args:=xs.toArray,argTypes:=ts }) (kx:xs.all A9=true)
  (hx:Ip Γ st.env xs=some as) (hr:Vf true as none=some r) (hk:G2 k as=true):Ad P w0 B κ X o (.t (.v (.int r.1 r.2))) st tm w ds:=by
 refine Ad.same h (v:=.int r.1 r.2) ?_ (.t _ _ (.v _))
 have hk1:=Vg hk hr
 obtain⟨k',a,ys,bs,he,hs,hc⟩:=q6t (Ft (ds:=ds) h hg hx kx) hr
 have hk':k'=k:=by
  have:=Ft (ds:=ds) h hg hx kx
  match as,this,hk with
  | .t (.v (.int j q))::as,this,hk =>
   obtain⟨y,zs,he2,hb,_⟩:=this.cons_inv
   rw[he]at he2;cases he2
   cases hb.t_inv.v_inv
   simp only[G2,Bool.and_eq_true,decide_eq_true_eq]at hk;exact hk.1
  | [],this,_=>rw[he]at this;exact absurd this.1 (by simp)
 have hrun:(ys.foldlM Builtin.max2 (.int k' a)).run P w=.ok (.int r.1 r.2) w:=by
  rcases hc with⟨rfl,rfl⟩|⟨hne,hm⟩
  ·rw[hs.nil_inv];simp
  ·rw[q9u hs hm hne,hk1,hk']
 simp only[execOp,ho,resolve,invoke,builtin,List.map_toArray,he,Builtin.max_,Sem.run_bind,Sem.run_pure,Result.andThen_ok,hrun]
theorem qKA {f:FuncId} {xs:List Operand} {as:List AV} (hf:f<1000000000) (h:B0 w0 B κ X μ st tm w) (hg:Gl Γ w X) (ho:o.op=.makeFunc (.func f) #[] xs.toArray) (kx:xs.all A9=true) (hx:Ip Γ st.env xs=some as) :
  Ad P w0 B κ X o (match Iq as with|some ts=>.t (.fn f ts)|none=>.fn f as) st tm w ds:=by
 have hr:=Ft (ds:=ds) h hg hx kx
 refine Ad.same h (v:=.func (.func f) #[] (xs.map (Act.eval ⟨tm,ds⟩)).toArray) (by simp[execOp,ho,Instr.makeFunc]) ?_
 split
 ·rename_i ts hts
  have:=hr.toT hts
  exact .t _ _ (.fn f ts _ this.1 this.2)
 ·rw[<- q31 hf];exact .fn f as _ hr.1 hr.2
theorem qHX {f:FuncId} {xs:List Operand} {as:List AV} (h:B0 w0 B κ X μ st tm w) (hg:Gl Γ w X) (ho:o.op=.makeFunc (.func f) xs.toArray #[]) (kx:xs.all A9=true) (hx:Ip Γ st.env xs=some as) :
  Ad P w0 B κ X o (.fn (f+1000000000) as) st tm w ds:=by
 have hr:=Ft (ds:=ds) h hg hx kx
 refine Ad.same h (v:=fnV (f+1000000000) (xs.map (Act.eval ⟨tm,ds⟩))) (by rw[qHK];simp[execOp,ho,Instr.makeFunc]) ?_
 exact .fn _ as _ hr.1 hr.2
theorem Gw (w:World) (n:Nat) (o:Obj):(World.alloc { w with drawn:=n } o).heap[w.heap.size]? = some o:=heap_alloc_new { w with drawn:=n } o
theorem Dn {X:Nat->Prop} (h:∀ b,X b->b<w.heap.size) (n:Nat) (o:Obj):Same X w (World.alloc { w with drawn:=n } o):=fun b hb=>RowKit.Below.heap_alloc { w with drawn:=n } o b (h b hb)
theorem TR.new_ip (hx:∀ b,X b->b<w.heap.size) (n:Nat) {cs:List T} {xs:List Value} {ty:TypeId} {fr:Nat×Nat} {rest:List Value} (h1:Bi cs=true) (h:Ds w X cs xs) :
  TR (World.alloc { w with drawn:=n } (.cells (xs++rest).toArray ty fr)) (fun b=>X b\/b=w.heap.size) (.ip cs 0) (.pointer (some ⟨w.heap.size,0,none⟩)):=by
 have:=TR.mk_ip (w:=World.alloc { w with drawn:=n } (.cells (xs++rest).toArray ty fr)) (X:=fun b=>X b\/b=w.heap.size) (k:=0) (b:=w.heap.size) (off:=0) h1 (h.mono (Dn hx n _) (fun _ hb=>.inl hb)) (.inr rfl) (fun j y hy=>by
  rw[cell_of_row _ _ _ _ _ _ (Gw w n _)]
  have hj:=(List.getElem?_eq_some_iff.1 hy).1
  simp only[Nat.zero_add,List.getElem?_toArray]
  rw[List.getElem?_append_left hj,hy])
 simpa using this
theorem Za {t:TypeId} {zs:List Value} (h:Br P t=some zs) (w:World):∃ z:Value,(zeroValue t).run P w=.ok z w/\z.cells=zs.toArray:=by
 simp only[Br,Option.map_eq_some_iff,Option.bind_eq_some_iff]at h
 obtain⟨z,⟨i,hi,hz⟩,rfl⟩:=h
 exact⟨z,by simp[zeroValue,typeInfo,hi,hz],by simp⟩
theorem Jg {zs:List Value} (h:Hi zs=true):Bi (zs.map Ar)=true:=by
 simp only[Bi,List.all_map,List.all_eq_true,Function.comp_def,Hi]at h ⊢
 exact fun x hx=>q1K (h x hx)
theorem Oz (zs:List Value):Ds w X (zs.map Ar) zs:=⟨by simp,fun k t x ht hx=>by
 simp only[List.getElem?_map,hx,Option.map_some,Option.some.injEq]at ht;subst ht;exact q0S x⟩
theorem q9v {t:TypeId} {zs:List Value} (h:B0 w0 B κ X μ st tm w) (ho:o.op=.alloc t) (hz:Br P t=some zs) (h1:Hi zs=true):Ad P w0 B κ X o (.t (.ip (zs.map Ar) 0)) st tm w ds:=by
 obtain⟨z,hrun,hc⟩:=Za hz w
 refine Ad.block h (arr:=zs.toArray) (ty:=t) w.drawn (0,0) (v:=.pointer (some ⟨w.heap.size,0,none⟩)) ?_ (.t _ _ ?_)
 ·simp[execOp,ho,Instr.alloc,hrun,newVar,newRow,hc]
 ·have:=TR.new_ip (w:=w) (X:=X) h.xlt w.drawn (ty:=t) (fr:=(0,0)) (rest:=[]) (Jg h1) (Oz zs)
  simpa using this
theorem qDD {t:TypeId} {x:Operand} {a:AV} {ts:List T} (h:B0 w0 B κ X μ st tm w) (hg:Gl Γ w X) (ho:o.op=.box t x) (kx:A9 x=true) (hx:ev Γ st.env x=some a) (hts:Iq a.cells=some ts) (h1:Bi ts=true):Ad P w0 B κ X o (.t (.ip ts 0)) st tm w ds:=by
 have hr:=(Ah (ds:=ds) h hg hx kx).cells (by rw[Vy hts,Md];exact h1)
 refine Ad.block h (arr:=(Act.eval ⟨tm,ds⟩ x).cells) (ty:=t) w.drawn (0,0) (v:=.pointer (some ⟨w.heap.size,0,none⟩)) ?_ (.t _ _ ?_)
 ·simp[execOp,ho,Instr.box,newVar,newRow]
 ·have:=TR.new_ip (w:=w) (X:=X) h.xlt w.drawn (ty:=t) (fr:=(0,0)) (rest:=[]) h1 (hr.toT hts)
  simpa using this
theorem Ad.region {v:Value} {arr:Array Value} {ty:TypeId} {d:Nat} {a:AV} {r:Aj} (h:B0 w0 B κ X μ st tm w) (n:Nat) (hd:A2 st.hp d=none) (hbig:d<1000000)
  (hr:(execOp (Act.eval ⟨tm,ds⟩) o).run P w=.ok (.value v) (World.alloc { w with drawn:=n } (.cells arr ty)))
  (hreg:Bv (World.alloc { w with drawn:=n } (.cells arr ty)) X (μ.set d (some (w.heap.size,arr.size))) (St.sh ⟨st.env,(d,r)::st.hp⟩) d r)
  (ha:AR (World.alloc { w with drawn:=n } (.cells arr ty)) X (μ.set d (some (w.heap.size,arr.size))) (St.sh ⟨st.env,(d,r)::st.hp⟩) a v):Ad P w0 B κ X o a ⟨st.env,(d,r)::st.hp⟩ tm w ds:=by
 have hb:RowKit.Below w.heap.size w (World.alloc { w with drawn:=n } (.cells arr ty)):=⟨rfl,rfl,rfl,by simp,fun k hk=>RowKit.Below.heap_alloc { w with drawn:=n } _ _ hk⟩
 have h2:=h.grow (X':=X) hb (fun _ hx=>hx) (fun b hx=>.inl hx)
 refine⟨_,v,_,_,X,hr,.inl rfl,h2.addReg hd hbig r (some (w.heap.size,arr.size)) ?_ hreg,ha,fun _ hx=>hx,fun b hx=>hb.block b (h.xlt b hx),fun _ hx=>.inl hx⟩
 intro g m e
 cases e
 refine⟨fun hx=>?_,by simp,fun hlt=>absurd h.size (by omega),fun id n' hi hm=>?_⟩
 ·have:=h.xlt _ hx;omega
 ·have:=(h.loc id _ _ hi hm).2.1;omega
theorem Lt {env:List (Nat×AV)} {hp:List (Nat×Aj)} {d:Nat} {r:Aj}:St.sh ⟨env,(d,r)::hp⟩ d=some r.sh:=by simp[St.sh,A2]
theorem qDE {d:Nat} {r:Aj} (hd:A2 st.hp d=none) (l:Option (Nat×Nat)):∀ id q,st.sh id=some q->St.sh ⟨st.env,(d,r)::st.hp⟩ id=some q/\μ.set d l id=μ id:=by
 intro id q hq
 have hne:id≠d:=by intro e;subst e;simp[St.sh,hd]at hq
 exact⟨by simpa[St.sh,A2,Ne.symm hne]using hq,by simp[Be.set,hne]⟩
theorem q9w {d:Nat} {as:List AV} {xs:List Value} {ty:TypeId} (h:B0 w0 B κ X μ st tm w) (n:Nat) (hd:A2 st.hp d=none) (h1:Aw as=true) (hr:Gf w X μ st.sh as xs) :
  Bv (World.alloc { w with drawn:=n } (.cells xs.toArray ty)) X (μ.set d (some (w.heap.size,xs.toArray.size))) (St.sh ⟨st.env,(d,.bx as)::st.hp⟩) d (.bx as) :=
 ⟨fun k a hk=>K5 h1 hk,w.heap.size,xs.toArray,ty,by simp[Be.set],Gw w n _,by simp[hr.1],fun k a x ha hx=>(hr.2 k a x ha (by simpa using hx)).mono (Dn h.xlt n _) (fun _ hx=>hx) (qDE hd _)⟩
theorem qFM {t:TypeId} {zs:List Value} {d:Nat} (h:B0 w0 B κ X μ st tm w) (ho:o.op=.alloc t) (hz:Br P t=some zs) (h1:Hi zs=true) (hd:A2 st.hp d=none) (hbig:d<1000000) :
  Ad P w0 B κ X o (.lp d 0 0) ⟨st.env,(d,.bx (zs.map fun z=>.t (Ar z)))::st.hp⟩ tm w ds:=by
 obtain⟨z,hrun,hc⟩:=Za hz w
 have e:(zs.map fun z=>AV.t (Ar z))=(zs.map Ar).map .t:=by simp
 rw[e]
 refine Ad.region h (arr:=zs.toArray) (ty:=t) (v:=.pointer (some ⟨w.heap.size,0,none⟩)) w.drawn hd hbig ?_ (q9w h w.drawn hd (by rw[Md];exact Jg h1) (Gf.ofT (Oz zs))) ?_
 ·simp[execOp,ho,Instr.alloc,hrun,newVar,newRow,hc]
 ·exact .lpbx d 0 w.heap.size _ (by rw[Lt];rfl) (by simp only[Be.set,↓reduceIte];rfl)
theorem qDF {t:TypeId} {zs:List Value} {d:Nat} (h:B0 w0 B κ X μ st tm w) (ho:o.op=.alloc t) (hz:Br P t=some zs) (h1:Hi zs=true) (hd:A2 st.hp d=none) (hbig:d<1000000) :
  Ad P w0 B κ X o (.lp d 0 0) ⟨st.env,(d,.rs t zs.length [zs.map fun z=>.t (Ar z)])::st.hp⟩ tm w ds:=by
 obtain⟨z,hrun,hc⟩:=Za hz w
 have e:(zs.map fun z=>AV.t (Ar z))=(zs.map Ar).map .t:=by simp
 rw[e]
 refine Ad.region h (arr:=zs.toArray) (ty:=t) (v:=.pointer (some ⟨w.heap.size,0,none⟩)) w.drawn hd hbig ?_ ⟨fun i e hi=>?_,.inr ⟨w.heap.size,zs.toArray,by simp[Be.set],Gw w _ _,by simp,fun i k e a x hi ha hx=>?_⟩⟩ ?_
 ·simp[execOp,ho,Instr.alloc,hrun,newVar,newRow,hc]
 ·have hm:=List.mem_of_getElem? hi
  simp only[List.mem_singleton]at hm
  subst hm
  exact⟨by simp,fun k a ha=>K5 (by rw[Md];exact Jg h1) ha⟩
 ·have hi0:i=0:=by have:=(List.getElem?_eq_some_iff.1 hi).1;simp at this;omega
  subst hi0
  simp only[List.getElem?_cons_zero,Option.some.injEq]at hi
  subst hi
  have hr:Gf w X μ st.sh ((zs.map Ar).map .t) zs:=Gf.ofT (Oz zs)
  exact(hr.2 k a x ha (by simpa using hx)).mono (Dn h.xlt _ _) (fun _ hx=>hx) (qDE hd _)
 ·have:=AR.lpsl (w:=World.alloc { w with drawn:=w.drawn } (.cells zs.toArray t)) (X:=X) (μ:=μ.set d (some (w.heap.size,zs.toArray.size))) (sh:=St.sh ⟨st.env,(d,.rs t zs.length [(zs.map Ar).map .t])::st.hp⟩) d 0 0 zs.length 1 w.heap.size zs.toArray.size (by rw[Lt];rfl) (by simp only[Be.set,↓reduceIte])
  simpa using this
theorem qKB {t:TypeId} {x:Operand} {a:AV} {d:Nat} (h:B0 w0 B κ X μ st tm w) (hg:Gl Γ w X) (ho:o.op=.box t x) (kx:A9 x=true) (hx:ev Γ st.env x=some a) (h1:Aw a.cells=true) (hd:A2 st.hp d=none) (hbig:d<1000000) :
  Ad P w0 B κ X o (.lp d 0 0) ⟨st.env,(d,.bx a.cells)::st.hp⟩ tm w ds:=by
 have hr:=(Ah (ds:=ds) h hg hx kx).cells h1
 refine Ad.region h (arr:=(Act.eval ⟨tm,ds⟩ x).cells.toList.toArray) (ty:=t) (v:=.pointer (some ⟨w.heap.size,0,none⟩)) w.drawn hd hbig ?_ (q9w h w.drawn hd h1 hr) ?_
 ·simp[execOp,ho,Instr.box,newVar,newRow]
 ·exact .lpbx d 0 w.heap.size _ (by rw[Lt];rfl) (by simp only[Be.set,↓reduceIte];rfl)
end
end Go.Lg
namespace Go.Lg
open Go
section
variable {P:Program} {Γ:Tables} {w0:World} {B:Nat} {κ:Be} {X:Nat->Prop} {μ:Be} {st:St} {tm:Array Value} {w:World} {ds:List Deferred} {o:Oper}
theorem q6u (off:Nat):∀ (xs:List Value) (k:Nat) (A M C:List Value),M.length=xs.length->A.length=off+k ->
  (xs.zipIdx k).foldl (fun(cs:Array Value) (p:Value×Nat)=>cs.setIfInBounds (off+p.2) p.1) (A++M++C).toArray=(A++xs++C).toArray
 | [],k,A,M,C,hM,hA=>by simp at hM;subst hM;rfl
 | x::xs,k,A,M,C,hM,hA=>by
  cases M with
  | nil=>simp at hM
  | cons m M =>
   have ih:=q6u off xs (k+1) (A++[x]) M C (by simpa using hM) (by simp;omega)
   have e:((A++m::M++C).toArray.setIfInBounds (off+k) x)=(A++[x]++M++C).toArray:=by
    apply Array.ext'
    simp[<- hA,List.set_append]
   simp only[List.zipIdx_cons,List.foldl_cons,e,ih]
   simp
theorem q8T {place:Nat->Option (Nat×Nat)} {i off s:Nat} {v:Value} {A M C:List Value} {rest:List (Nat×Value)} (hp:place i=some (off,s)) (hs:v.cells.size=s) (hA:A.length=off) (hM:M.length=s) :
  Instr.fill place (A++M++C).toArray ((i,v)::rest)=Instr.fill place (A++v.cells.toList++C).toArray rest:=by
 have h1:¬ (v.cells.size≠s\/off+v.cells.size > (A++M++C).toArray.size):=by simp;omega
 have h2:(v.cells.size≠s||off+v.cells.size > (A++M++C).toArray.size)=false:=by
  simp only[decide_not,Bool.or_eq_false_iff,Bool.not_eq_eq_eq_not,Bool.not_false,decide_eq_true_eq,decide_eq_false_iff_not]
  simp;omega
 have h3:=q6u off v.cells.toList 0 A M C (by simp;omega) (by omega)
 have h4:v.cells.zipIdx.foldl (fun(cs:Array Value) (p:Value×Nat)=>cs.setIfInBounds (off+p.2) p.1) (A++M++C).toArray=(A++v.cells.toList++C).toArray:=by
  rw[<- h3,<- Array.foldl_toList,Array.toList_zipIdx]
 simp only[Instr.fill,hp,h2,Bool.false_eq_true,↓reduceIte]
 rw[h4]
def cellsOf (ρ:Operand->Value) (qs:List (Nat×Operand)):List Value:=qs.flatMap fun q=>(ρ q.2).cells.toList
theorem Xl (ρ:Operand->Value) (hρ:∀ v,ρ (.const v)=v) (place:Nat->Option (Nat×Nat)):∀ (fs:List (Nat×Nat)) (j off:Nat) (zs:List Value) (ps qs:List (Nat×Operand)) (A:List Value),
  Qe j off fs zs ps qs=true->(∀ i,place (j+i)=fs[i]?)->A.length=off->(∀ q∈qs,(ρ q.2).cells.size=q.1) ->
  Instr.fill place (A++zs).toArray (ps.map fun p=>(p.1,ρ p.2))=some (A++cellsOf ρ qs).toArray
 | [],j,off,zs,ps,qs,A,h,hp,hA,hq=>by
  simp only[Qe,Bool.and_eq_true,List.isEmpty_iff]at h
  obtain⟨⟨rfl,rfl⟩,rfl⟩:=h
  simp[Instr.fill,cellsOf]
 | (o,s)::fs,j,off,zs,ps,[],A,h,hp,hA,hq=>by simp[Qe]at h
 | (o,s)::fs,j,off,zs,ps,(s',x)::qs,A,h,hp,hA,hq=>by
  simp only[Qe,Bool.and_eq_true,beq_iff_eq,decide_eq_true_eq]at h
  obtain⟨⟨⟨rfl,rfl⟩,hle⟩,h⟩:=h
  have hsz:=hq (s,x) (by simp)
  have hq':∀ q∈qs,(ρ q.2).cells.size=q.1:=fun q hm=>hq q (by simp[hm])
  have hp':∀ i,place (j+1+i)=fs[i]? := fun i=>by have:=hp (i+1);rw[show j+1+i=j+(i+1)by omega,this];simp
  have hp0:place j=some (o,s):=by have:=hp 0;simpa using this
  have hz:zs=zs.take s++zs.drop s:=(List.take_append_drop s zs).symm
  have hts:(zs.take s).length=s:=by simp;omega
  have zero:∀ {ps},(match x with | .const v=>Nb v.cells.toList (zs.take s)|_=>false)=true->Qe (j+1) (o+s) fs (zs.drop s) ps qs=true ->
    Instr.fill place (A++zs).toArray (ps.map fun p=>(p.1,ρ p.2))=some (A++cellsOf ρ ((s,x)::qs)).toArray:=by
   intro ps hx hr
   split at hx
   ·rename_i v
    have hv:=K3 hx
    have:=Xl ρ hρ place fs (j+1) (o+s) (zs.drop s) ps qs (A++zs.take s) hr hp' (by simp;omega) hq'
    rw[List.append_assoc,<- hz]at this
    rw[this,<- hv]
    simp[cellsOf,hρ]
   ·cases hx
  split at h
  ·rename_i i y ps'
   split at h
   ·rename_i hij
    (try simp only[beq_iff_eq]at hij);subst hij
    (try simp only[Bool.and_eq_true]at h)
    have hxy:=A8 h.1
    subst hxy
    have:=Xl ρ hρ place fs (i+1) (o+s) (zs.drop s) ps' qs (A++(ρ x).cells.toList) h.2 hp' (by simp[hsz,hA]) hq'
    rw[hz,<- List.append_assoc,List.map_cons,q8T hp0 hsz hA hts,this]
    simp[cellsOf]
   ·(try simp only[Bool.and_eq_true]at h)
    exact zero h.1 h.2
  ·(try simp only[Bool.and_eq_true]at h)
   exact zero h.1 h.2
theorem q3y {α β:Type} (f:α->Option β):∀ l:List α,Ac (l.map f)=l.mapM f
 | []=>rfl
 | a::l=>by
  rw[List.mapM_cons,<- q3y f l,List.map_cons]
  cases f a with
  | none=>rfl
  | some b=>simp only[Ac];cases Ac (l.map f)<;>rfl
theorem q7o {t:TypeId} {fs:List (Nat×Nat)} (h:q4i P t=some fs):∃ fields,P.underlying t=some (.struct fields)/\fields.toList.mapM (fun f=>(P.info? f.type).map fun i=>(f.offset,i.size))=some fs:=by
 unfold q4i at h
 split at h
 ·rename_i fields hu
  refine⟨fields,hu,?_⟩
  rw[q3y]at h
  rw[<- h]
  congr 1
  funext f
  simp only[Ic]
  cases P.info? f.type<;>rfl
 ·cases h
theorem q0T {μ:Be} {sh:Nat->Option Sh} (ρ:Operand->Value):∀ {qs:List (Nat×Operand)} {as:List AV},Gf w X μ sh as (qs.map fun q=>ρ q.2)->Aw (as.flatMap AV.cells)=true->Gf w X μ sh (as.flatMap AV.cells) (cellsOf ρ qs)
 | [],as,h,h1=>by
  have:as=[]:=List.eq_nil_of_length_eq_zero (by simpa using h.1)
  subst this;exact Gf.nil
 | q::qs,[],h,h1=>absurd h.1 (by simp)
 | q::qs,a::as,h,h1=>by
  obtain⟨y,ys,he,ha,hs⟩:=h.cons_inv
  simp only[List.map_cons,List.cons.injEq]at he
  obtain⟨rfl,rfl⟩:=he
  simp only[List.flatMap_cons,Aw,List.all_append,Bool.and_eq_true]at h1
  simp only[List.flatMap_cons,cellsOf]
  exact(ha.cells h1.1).append (q0T ρ hs h1.2)
theorem q0U {μ:Be} {sh:Nat->Option Sh} (ρ:Operand->Value):∀ {qs:List (Nat×Operand)} {as:List AV},Gf w X μ sh as (qs.map fun q=>ρ q.2)->Aw (as.flatMap AV.cells)=true->as.map (·.cells.length)=qs.map (·.1)->∀ q∈qs,(ρ q.2).cells.size=q.1
 | [],as,h,h1,hl=>fun q hq=>by simp at hq
 | q::qs,[],h,h1,hl=>absurd h.1 (by simp)
 | q::qs,a::as,h,h1,hl=>by
  obtain⟨y,ys,he,ha,hs⟩:=h.cons_inv
  simp only[List.map_cons,List.cons.injEq]at he
  obtain⟨rfl,rfl⟩:=he
  simp only[List.flatMap_cons,Aw,List.all_append,Bool.and_eq_true]at h1
  simp only[List.map_cons,List.cons.injEq]at hl
  intro p hp
  rcases List.mem_cons.1 hp with rfl|hp
  ·have:=(ha.cells h1.1).1;simp at this;omega
  ·exact q0U ρ hs h1.2 hl.2 p hp
theorem qFN {t:TypeId} {ps:Array (Nat×Operand)} {qs:List (Nat×Operand)} {fs:List (Nat×Nat)} {zs:List Value} {as:List AV} (h:B0 w0 B κ X μ st tm w) (hg:Gl Γ w X) (ho:o.op=.build t ps) (kx:(qs.map (·.2)).all A9=true)
  (hf:q4i P t=some fs) (hz:Br P t=some zs) (hp:Qe 0 0 fs zs ps.toList qs=true) (hx:Ip Γ st.env (qs.map (·.2))=some as) (hl:as.map (·.cells.length)=qs.map (·.1)) (h1:Aw (as.flatMap AV.cells)=true) :
  Ad P w0 B κ X o (.ag (as.flatMap AV.cells)) st tm w ds:=by
 have hr:=Ft (ds:=ds) h hg hx kx
 rw[List.map_map]at hr
 obtain⟨fields,hu,hm⟩:=q7o hf
 have hcs:=q0U (Act.eval ⟨tm,ds⟩) hr h1 hl
 have hfill:=Xl (Act.eval ⟨tm,ds⟩) (fun _=>rfl) (fs.toArray[·]?) fs 0 0 zs ps.toList qs [] hp (by simp) rfl hcs
 simp only[List.nil_append]at hfill
 simp only[Br,Option.map_eq_some_iff,Option.bind_eq_some_iff]at hz
 obtain⟨z,⟨i,hi,hzz⟩,rfl⟩:=hz
 have hb:P.built t (ps.toList.map fun p=>(p.1,Act.eval ⟨tm,ds⟩ p.2))=some (cellsOf (Act.eval ⟨tm,ds⟩) qs).toArray:=by
  simp only[Program.built,hi,hu,hzz,hm]
  simpa using hfill
 refine Ad.same h (v:=.agg (cellsOf (Act.eval ⟨tm,ds⟩) qs).toArray) ?_ (AR.mk_ag h1 (q0T (Act.eval ⟨tm,ds⟩) hr h1))
 have:=run_build (P:=P) w t (ps.map fun p=>(p.1,Act.eval ⟨tm,ds⟩ p.2)) _ (by rw[Array.toList_map];exact hb)
 simp only[execOp,ho,Sem.run_bind,this]
 rfl
theorem q8U {t:TypeId} {ps:Array (Nat×Operand)} {qs:List (Nat×Operand)} {zs:List Value} {as:List AV} (h:B0 w0 B κ X μ st tm w) (hg:Gl Γ w X) (ho:o.op=.build t ps) (kx:(qs.map (·.2)).all A9=true)
  (hps:ps.isEmpty=true) (hf:qHP P t=true) (hz:Br P t=some zs) (hp:Qe 0 0 [(0,zs.length)] zs [] qs=true) (hx:Ip Γ st.env (qs.map (·.2))=some as) (hl:as.map (·.cells.length)=qs.map (·.1)) (h1:Aw (as.flatMap AV.cells)=true) :
  Ad P w0 B κ X o (.ag (as.flatMap AV.cells)) st tm w ds:=by
 have hps:ps=#[]:=by simpa using hps
 subst hps
 have hr:=Ft (ds:=ds) h hg hx kx
 rw[List.map_map]at hr
 unfold qHP at hf
 split at hf
 case h_2=>cases hf
 rename_i n e hu
 obtain⟨ie,hie⟩:=Option.isSome_iff_exists.1 hf
 have hcs:=q0U (Act.eval ⟨tm,ds⟩) hr h1 hl
 have hfill:=Xl (Act.eval ⟨tm,ds⟩) (fun _=>rfl) ([(0,zs.length)].toArray[·]?) [(0,zs.length)] 0 0 zs [] qs [] hp (by simp) rfl hcs
 simp only[List.nil_append,List.map_nil,Instr.fill]at hfill
 simp only[Br,Option.map_eq_some_iff,Option.bind_eq_some_iff]at hz
 obtain⟨z,⟨i,hi,hzz⟩,rfl⟩:=hz
 have hb:P.built t []=some (cellsOf (Act.eval ⟨tm,ds⟩) qs).toArray:=by
  simp only[Program.built,hi,hu,hzz,hie,Instr.fill]
  simpa using hfill
 refine Ad.same h (v:=.agg (cellsOf (Act.eval ⟨tm,ds⟩) qs).toArray) ?_ (AR.mk_ag h1 (q0T (Act.eval ⟨tm,ds⟩) hr h1))
 have:=run_build (P:=P) w t #[] _ hb
 simp only[execOp,ho,Sem.run_bind]
 simp only[Array.map_empty,this]
 rfl
theorem q1M (ρ:Operand->Value) (s:Nat):∀ (xs:List Operand) (j:Nat) (ps:List (Nat×Operand)) (A M:List Value),K4 j ps xs=true->A.length=j*s->M.length=xs.length*s->(∀ x∈xs,(ρ x).cells.size=s) ->
  Instr.fill (fun i=>some (i*s,s)) (A++M).toArray (ps.map fun p=>(p.1,ρ p.2))=some (A++xs.flatMap fun x=>(ρ x).cells.toList).toArray
 | [],j,[],A,M,h,hA,hM,hq=>by
  have:M=[]:=List.eq_nil_of_length_eq_zero (by simpa using hM)
  subst this;simp[Instr.fill]
 | [],j,p::ps,A,M,h,hA,hM,hq=>by simp[K4]at h
 | x::xs,j,[],A,M,h,hA,hM,hq=>by simp[K4]at h
 | x::xs,j,(i,y)::ps,A,M,h,hA,hM,hq=>by
  simp only[K4,Bool.and_eq_true,beq_iff_eq]at h
  obtain⟨⟨rfl,hxy⟩,h⟩:=h
  have:=A8 hxy;subst this
  have hx:=hq x (by simp)
  have hz:M=M.take s++M.drop s:=(List.take_append_drop s M).symm
  have hts:(M.take s).length=s:=by
   simp only[List.length_cons,Nat.add_mul,Nat.one_mul]at hM
   simp;omega
  have ih:=q1M ρ s xs (i+1) ps (A++(ρ x).cells.toList) (M.drop s) h (by simp[hx,hA,Nat.add_mul]) (by simp only[List.length_drop,hM,List.length_cons,Nat.add_mul,Nat.one_mul];omega) (fun x hm=>hq x (by simp[hm]))
  rw[hz,<- List.append_assoc,List.map_cons,q8T (by rfl) hx hA hts,ih]
  simp
theorem q7p {t:TypeId} {ps:Array (Nat×Operand)} {qs:List (Nat×Operand)} {zs:List Value} {as:List AV} (h:B0 w0 B κ X μ st tm w) (hg:Gl Γ w X) (ho:o.op=.build t ps) (kx:(qs.map (·.2)).all A9=true)
  (hf:qHQ P t ps.toList zs qs=true) (hz:Br P t=some zs) (hx:Ip Γ st.env (qs.map (·.2))=some as) (hl:as.map (·.cells.length)=qs.map (·.1)) (h1:Aw (as.flatMap AV.cells)=true) :
  Ad P w0 B κ X o (.ag (as.flatMap AV.cells)) st tm w ds:=by
 have hr:=Ft (ds:=ds) h hg hx kx
 rw[List.map_map]at hr
 unfold qHQ at hf
 split at hf
 case h_2=>cases hf
 rename_i n e hu
 split at hf
 case h_2=>cases hf
 rename_i s hs
 simp only[Bool.and_eq_true,beq_iff_eq,List.all_eq_true]at hf
 obtain⟨⟨ho1,hall⟩,hlen⟩:=hf
 simp only[Ic,Option.map_eq_some_iff]at hs
 obtain⟨ie,hie,hsz⟩:=hs
 have hcs:=q0U (Act.eval ⟨tm,ds⟩) hr h1 hl
 have hq2:∀ x∈qs.map (·.2),(Act.eval ⟨tm,ds⟩ x).cells.size=s:=fun x hx=>by
  obtain⟨q,hq,rfl⟩:=List.mem_map.1 hx
  rw[hcs q hq];exact hall q hq
 have hfill:=q1M (Act.eval ⟨tm,ds⟩) s (qs.map (·.2)) 0 ps.toList [] zs ho1 (by simp) (by simpa using hlen) hq2
 simp only[List.nil_append]at hfill
 have hfl:((qs.map (·.2)).flatMap fun x=>(Act.eval ⟨tm,ds⟩ x).cells.toList)=cellsOf (Act.eval ⟨tm,ds⟩) qs:=by simp[cellsOf,List.flatMap_map]
 rw[hfl]at hfill
 simp only[Br,Option.map_eq_some_iff,Option.bind_eq_some_iff]at hz
 obtain⟨z,⟨i,hi,hzz⟩,rfl⟩:=hz
 have hb:P.built t (ps.toList.map fun p=>(p.1,Act.eval ⟨tm,ds⟩ p.2))=some (cellsOf (Act.eval ⟨tm,ds⟩) qs).toArray:=by
  simp only[Program.built,hi,hu,hzz,hie,hsz]
  simpa using hfill
 refine Ad.same h (v:=.agg (cellsOf (Act.eval ⟨tm,ds⟩) qs).toArray) ?_ (AR.mk_ag h1 (q0T (Act.eval ⟨tm,ds⟩) hr h1))
 have:=run_build (P:=P) w t (ps.map fun p=>(p.1,Act.eval ⟨tm,ds⟩ p.2)) _ (by rw[Array.toList_map];exact hb)
 simp only[execOp,ho,Sem.run_bind,this]
 rfl
theorem q7q {t ty s n:Nat} {ps:Array (Nat×Operand)} {xs:List Operand} {zs:List Value} (ρ:Operand->Value) (hu:Ub P t=some ty) (hz:Ic P ty=some s) (hn:n=xs.length) (ho:K4 0 ps.toList xs=true) (hzo:Br P ty=some zs) (hzl:zs.length=s) (hs:0<s)
  (hbig:n*s<=16777216) (hq:∀ x∈xs,(ρ x).cells.size=s) (w:World) :
  (Instr.buildSlice t n (ps.map fun p=>(p.1,ρ p.2))).run P w=.ok (.slice (some ⟨w.heap.size,0,none⟩) n n) (w.alloc (.cells (xs.flatMap fun x=>(ρ x).cells.toList).toArray ty)):=by
 obtain⟨z,hzr,hzc⟩:=Za hzo w
 have hb:¬ (n*s > 2 ^ 24):=by omega
 subst hn
 by_cases h0:xs.length*s=0
 ·have:xs=[]:=by
   rcases Nat.mul_eq_zero.1 h0 with h|h
   ·exact List.eq_nil_of_length_eq_zero h
   ·omega
  subst this
  have hps:ps=#[]:=by
   cases hp:ps.toList with
   | nil=>exact Array.toList_inj.1 (by simpa using hp)
   | cons p q=>rw[hp]at ho;simp[K4]at ho
  subst hps
  simp[Instr.buildSlice,run_underlying (B9 hu),Cm hz,Instr.fill,newRow]
  have e:Array.range 0=#[]:=by apply Array.toList_inj.1;simp
  rw[e];simp
 ·have hfill:=q1M ρ s xs 0 ps.toList [] ((Array.range (xs.length*s)).map (z.cells[· % z.cells.size]!)).toList ho (by simp) (by simp) hq
  simp only[List.nil_append,Array.toArray_toList]at hfill
  simp only[Instr.buildSlice,Sem.run_bind,run_underlying (B9 hu),Result.andThen_ok,Cm hz,hb,Sem.run_ite,if_false,Sem.run_pure,h0,hzr]
  rw[Array.toList_map,hfill]
  simp[newRow]
end
end Go.Lg
namespace Go.Lg
open Go
section
variable {P:Program} {Γ:Tables} {w0:World} {B:Nat} {κ:Be} {X:Nat->Prop} {μ:Be} {st:St} {tm:Array Value} {w:World} {ds:List Deferred} {o:Oper}
theorem Nc {α:Type} {s:Nat}:∀ {L:List (List α)},(∀ l∈L,l.length=s)->∀ (i k:Nat),k<s->L.flatten[i*s+k]? = (L[i]?).bind fun l=>l[k]?
 | [],_,i,k,_=>by simp
 | l::L,h,0,k,hk=>by
  have hl:=h l (by simp)
  simp only[Nat.zero_mul,Nat.zero_add,List.flatten_cons,List.getElem?_cons_zero,Option.bind_some]
  rw[List.getElem?_append_left (by omega)]
 | l::L,h,i+1,k,hk=>by
  have hl:=h l (by simp)
  have ih:=Nc (L:=L) (fun l hm=>h l (by simp[hm])) i k hk
  simp only[List.flatten_cons,List.getElem?_cons_succ]
  rw[List.getElem?_append_right (by rw[hl,Nat.add_mul];omega),<- ih]
  congr 1
  rw[hl,Nat.add_mul];omega
theorem Az {α:Type} {s:Nat}:∀ {L:List (List α)},(∀ l∈L,l.length=s)->L.flatten.length=L.length*s
 | [],_=>by simp
 | l::L,h=>by
  have ih:=Az (L:=L) (fun l hm=>h l (by simp[hm]))
  have:=h l (by simp)
  simp only[List.flatten_cons,List.length_append,List.length_cons,Nat.add_mul,Nat.one_mul];omega
def Els (w:World) (X:Nat->Prop) (s:Nat) (es:List (List T)) (vs:List (List Value)):Prop:=es.length=vs.length/\(∀ v∈vs,v.length=s)/\(∀ e∈es,e.length=s/\Bi e=true)/\∀ (i:Nat) (e:List T) (v:List Value),es[i]? = some e->vs[i]? = some v->Ds w X e v
theorem Els.mono {w w':World} {X Y:Nat->Prop} (hs:Same X w w') (hxy:∀ b,X b->Y b) {s:Nat} {es:List (List T)} {vs:List (List Value)} (h:Els w X s es vs):Els w' Y s es vs :=
 ⟨h.1,h.2.1,h.2.2.1,fun i e v h1 h2=>(h.2.2.2 i e v h1 h2).mono hs hxy⟩
theorem Els.append {s:Nat} {es fs:List (List T)} {vs us:List (List Value)} (h:Els w X s es vs) (g:Els w X s fs us):Els w X s (es++fs) (vs++us):=by
 refine⟨by simp[h.1,g.1],fun v hv=>?_,fun e he=>?_,fun i e v he hv=>?_⟩
 ·rcases List.mem_append.1 hv with hv|hv
  ·exact h.2.1 v hv
  ·exact g.2.1 v hv
 ·rcases List.mem_append.1 he with he|he
  ·exact h.2.2.1 e he
  ·exact g.2.2.1 e he
 ·by_cases hi:i<es.length
  ·rw[List.getElem?_append_left hi]at he
   rw[List.getElem?_append_left (by rw[<- h.1];exact hi)]at hv
   exact h.2.2.2 i e v he hv
  ·rw[List.getElem?_append_right (by omega)]at he
   rw[List.getElem?_append_right (by rw[<- h.1];omega),<- h.1]at hv
   exact g.2.2.2 _ e v he hv
theorem q4x {s:Nat} {es:List (List T)} {vs:List (List Value)} (h:Els w X s es vs) {arr:Array Value} {rest:List Value} (ha:arr.toList=vs.flatten++rest) {i k:Nat} (hi:i<es.length) (hk:k<s) :
  ∃ v x,vs[i]? = some v/\v[k]? = some x/\arr[i*s+k]? = some x:=by
 have hi':i<vs.length:=by rw[<- h.1];exact hi
 have hv:vs[i]? = some vs[i]:=by simp[hi']
 have hl:=h.2.1 vs[i] (List.getElem_mem hi')
 have hx:vs[i][k]? = some (vs[i][k]'(by omega)):=by simp[hl,hk]
 refine⟨_,_,hv,hx,?_⟩
 have hf:=Nc h.2.1 i k hk
 rw[hv]at hf
 simp only[Option.bind_some,hx]at hf
 have:arr.toList[i*s+k]? = some (vs[i][k]'(by omega)):=by
  rw[ha,List.getElem?_append_left (List.getElem?_eq_some_iff.1 hf).1,hf]
 simpa using this
theorem TR.new_sl {s b c:Nat} {es:List (List T)} {vs:List (List Value)} {cap:Option Nat} {nl:Option Bool} (h:Els w X s es vs) {arr:Array Value} {ty:TypeId} {fr:Nat×Nat} {rest:List Value} (hb:w.heap[b]? = some (.cells arr ty fr))
  (ha:arr.toList=vs.flatten++rest) (hx:X b) (hle:es.length<=c) (hc:∀ n,cap=some n->c=n) (hn:∀ q,nl=some q->q=false):TR w X (.sl es cap nl) (.slice (some ⟨b,0,none⟩) es.length c):=by
 refine TR.mk_sl (s:=s) (f:=fun i k=>(arr[i*s+k]?).getD undef) hx hle hc hn (fun e he=>(h.2.2.1 e he).1) (fun e he=>(h.2.2.1 e he).2) (fun i k hi hk=>?_) (fun i k e t he ht=>?_)
 ·obtain⟨v,x,_,_,hg⟩:=q4x h ha hi hk
  rw[cell_of_row _ _ _ _ _ _ hb,Nat.zero_add,hg];rfl
 ·have hi:=(List.getElem?_eq_some_iff.1 he).1
  have hk:k<s:=by rw[<- (h.2.2.1 e (List.mem_of_getElem? he)).1];exact(List.getElem?_eq_some_iff.1 ht).1
  obtain⟨v,x,hv,hx,hg⟩:=q4x h ha hi hk
  simp only[hg,Option.getD_some]
  exact(h.2.2.2 i e v he hv).2 k t x ht hx
theorem Zb {μ:Be} {sh:Nat->Option Sh} {id s b:Nat} {es:List (List T)} {vs:List (List Value)} (h:Els w X s es vs) {arr:Array Value} {ty:TypeId} {rest:List Value} (hm:μ id=some (b,arr.size)) (hb:w.heap[b]? = some (.cells arr ty (0,0)))
  (ha:arr.toList=vs.flatten++rest):Bv w X μ sh id (.sl ty s es):=by
 refine⟨fun i e he=>⟨(h.2.2.1 e (List.mem_of_getElem? he)).1,fun k t ht=>q26 (h.2.2.1 e (List.mem_of_getElem? he)).2 ht⟩,.inr ⟨b,arr,hm,hb,?_,fun i k e t x he ht hx=>?_⟩⟩
 ·have:=congrArg List.length ha
  simp only[List.length_append,Az h.2.1,Array.length_toList,<- h.1]at this;omega
 ·have hi:=(List.getElem?_eq_some_iff.1 he).1
  have hk:k<s:=by rw[<- (h.2.2.1 e (List.mem_of_getElem? he)).1];exact(List.getElem?_eq_some_iff.1 ht).1
  obtain⟨v,y,hv,hy,hg⟩:=q4x h ha hi hk
  rw[hg]at hx;cases hx
  exact(h.2.2.2 i e v he hv).2 k t _ ht hy
theorem q7r {μ:Be} {sh:Nat->Option Sh} (ρ:Operand->Value) {s:Nat}:∀ {xs:List Operand} {as:List AV} {es:List (List T)},Gf w X μ sh as (xs.map ρ)->Ac (as.map fun a=>Iq a.cells)=some es->(∀ e∈es,e.length=s/\Bi e=true) ->
  Els w X s es (xs.map fun x=>(ρ x).cells.toList)
 | [],as,es,h,he,h1=>by
  have:as=[]:=List.eq_nil_of_length_eq_zero (by simpa using h.1)
  subst this
  simp only[List.map_nil,Ac,Option.some.injEq]at he;subst he
  exact⟨rfl,by simp,by simp,by simp⟩
 | x::xs,[],es,h,he,h1=>absurd h.1 (by simp)
 | x::xs,a::as,es,h,he,h1=>by
  obtain⟨y,ys,hy,ha,hs⟩:=h.cons_inv
  simp only[List.map_cons,List.cons.injEq]at hy
  obtain⟨rfl,rfl⟩:=hy
  simp only[List.map_cons]at he
  cases hts:Iq a.cells with
  | none=>rw[hts]at he;simp[Ac]at he
  | some ts =>
   rw[hts]at he
   simp only[Ac,Option.map_eq_some_iff]at he
   obtain⟨es',he',rfl⟩:=he
   have ih:=q7r ρ hs he' (fun e hm=>h1 e (by simp[hm]))
   have h1e:=h1 ts (by simp)
   have hr:=(ha.cells (by rw[Vy hts,Md];exact h1e.2)).toT hts
   have hlen:=hr.1
   have:Els w X s [ts] [(ρ x).cells.toList]:=⟨rfl,by simp;simp at hlen;omega,by simpa using h1e,fun i e v he hv=>by
    cases i with
    | zero=>simp at he hv;subst he;subst hv;exact hr
    | succ i=>simp at he⟩
   exact this.append ih
theorem q6v {s:Nat} {xs:List Operand} {es:List (List T)} (ρ:Operand->Value) (h:Els w X s es (xs.map fun x=>(ρ x).cells.toList)):∀ x∈xs,(ρ x).cells.size=s:=fun x hx=>by
 have:=h.2.1 _ (List.mem_map.2 ⟨x,hx,rfl⟩);simpa using this
theorem Ry {α:Type} {l:List (Option α)} {r:List α} (h:Ac l=some r):r.length=l.length:=by rw[Oy h];simp
theorem qDG {t ty s n:Nat} {ps:Array (Nat×Operand)} {xs:List Operand} {zs:List Value} {as:List AV} {es:List (List T)} (h:B0 w0 B κ X μ st tm w) (hg:Gl Γ w X) (hop:o.op=.buildSlice t n ps) (kx:xs.all A9=true)
  (hu:Ub P t=some ty) (hz:Ic P ty=some s) (hn:n=xs.length) (ho:K4 0 ps.toList xs=true) (hzo:Br P ty=some zs) (hzl:zs.length=s) (hs:0<s) (hbig:n*s<=16777216)
  (hx:Ip Γ st.env xs=some as) (he:Ac (as.map fun a=>Iq a.cells)=some es) (h1:∀ e∈es,e.length=s/\Bi e=true):Ad P w0 B κ X o (.t (.sl es (some es.length) (some false))) st tm w ds:=by
 have hr:=Ft (ds:=ds) h hg hx kx
 have hels:=q7r (Act.eval ⟨tm,ds⟩) hr he h1
 have hlen:es.length=n:=by rw[hn,Ry he,List.length_map,Ry hx,List.length_map]
 have hrun:=q7q (P:=P) (Act.eval ⟨tm,ds⟩) hu hz hn ho hzo hzl hs hbig (q6v _ hels) w
 refine Ad.block h (arr:=(xs.flatMap fun x=>(Act.eval ⟨tm,ds⟩ x).cells.toList).toArray) (ty:=ty) w.drawn (0,0) (v:=.slice (some ⟨w.heap.size,0,none⟩) es.length n) ?_ (.t _ _ ?_)
 ·simp only[execOp,hop,Sem.run_bind,hrun,hlen];rfl
 ·have:=hels.mono (Dn h.xlt w.drawn (.cells (xs.flatMap fun x=>(Act.eval ⟨tm,ds⟩ x).cells.toList).toArray ty)) (Y:=fun b=>X b\/b=w.heap.size) (fun _ hb=>.inl hb)
  exact TR.new_sl this (Gw w w.drawn _) (rest:=[]) (by simp[List.flatMap]) (.inr rfl) (by omega) (fun q hq=>by cases hq;exact hlen.symm) (fun q hq=>by cases hq;rfl)
theorem Hj {n:Nat} (h:n<=2147483648):n<=maxLen:=by unfold maxLen;omega
theorem qKC {t ty s n d:Nat} {ps:Array (Nat×Operand)} {xs:List Operand} {zs:List Value} {as:List AV} {es:List (List T)} (h:B0 w0 B κ X μ st tm w) (hg:Gl Γ w X) (hop:o.op=.buildSlice t n ps) (kx:xs.all A9=true)
  (hu:Ub P t=some ty) (hz:Ic P ty=some s) (hn:n=xs.length) (ho:K4 0 ps.toList xs=true) (hzo:Br P ty=some zs) (hzl:zs.length=s) (hs:0<s) (hbig:n*s<=16777216)
  (hx:Ip Γ st.env xs=some as) (he:Ac (as.map fun a=>Iq a.cells)=some es) (h1:∀ e∈es,e.length=s/\Bi e=true) (hd:A2 st.hp d=none) (hdb:d<1000000) :
  Ad P w0 B κ X o (.ls d 0 es.length none) ⟨st.env,(d,.sl ty s es)::st.hp⟩ tm w ds:=by
 have hr:=Ft (ds:=ds) h hg hx kx
 have hels:=q7r (Act.eval ⟨tm,ds⟩) hr he h1
 have hlen:es.length=n:=by rw[hn,Ry he,List.length_map,Ry hx,List.length_map]
 have hrun:=q7q (P:=P) (Act.eval ⟨tm,ds⟩) hu hz hn ho hzo hzl hs hbig (q6v _ hels) w
 have hns:n<=16777216:=by have:=Nat.le_mul_of_pos_right n hs;omega
 have hsz:(xs.flatMap fun x=>(Act.eval ⟨tm,ds⟩ x).cells.toList).length=n*s:=by
  have:=Az hels.2.1
  rw[List.length_map]at this
  rw[hn,<- this];simp[List.flatMap]
 refine Ad.region h (arr:=(xs.flatMap fun x=>(Act.eval ⟨tm,ds⟩ x).cells.toList).toArray) (ty:=ty) (v:=.slice (some ⟨w.heap.size,0,none⟩) es.length n) w.drawn hd hdb ?_ ?_ ?_
 ·simp only[execOp,hop,Sem.run_bind,hrun,hlen];rfl
 ·have:=hels.mono (Dn h.xlt w.drawn (.cells (xs.flatMap fun x=>(Act.eval ⟨tm,ds⟩ x).cells.toList).toArray ty)) (Y:=X) (fun _ hb=>hb)
  exact Zb this (by simp only[Be.set,↓reduceIte]) (Gw w w.drawn _) (rest:=[]) (by simp[List.flatMap])
 ·refine .ls d 0 es.length s es.length w.heap.size _ n none (by rw[Lt];rfl) (by simp only[Be.set,↓reduceIte];rfl) (by omega) (by omega) (Hj (by omega)) ?_ (fun _=>?_) (fun q hq=>by cases hq) _ (fun _=>by simp)
  ·simp[hsz]
  ·simp[hsz]
end
end Go.Lg
namespace Go.Lg
open Go
section
variable {P:Program} {Γ:Tables} {w0:World} {B:Nat} {κ:Be} {X:Nat->Prop} {μ:Be} {st:St} {tm:Array Value} {w:World} {ds:List Deferred} {o:Oper}
theorem Bg (id:Nat) (r:Aj) (hp:List (Nat×Aj)) (t:Nat):A2 (Bm id r hp) t=if t=id then(A2 hp id).map fun _=>r else A2 hp t:=by
 induction hp with
 | nil=>simp[Bm,A2]
 | cons p hp ih =>
  obtain⟨k,v⟩:=p
  simp only[Bm]
  by_cases hk:k=id
  ·subst hk
   simp only[↓reduceIte,A2,Option.map_some]
   by_cases ht:t=k
   ·subst ht;simp
   ·simp[ht,Ne.symm ht]
  ·simp only[hk,↓reduceIte,A2,ih]
   by_cases ht:k=t
   ·subst ht;simp[hk]
   ·simp[ht]
theorem qFO {id:Nat} {r r':Aj} (hl:A2 st.hp id=some r) (hsh:r'.sh=r.sh):St.sh ⟨st.env,Bm id r' st.hp⟩=st.sh:=by
 funext t
 simp only[St.sh,Bg]
 by_cases ht:t=id
 ·subst ht;simp[hl,hsh]
 ·simp[ht]
theorem B0.setReg (h:B0 w0 B κ X μ st tm w) {id:Nat} {r r':Aj} (hl:A2 st.hp id=some r) (hsh:r'.sh=r.sh) {g m:Nat} (hm:μ id=some (g,m)) (w':World) (hos:w'.os=w.os) (htape:w'.tape=w.tape) (hout:w'.output=w.output) (hsz:w'.heap.size=w.heap.size)
  (hoth:∀ k,k≠g->w'.heap[k]? = w.heap[k]?) (hr:Same X w w'->Bv w' X μ st.sh id r'):B0 w0 B κ X μ ⟨st.env,Bm id r' st.hp⟩ tm w'/\Same X w w':=by
 have hid:st.sh id≠none:=by simp[By hl]
 obtain⟨h1,h2,h3⟩:=h.loc id g m hid hm
 have hs:Same X w w':=fun b hx=>hoth b (fun e=>h1 (e ▸ hx))
 have e:=qFO hl hsh
 refine⟨⟨?_,?_,?_,?_,?_,h.kbig,?_,hos.trans h.os,htape.trans h.tape,hout.trans h.output,by rw[hsz];exact h.size,?_⟩,hs⟩
 ·intro t a ht
  rw[e];exact(h.env t a ht).mono hs (fun _ hx=>hx) (fun _ _ hq=>⟨hq,rfl⟩)
 ·intro id' r'' hr''
  rw[e]
  simp only[Bg]at hr''
  by_cases hi:id'=id
  ·subst hi
   simp only[↓reduceIte,hl,Option.map_some,Option.some.injEq]at hr''
   subst hr'';exact hr hs
  ·simp only[hi,↓reduceIte]at hr''
   refine(h.reg id' r'' hr'').mono hs (fun _ hx=>hx) (fun _ _ hq=>⟨hq,rfl⟩) rfl (fun g' n' hm'=>hoth g' (fun eg=>?_))
   subst eg
   exact hi (h.inj id' id g' n' m (by simp[By hr'']) hid hm' hm)
 ·intro a b g1 n1 n2;rw[e];exact h.inj a b g1 n1 n2
 ·intro a g1 n1;rw[e,hsz];exact h.loc a g1 n1
 ·intro a hk;rw[e];exact h.kap a hk
 ·intro b hx;rw[hsz];exact h.xlt b hx
 ·intro k hk hn
  have:k≠g:=fun eg=>by
   obtain⟨id',n',hk'⟩:=h3 (by omega)
   exact hn id' n' (by rw[eg];exact hk')
  exact(hoth k this).trans (h.fr k hk hn)
theorem q3z {t:TypeId} {n g o:Nat} {v:Value} {arr:Array Value} {ty:TypeId} (hz:Ic P t=some n) (hv:v.cells.size=n) (h1:∀ x∈v.cells.toList,x.oneCell'=true) (hg:w.heap[g]? = some (.cells arr ty (0,0))) (hfit:o+n<=arr.size) :
  (Instr.storeAt t (.pointer (some ⟨g,o,none⟩)) v).run P w=.ok () (w.setRow g (arr.toList.take o++v.cells.toList++arr.toList.drop (o+n)).toArray):=by
 have hst:=run_storeCells_at P g o ty v.cells.toList 0 arr w hg (by simp[hv];exact hfit) h1
 simp only[Nat.add_zero,Array.length_toList,hv]at hst
 simp[Instr.storeAt,Instr.sureAddr,storeVar,Cm hz,hv,hst]
theorem Rz {arr:Array Value} {o n:Nat} {xs:List Value} (hn:xs.length=n) (hfit:o+n<=arr.size):(arr.toList.take o++xs++arr.toList.drop (o+n)).toArray.size=arr.size:=by simp;omega
theorem q9x {t:TypeId} {n id k:Nat} {a x:Operand} {v:AV} {cs:List AV} (h:B0 w0 B κ X μ st tm w) (hg:Gl Γ w X) (ho:o.op=.store t a x) (ka:A9 a=true) (kx:A9 x=true) (hz:Ic P t=some n)
  (ha:ev Γ st.env a=some (.lp id 0 k)) (hx:ev Γ st.env x=some v) (hl:A2 st.hp id=some (.bx cs)) (hc:k+n<=cs.length) (hv:v.cells.length=n) (h1:Aw v.cells=true) (hdst:o.dst=none\/True) :
  Ad P w0 B κ X o .un ⟨st.env,Bm id (.bx (cs.take k++v.cells++cs.drop (k+n))) st.hp⟩ tm w ds:=by
 obtain⟨g,m,hm,hp⟩:=(Ah (ds:=ds) h hg ha ka).lp_inv
 rcases hp with⟨s,q,hs,_⟩|⟨hs,_,he⟩
 ·rw[By hl]at hs;cases hs
 have hr:=(Ah (ds:=ds) h hg hx kx).cells h1
 obtain⟨hone,g',arr,ty,hm',hheap,hsz,hrel⟩:=h.reg id _ hl
 rw[hm]at hm';cases hm'
 have hvs:(Act.eval ⟨tm,ds⟩ x).cells.size=n:=by have:=hr.1;simp at this;omega
 have hfit:k+n<=arr.size:=by omega
 have hrun:=q3z (P:=P) (w:=w) (o:=k) hz hvs (hr.ones h1) hheap hfit
 have hcs:Gf w X μ st.sh cs arr.toList:=⟨by simp[hsz],fun j a y h2 h3=>hrel j a y h2 (by simpa using h3)⟩
 have hnew:Gf w X μ st.sh (cs.take k++v.cells++cs.drop (k+n)) (arr.toList.take k++(Act.eval ⟨tm,ds⟩ x).cells.toList++arr.toList.drop (k+n)):=((hcs.take k).append hr).append (hcs.drop (k+n))
 have hsz2:=Rz (arr:=arr) (o:=k) (n:=n) (xs:=(Act.eval ⟨tm,ds⟩ x).cells.toList) (by simpa using hvs) hfit
 have hreg':Same X w (w.setRow g (arr.toList.take k++(Act.eval ⟨tm,ds⟩ x).cells.toList++arr.toList.drop (k+n)).toArray)->Bv (w.setRow g (arr.toList.take k++(Act.eval ⟨tm,ds⟩ x).cells.toList++arr.toList.drop (k+n)).toArray) X μ st.sh id (.bx (cs.take k++v.cells++cs.drop (k+n))):=by
  intro hs'
  refine⟨fun j a hj=>?_,g,_,ty,by rw[hsz2];exact hm,setRow_heap w g arr _ ty _ hheap,by rw[hsz2];simp;omega,fun j a y h2 h3=>(hnew.2 j a y h2 (by simpa using h3)).mono hs' (fun _ hx=>hx) (fun _ _ hq=>⟨hq,rfl⟩)⟩
  have:=List.mem_of_getElem? hj
  simp only[List.mem_append]at this
  rcases this with(hj' | hj')|hj'
  ·obtain⟨i,hi,rfl⟩:=List.getElem_of_mem (List.mem_of_mem_take hj');exact hone i _ (by simp[hi])
  ·exact List.all_eq_true.1 h1 _ hj'
  ·obtain⟨i,hi,rfl⟩:=List.getElem_of_mem (List.mem_of_mem_drop hj');exact hone i _ (by simp[hi])
 obtain⟨hsim,hs'⟩:=h.setReg hl (r':=.bx (cs.take k++v.cells++cs.drop (k+n))) rfl hm (w':=w.setRow g (arr.toList.take k++(Act.eval ⟨tm,ds⟩ x).cells.toList++arr.toList.drop (k+n)).toArray) rfl rfl rfl (by simp) (fun j hj=>setRow_other w g j _ hj) hreg'
 exact⟨.skip,undef,_,μ,X,by simp only[execOp,ho,he,Sem.run_bind,hrun];rfl,.inr ⟨rfl,rfl⟩,hsim,.un,fun _ hx=>hx,hs',fun _ hx=>.inl hx⟩
theorem q4y {t:TypeId} {n id i k ty s:Nat} {a x:Operand} {v:AV} {es:List (List AV)} {r r':Aj} (h:B0 w0 B κ X μ st tm w) (hg:Gl Γ w X) (ho:o.op=.store t a x) (ka:A9 a=true) (kx:A9 x=true) (hz:Ic P t=some n)
  (ha:ev Γ st.env a=some (.lp id i k)) (hx:ev Γ st.env x=some v) (hl:A2 st.hp id=some r) (hrs:r.sh=.sl s es.length) (hrs':r'.sh=.sl s es.length) (hreg:Bv w X μ st.sh id (.rs ty s es)) (hi:i<es.length) (hc:k+n<=s) (hn:v.cells.length=n) (hone1:Aw v.cells=true)
  (hr':∀ w':World,Bv w' X μ st.sh id (.rs ty s (es.set i (if k=0/\n=s then v.cells else(es.getD i []).take k++v.cells++(es.getD i []).drop (k+n))))->Bv w' X μ st.sh id r') :
  Ad P w0 B κ X o .un ⟨st.env,Bm id r' st.hp⟩ tm w ds:=by
 obtain⟨g,m,hm,hp⟩:=(Ah (ds:=ds) h hg ha ka).lp_inv
 rcases hp with⟨s',q,hs,he⟩|⟨hs,_,_⟩
 case inr=>rw[By hl,hrs]at hs;cases hs
 rw[By hl,hrs]at hs
 simp only[Option.some.injEq,Sh.sl.injEq]at hs
 obtain⟨rfl,rfl⟩:=hs
 have hr:=((Ah (ds:=ds) h hg hx kx).cells hone1)
 have hrt:=hr
 obtain⟨g',arr,hm',hheap,hle,hlen,ho1,hrel⟩:=hreg.elemA hi
 rw[hm]at hm';cases hm'
 have hvs:(Act.eval ⟨tm,ds⟩ x).cells.size=n:=by have:=hrt.1;simp at this;omega
 have hfi:=Iz (s:=s) hi
 have hfit:i*s+k+n<=arr.size:=by omega
 have hrun:=q3z (P:=P) (w:=w) (o:=i*s+k) hz hvs (hr.ones hone1) hheap hfit
 have hsz2:=Rz (arr:=arr) (o:=i*s+k) (n:=n) (xs:=(Act.eval ⟨tm,ds⟩ x).cells.toList) (by simpa using hvs) hfit
 -- the new element, in its general form
 have hel:(if k=0/\n=s then v.cells else(es.getD i []).take k++v.cells++(es.getD i []).drop (k+n))=(es.getD i []).take k++v.cells++(es.getD i []).drop (k+n):=by
  split
  ·rename_i hk;obtain⟨rfl,rfl⟩:=hk
   simp only[List.take_zero,List.nil_append,Nat.zero_add]
   rw[List.drop_of_length_le (by omega)];simp
  ·rfl
 rw[hel]at hr'
 generalize hE:(es.getD i []).take k++v.cells++(es.getD i []).drop (k+n)=E at hr'
 have hEl:E.length=s:=by subst hE;simp only[List.length_append,List.length_take,List.length_drop,hlen,hn];omega
 have hE1:Aw E=true:=by
  subst hE
  refine List.all_eq_true.2 fun t ht=>?_
  simp only[List.mem_append]at ht
  rcases ht with(ht|ht)|ht
  ·exact List.all_eq_true.1 ho1 _ (List.mem_of_mem_take ht)
  ·exact List.all_eq_true.1 hone1 _ ht
  ·exact List.all_eq_true.1 ho1 _ (List.mem_of_mem_drop ht)
 have hER:Gf w X μ st.sh E (((arr.toList.drop (i*s)).take s).take k++(Act.eval ⟨tm,ds⟩ x).cells.toList++((arr.toList.drop (i*s)).take s).drop (k+n)):=by
  subst hE;exact((hrel.take k).append hrt).append (hrel.drop (k+n))
 obtain⟨hw,hcase⟩:=hreg
 rcases hcase with⟨rfl,_⟩|⟨g2,arr2,hm2,hg2,_,hrr⟩
 ·simp at hi
 rw[hm]at hm2;simp only[Option.some.injEq,Prod.mk.injEq]at hm2
 obtain⟨rfl,hsz⟩:=hm2
 rw[hheap]at hg2
 simp only[Option.some.injEq,Obj.cells.injEq]at hg2
 obtain⟨rfl,_⟩:=hg2
 have hcell:∀ (i' k':Nat),k'<s->(arr.toList.take (i*s+k)++(Act.eval ⟨tm,ds⟩ x).cells.toList++arr.toList.drop (i*s+k+n)).toArray[i'*s+k']? =
   if i'=i then(((arr.toList.drop (i*s)).take s).take k++(Act.eval ⟨tm,ds⟩ x).cells.toList++((arr.toList.drop (i*s)).take s).drop (k+n))[k']? else arr[i'*s+k']? := by
  intro i' k' hk'
  have hvl:(Act.eval ⟨tm,ds⟩ x).cells.toList.length=n:=by simpa using hvs
  generalize (Act.eval ⟨tm,ds⟩ x).cells.toList=V at hvl
  have hal:arr.toList.length=arr.size:=rfl
  rw[List.getElem?_toArray,<- Array.getElem?_toList]
  generalize arr.toList=L at hal
  by_cases hii:i'=i
  ·subst hii
   simp only[↓reduceIte]
   simp only[List.getElem?_append,List.length_append,List.length_take,List.length_drop,List.getElem?_take,List.getElem?_drop,hvl,hal]
   repeat' split
   all_goals first
    | rfl
    | omega
    | (congr 1;omega)
    | (exfalso;omega)
    | skip
  ·simp only[hii,↓reduceIte]
   have hne:i'*s+k'<i*s\/i*s+s<=i'*s+k':=by
    rcases Nat.lt_or_gt_of_ne hii with hlt|hgt
    ·left;have:=Iz (s:=s) hlt;omega
    ·right;have:=Iz (s:=s) hgt;omega
   simp only[List.getElem?_append,List.length_append,List.length_take,List.length_drop,List.getElem?_take,List.getElem?_drop,hvl,hal]
   repeat' split
   all_goals first
    | rfl
    | omega
    | (congr 1;omega)
    | (exfalso;omega)
    | skip
 have hreg':Same X w (w.setRow g (arr.toList.take (i*s+k)++(Act.eval ⟨tm,ds⟩ x).cells.toList++arr.toList.drop (i*s+k+n)).toArray)->Bv (w.setRow g (arr.toList.take (i*s+k)++(Act.eval ⟨tm,ds⟩ x).cells.toList++arr.toList.drop (i*s+k+n)).toArray) X μ st.sh id (.rs ty s (es.set i E)):=by
  intro hs'
  refine⟨fun i' e he'=>?_,.inr ⟨g,_,by rw[hsz2];exact hm,setRow_heap w g arr _ ty _ hheap,by rw[hsz2];simpa using hle,fun i' k' e t y he' ht hy=>?_⟩⟩
  ·rw[List.getElem?_set]at he'
   split at he'
   ·simp only[hi,↓reduceIte,Option.some.injEq]at he';subst he'
    exact⟨hEl,fun k t ht=>K5 hE1 ht⟩
   ·exact hw i' e he'
  ·have hel':e.length=s:=by
    rw[List.getElem?_set]at he'
    split at he'
    ·simp only[hi,↓reduceIte,Option.some.injEq]at he';subst he';exact hEl
    ·exact(hw i' e he').1
   have hk':k'<s:=by rw[<- hel'];exact(List.getElem?_eq_some_iff.1 ht).1
   rw[hcell i' k' hk']at hy
   rw[List.getElem?_set]at he'
   by_cases hii:i=i'
   ·subst hii
    simp only[↓reduceIte,hi,Option.some.injEq]at he' hy
    subst he'
    exact(hER.2 k' t y ht hy).mono hs' (fun _ hx=>hx) (fun _ _ hq=>⟨hq,rfl⟩)
   ·simp only[hii,Ne.symm hii,↓reduceIte]at he' hy
    exact(hrr i' k' e t y he' ht hy).mono hs' (fun _ hx=>hx) (fun _ _ hq=>⟨hq,rfl⟩)
 obtain⟨hsim,hs'⟩:=h.setReg hl (r':=r') (hrs'.trans hrs.symm) hm (w':=w.setRow g (arr.toList.take (i*s+k)++(Act.eval ⟨tm,ds⟩ x).cells.toList++arr.toList.drop (i*s+k+n)).toArray) rfl rfl rfl (by simp) (fun j hj=>setRow_other w g j _ hj) (fun hs'=>hr' _ (hreg' hs'))
 exact⟨.skip,undef,_,μ,X,by simp only[execOp,ho,he,Sem.run_bind,hrun];rfl,.inr ⟨rfl,rfl⟩,hsim,.un,fun _ hx=>hx,hs',fun _ hx=>.inl hx⟩
theorem qCQ {es:List (List T)} {i:Nat} {e:List T}:(es.map fun e=>e.map AV.t).set i (e.map .t)=(es.set i e).map fun e=>e.map .t:=by rw[List.map_set]
theorem q9y {t:TypeId} {n id i k ty s:Nat} {a x:Operand} {v:AV} {es:List (List T)} {ts:List T} (h:B0 w0 B κ X μ st tm w) (hg:Gl Γ w X) (ho:o.op=.store t a x) (ka:A9 a=true) (kx:A9 x=true) (hz:Ic P t=some n)
  (ha:ev Γ st.env a=some (.lp id i k)) (hx:ev Γ st.env x=some v) (hl:A2 st.hp id=some (.sl ty s es)) (hi:i<es.length) (hc:k+n<=s) (hts:Iq v.cells=some ts) (hn:ts.length=n) (h1:Bi ts=true) :
  Ad P w0 B κ X o .un ⟨st.env,Bm id (.sl ty s (es.set i (if k=0/\n=s then ts else(es.getD i []).take k++ts++(es.getD i []).drop (k+n)))) st.hp⟩ tm w ds:=by
 have e:=Vy hts
 refine q4y (es:=es.map fun e=>e.map .t) h hg ho ka kx hz ha hx hl (by simp[Aj.sh]) (by simp[Aj.sh]) (Bv.rs_sl.1 (h.reg id _ hl)) (by simpa using hi) hc (by rw[e];simpa using hn) (by rw[e,Md];exact h1) fun w' hw=>Bv.rs_sl.2 ?_
 rw[e,q1L]at hw
 have:(if k=0/\n=s then ts.map AV.t else((es.getD i []).map .t).take k++ts.map .t++((es.getD i []).map .t).drop (k+n))=(if k=0/\n=s then ts else(es.getD i []).take k++ts++(es.getD i []).drop (k+n)).map .t:=by
  split
  ·rfl
  ·simp[List.map_append,List.map_take,List.map_drop]
 rw[this,qCQ]at hw
 exact hw
theorem q9z {t:TypeId} {n id i k ty s:Nat} {a x:Operand} {v:AV} {es:List (List AV)} (h:B0 w0 B κ X μ st tm w) (hg:Gl Γ w X) (ho:o.op=.store t a x) (ka:A9 a=true) (kx:A9 x=true) (hz:Ic P t=some n)
  (ha:ev Γ st.env a=some (.lp id i k)) (hx:ev Γ st.env x=some v) (hl:A2 st.hp id=some (.rs ty s es)) (hi:i<es.length) (hc:k+n<=s) (hn:v.cells.length=n) (h1:Aw v.cells=true) :
  Ad P w0 B κ X o .un ⟨st.env,Bm id (.rs ty s (es.set i (if k=0/\n=s then v.cells else(es.getD i []).take k++v.cells++(es.getD i []).drop (k+n)))) st.hp⟩ tm w ds :=
 q4y h hg ho ka kx hz ha hx hl rfl (by simp[Aj.sh]) (h.reg id _ hl) hi hc hn h1 fun _ hw=>hw
end
end Go.Lg
namespace Go.Lg
open Go
section
variable {P:Program} {Γ:Tables} {w0:World} {B:Nat} {κ:Be} {X:Nat->Prop} {μ:Be} {st:St} {tm:Array Value} {w:World} {ds:List Deferred} {o:Oper}
theorem AR.no0 {X:Nat->Prop} {μ:Be} {sh sh':Nat->Option Sh} {id:Nat} (hsh:∀ i q,i≠id->sh i=some q->sh' i=some q) {a:AV} {x:Value} (h:AR w X μ sh a x) (hn:no0 id a=true):AR w X μ sh' a x:=by
 cases h with
 | t x v h=>exact .t _ _ h
 | lsnil i s n hs hm a cap hc=>exact .lsnil i s n (hsh _ _ (by simpa[Lg.no0]using hn) hs) hm a cap hc
 | ls i off len s n g m c cap hs hm hle hlc hcm hfit hfull hc a ha=>exact .ls i off len s n g m c cap (hsh _ _ (by simpa[Lg.no0]using hn) hs) hm hle hlc hcm hfit hfull hc a ha
 | lpsl i j k s n g m hs hm=>exact .lpsl i j k s n g m (hsh _ _ (by simpa[Lg.no0]using hn) hs) hm
 | lpbx i k g m hs hm=>exact .lpbx i k g m (hsh _ _ (by simpa[Lg.no0]using hn) hs) hm
 | lm i g m hs hm=>exact .lm i g m (hsh _ _ (by simpa[Lg.no0]using hn) hs) hm
 | lb i g m hs hm hle=>exact .lb i g m (hsh _ _ (by simpa[Lg.no0]using hn) hs) hm hle
 | li i g m hs hm=>exact .li i g m (hsh _ _ (by simpa[Lg.no0]using hn) hs) hm
 | fn f cs xs hlen hrel =>
  cases cs with
  | nil=>exact .fn f [] xs hlen (fun k a x h=>by simp at h)
  | cons c cs=>simp[Lg.no0]at hn
 | dead v h=>exact .dead _ h
 | un=>exact .un
 | ag=>simp[Lg.no0]at hn
 | tu=>simp[Lg.no0]at hn
theorem AR.kill1 {X:Nat->Prop} {μ:Be} {sh sh':Nat->Option Sh} {id:Nat} (hsh:∀ i q,i≠id->sh i=some q->sh' i=some q) {a:AV} {x:Value} (h:AR w X μ sh a x) (hna:Bo a=true):AR w X μ sh' (kill1 id a) x:=by
 cases h with
 | t x v h=>exact .t _ _ h
 | lsnil i s n hs hm a cap hc =>
  simp only[Lg.kill1];split
  ·exact .dead _ rfl
  ·rename_i hne;exact .lsnil i s n (hsh _ _ hne hs) hm a cap hc
 | ls i off len s n g m c cap hs hm hle hlc hcm hfit hfull hc a ha =>
  simp only[Lg.kill1];split
  ·exact .dead _ rfl
  ·rename_i hne;exact .ls i off len s n g m c cap (hsh _ _ hne hs) hm hle hlc hcm hfit hfull hc a ha
 | lpsl i j k s n g m hs hm =>
  simp only[Lg.kill1];split
  ·exact .dead _ rfl
  ·rename_i hne;exact .lpsl i j k s n g m (hsh _ _ hne hs) hm
 | lpbx i k g m hs hm =>
  simp only[Lg.kill1];split
  ·exact .dead _ rfl
  ·rename_i hne;exact .lpbx i k g m (hsh _ _ hne hs) hm
 | lm i g m hs hm =>
  simp only[Lg.kill1];split
  ·exact .dead _ rfl
  ·rename_i hne;exact .lm i g m (hsh _ _ hne hs) hm
 | lb i g m hs hm hle =>
  simp only[Lg.kill1];split
  ·exact .dead _ rfl
  ·rename_i hne;exact .lb i g m (hsh _ _ hne hs) hm hle
 | li i g m hs hm =>
  simp only[Lg.kill1];split
  ·exact .dead _ rfl
  ·rename_i hne;exact .li i g m (hsh _ _ hne hs) hm
 | fn f cs xs hlen hrel =>
  cases cs with
  | nil=>exact .fn f [] xs hlen (fun k a x h=>by simp at h)
  | cons c cs =>
   simp only[Lg.kill1]
   split
   ·rename_i hall
    refine .fn f (c::cs) xs hlen (fun k a x ha hx=>(hrel k a x ha hx).no0 hsh ?_)
    exact List.all_eq_true.1 hall a (List.mem_of_getElem? ha)
   ·exact .dead _ (q0R _ _)
 | dead v h=>exact .dead _ h
 | un=>exact .un
 | ag=>simp[Bo]at hna
 | tu=>simp[Bo]at hna
theorem Me {id:Nat} {a:AV} (h:a.one=true):(kill1 id a).one=true:=by
 cases a with
 | fn f cs =>
  cases cs with
  | nil=>rfl
  | cons c cs=>simp only[kill1];split<;>rfl
 | ag cs=>simp[AV.one]at h
 | tu cs=>simp[AV.one]at h
 | un=>simp[AV.one]at h
 | t x=>exact h
 | dead=>rfl
 | ls i off len cap=>simp only[kill1];split<;>rfl
 | lp i j k=>simp only[kill1];split<;>rfl
 | lm i=>simp only[kill1];split<;>rfl
 | lb i m=>simp only[kill1];split<;>rfl
 | li i=>simp only[kill1];split<;>rfl
theorem q8V {id:Nat} {a:AV} (h:Bo a=true):Bo (kill1 id a)=true:=by
 cases a with
 | ag=>simp[Bo]at h
 | tu=>simp[Bo]at h
 | fn f cs =>
  cases cs with
  | nil=>rfl
  | cons c cs=>simp only[kill1];split<;>rfl
 | t|dead|un=>rfl
 | _=>simp only[kill1];split<;>rfl
theorem AR.kill2 {X:Nat->Prop} {μ:Be} {sh sh':Nat->Option Sh} {id:Nat} (hsh:∀ i q,i≠id->sh i=some q->sh' i=some q) {a:AV} {x:Value} (h:AR w X μ sh a x) (ht:I9 a=true):AR w X μ sh' (Lg.kill2 id a) x:=by
 by_cases ha:Bo a=true
 ·have e:Lg.kill2 id a=Lg.kill1 id a:=by cases a<;>first|rfl|simp[Bo]at ha
  rw[e];exact h.kill1 hsh ha
 ·cases a with
  | ag cs =>
   obtain⟨xs,rfl,h1,hr⟩:=h.ag_inv
   refine AR.mk_ag (List.all_eq_true.2 fun b hb=>?_) ⟨by simpa using hr.1,fun k b y hb hy=>?_⟩
   ·obtain⟨c,hc,rfl⟩:=List.mem_map.1 hb
    exact Me (List.all_eq_true.1 h1 c hc)
   ·simp only[List.getElem?_map,Option.map_eq_some_iff]at hb
    obtain⟨c,hc,rfl⟩:=hb
    exact(hr.2 k c y hc hy).kill1 hsh (Vw (K5 h1 hc))
  | tu cs=>cases ht
  | _=>exact absurd rfl ha
theorem Zc {a:AV} (h:Bo a=true):I9 a=true:=by cases a<;>first|rfl|simp[Bo]at h
theorem q8W {id:Nat} {a:AV} (h:I9 a=true):I9 (Lg.kill2 id a)=true:=by
 by_cases ha:Bo a=true
 ·have e:Lg.kill2 id a=Lg.kill1 id a:=by cases a<;>first|rfl|simp[Bo]at ha
  rw[e];exact Zc (q8V ha)
 ·cases a<;>first|rfl|exact absurd rfl ha|cases h
theorem AR.kill {X:Nat->Prop} {μ:Be} {sh sh':Nat->Option Sh} {id:Nat} (hsh:∀ i q,i≠id->sh i=some q->sh' i=some q) {a:AV} {x:Value} (h:AR w X μ sh a x):AR w X μ sh' (Ae id a) x:=by
 by_cases ha:I9 a=true
 ·have e:Ae id a=Lg.kill2 id a:=by cases a<;>first|rfl|simp[I9]at ha
  rw[e];exact h.kill2 hsh ha
 ·cases a with
  | tu cs =>
   obtain⟨xs,rfl,h1,hr⟩:=h.tu_inv
   refine AR.mk_tu (fun k b hb=>?_) ⟨by simpa using hr.1,fun k b y hb hy=>?_⟩
   ·simp only[List.getElem?_map,Option.map_eq_some_iff]at hb
    obtain⟨c,hc,rfl⟩:=hb
    exact q8W (h1 k c hc)
   ·simp only[List.getElem?_map,Option.map_eq_some_iff]at hb
    obtain⟨c,hc,rfl⟩:=hb
    exact(hr.2 k c y hc hy).kill2 hsh (h1 k c hc)
  | _=>exact absurd rfl ha
theorem Zd {id:Nat} {a:AV} (h:a.one=true):(Ae id a).one=true:=by
 cases a with
 | ag cs=>simp[AV.one]at h
 | t x=>exact Me (id:=id) (a:=.t x) h
 | ls i off len cap=>exact Me (id:=id) (a:=.ls i off len cap) h
 | lp i j k=>exact Me (id:=id) (a:=.lp i j k) h
 | fn f cs=>exact Me (id:=id) (a:=.fn f cs) h
 | lm i=>exact Me (id:=id) (a:=.lm i) h
 | lb i m=>exact Me (id:=id) (a:=.lb i m) h
 | li i=>exact Me (id:=id) (a:=.li i) h
 | dead=>rfl
 | un=>simp[AV.one]at h
 | tu=>simp[AV.one]at h
theorem Ru (id t:Nat):A2 (st.kill id).hp t=if t=id then none else(A2 st.hp t).map (G1 id):=by
 have h1:A2 (st.kill id).hp t=(A2 (del id st.hp) t).map (G1 id):=by
  show A2 ((del id st.hp).map fun p=>(p.1,G1 id p.2)) t=_
  exact Cc _ _ _
 rw[h1,q24]
 split<;>rfl
theorem qA0 (id:Nat) (r:Aj):(G1 id r).sh=r.sh:=by cases r<;>simp[G1,Aj.sh]
theorem q0V (id t:Nat):(st.kill id).sh t=if t=id then none else st.sh t:=by
 simp only[St.sh,Ru]
 split
 ·rfl
 ·cases A2 st.hp t<;>simp[qA0]
theorem B0.kill (h:B0 w0 B κ X μ st tm w) (id:Nat):B0 w0 B κ X μ (st.kill id) tm w:=by
 have hsh:∀ i q,i≠id->st.sh i=some q->(st.kill id).sh i=some q:=fun i q hi hq=>by rw[q0V,if_neg hi];exact hq
 have hback:∀ i,(st.kill id).sh i≠none->i≠id/\st.sh i≠none:=fun i hi=>by
  rw[q0V]at hi
  split at hi
  ·exact absurd rfl hi
  ·rename_i hne;exact⟨hne,hi⟩
 refine⟨?_,?_,?_,?_,?_,h.kbig,h.xlt,h.os,h.tape,h.output,h.size,h.fr⟩
 ·intro t a ht
  have h1:A2 (st.kill id).env t=(A2 st.env t).map (Ae id):=by
   show A2 (st.env.map fun p=>(p.1,Ae id p.2)) t=_
   exact Cc _ _ _
  rw[h1,Option.map_eq_some_iff]at ht
  obtain⟨b,hb,rfl⟩:=ht
  exact(h.env t b hb).kill hsh
 ·intro i r hr
  rw[Ru]at hr
  split at hr
  ·cases hr
  ·rename_i hne
   rw[Option.map_eq_some_iff]at hr
   obtain⟨q,hq,rfl⟩:=hr
   have:=h.reg i q hq
   cases q with
   | sl ty s es=>exact this
   | mp es=>exact this
   | mr es=>exact Bv.mr_map (fun a=>Ae id a) (fun _ _ q=>q.kill hsh) rfl (fun _ _ _=>rfl) this
   | it s pos=>exact this
   | rs ty s es=>exact Bv.rs_map (fun a=>Ae id a) (fun _ q=>Zd q) (fun _ _ q=>q.kill hsh) rfl (fun _ _ _=>rfl) this
   | bx cs =>
    obtain⟨h1,g,arr,ty,hm,hg,hle,hr⟩:=this
    refine⟨fun k a ha=>?_,g,arr,ty,hm,hg,by simpa using hle,fun k a x ha hx=>?_⟩
    ·simp only[List.getElem?_map,Option.map_eq_some_iff]at ha
     obtain⟨b,hb,rfl⟩:=ha
     exact Zd (h1 k b hb)
    ·simp only[List.getElem?_map,Option.map_eq_some_iff]at ha
     obtain⟨b,hb,rfl⟩:=ha
     exact(hr k b x hb hx).kill hsh
 ·intro a b g n n' ha hb;exact h.inj a b g n n' (hback a ha).2 (hback b hb).2
 ·intro a g n ha;exact h.loc a g n (hback a ha).2
 ·intro a hk ha;exact h.kap a hk (hback a ha).2
theorem B0.free {X':Nat->Prop} (h:B0 w0 B κ X μ st tm w) {g:Nat} (hg:¬ X g) (hr:∀ id n,st.sh id≠none->μ id≠some (g,n)) (hk:g<B->∃ id n,κ id=some (g,n)) (hlt:g<w.heap.size) (w':World) (hos:w'.os=w.os) (htape:w'.tape=w.tape) (hout:w'.output=w.output) (hsz:w'.heap.size=w.heap.size)
  (hoth:∀ k,k≠g->w'.heap[k]? = w.heap[k]?) (hX:∀ b,X b->X' b) (hX':∀ b,X' b->X b\/b=g):B0 w0 B κ X' μ st tm w'/\Same X w w':=by
 have hs:Same X w w':=fun b hx=>hoth b (fun e=>hg (e ▸ hx))
 refine⟨⟨?_,?_,h.inj,?_,h.kap,h.kbig,?_,hos.trans h.os,htape.trans h.tape,hout.trans h.output,by rw[hsz];exact h.size,?_⟩,hs⟩
 ·exact fun t a ht=>(h.env t a ht).mono hs hX (fun _ _ hq=>⟨hq,rfl⟩)
 ·intro id r hl
  exact(h.reg id r hl).mono hs hX (fun _ _ hq=>⟨hq,rfl⟩) rfl (fun g' n hm=>hoth g' (fun e=>hr id n (by simp[By hl]) (e ▸ hm)))
 ·intro id g' n hi hm
  obtain⟨h1,h2,h3⟩:=h.loc id g' n hi hm
  refine⟨fun hx=>?_,by rw[hsz];exact h2,h3⟩
  rcases hX' g' hx with hx|rfl
  ·exact h1 hx
  ·exact hr id n hi hm
 ·intro b hx
  rw[hsz]
  rcases hX' b hx with hx|rfl
  ·exact h.xlt b hx
  ·exact hlt
 ·intro k hkB hn
  have:k≠g:=fun e=>by
   obtain⟨id,n,hkk⟩:=hk (by omega)
   exact hn id n (by rw[e];exact hkk)
  exact(hoth k this).trans (h.fr k hkB hn)
theorem S0 {μ:Be} {a:AV} {x:Value} {es:List (List T)} {s:Nat} (h:B0 w0 B κ X μ st tm w) (ha:AR w X μ st.sh a x) (he:B7 st.hp a=some es) (hw:Gk s es) :
  ∃ oa c vs,x=.slice oa es.length c/\Els w X s es vs/\(∀ v∈vs,∀ u∈v,u.oneCell'=true)/\(es≠[]->∃ b off,oa=some ⟨b,off,none⟩/\∀ (j:Nat) (u:Value),vs.flatten[j]? = some u->w.cell? ⟨b,off+j,none⟩=some u):=by
 have hone:∀ {vs:List (List Value)},Els w X s es vs->∀ v∈vs,∀ u∈v,u.oneCell'=true:=by
  intro vs hels v hv u hu
  obtain⟨i,hi,rfl⟩:=List.getElem_of_mem hv
  have hi':i<es.length:=by rw[hels.1];exact hi
  exact(hels.2.2.2 i es[i] vs[i] (by simp[hi']) (by simp[hi])).ones (hels.2.2.1 _ (List.getElem_mem hi')).2 u hu
 match a,ha,he with
 | .t (.sl es' cap nl),ha,he =>
  simp only[B7,Option.some.injEq]at he;subst he
  rcases ha.t_inv.sl_inv with⟨rfl,oa,c,rfl,_⟩|⟨s',b,off,c,rfl,hxb,hle,_,_,hw',hone',f,hcell,hrel⟩
  ·exact⟨oa,c,[],rfl,⟨rfl,by simp,by simp,by simp⟩,by simp,fun h=>absurd rfl h⟩
  ·refine⟨_,c,(List.range es'.length).map (fun i=>(List.range s).map (f i)),rfl,?_⟩
   by_cases hne:es'=[]
   ·subst hne;exact⟨⟨rfl,by simp,by simp,by simp⟩,by simp,fun h=>absurd rfl h⟩
   have hpos:0<es'.length:=by cases es' with
    | nil=>exact absurd rfl hne
    | cons _ _=>simp
   have hss:s'=s:=(hw' _ (Z9 hpos).1).symm.trans (hw _ (Z9 hpos).1)
   subst hss
   have hels:Els w X s' es' ((List.range es'.length).map (fun i=>(List.range s').map (f i))):=by
    refine⟨by simp,by simp,fun e he=>⟨hw e he,hone' e he⟩,fun i e v he hv=>?_⟩
    have hi:=(List.getElem?_eq_some_iff.1 he).1
    simp[hi]at hv
    subst hv
    refine⟨by simp[hw e (List.mem_of_getElem? he)],fun k t y ht hy=>?_⟩
    have hk:k<s':=by rw[<- hw e (List.mem_of_getElem? he)];exact(List.getElem?_eq_some_iff.1 ht).1
    simp[hk]at hy;subst hy
    exact hrel i k e t he ht
   refine⟨hels,hone hels,fun _=>⟨b,off,rfl,fun j u hu=>?_⟩⟩
   have hlen:=Az hels.2.1
   have hj:=(List.getElem?_eq_some_iff.1 hu).1
   rw[hlen,List.length_map,List.length_range]at hj
   have hs0:0<s':=by
    rcases Nat.eq_zero_or_pos s' with h0|h0
    ·subst h0;simp at hj
    ·exact h0
   have hi:j / s'<es'.length:=by rw[Nat.div_lt_iff_lt_mul hs0];exact hj
   have hk:j % s'<s':=Nat.mod_lt _ hs0
   have hjk:j / s'*s'+j % s'=j:=by rw[Nat.mul_comm];exact Nat.div_add_mod j s'
   have hf:=Nc hels.2.1 (j / s') (j % s') hk
   rw[hjk,hu]at hf
   simp[hi,hk]at hf
   have:=hcell (j / s') (j % s') hi hk
   rw[Nat.add_assoc,hjk]at this
   rw[this,<- hf]
 | .ls id off len cap,ha,he =>
  simp only[B7]at he
  split at he
  case h_2=>cases he
  rename_i ty s' es0 hl
  simp only[Option.some.injEq]at he
  obtain⟨s2,n2,hs2,hcase⟩:=ha.ls_inv
  rw[By hl]at hs2
  simp only[Aj.sh,Option.some.injEq,Sh.sl.injEq]at hs2
  obtain⟨rfl,rfl⟩:=hs2
  rcases hcase with⟨_,⟨oa,rfl⟩,rfl,rfl,_⟩|⟨g,m,c,ad,hm,rfl,hle,hlc,_,hfit,_,_,had⟩
  ·simp only[List.drop_zero,List.take_zero]at he;subst he
   exact⟨oa,0,[],rfl,⟨rfl,by simp,by simp,by simp⟩,by simp,fun h=>absurd rfl h⟩
  have hlen:es.length=len:=by subst he;simp;omega
  by_cases hne:es=[]
  ·subst hne
   simp at hlen;subst hlen
   exact⟨some ad,c,[],rfl,⟨rfl,by simp,by simp,by simp⟩,by simp,fun h=>absurd rfl h⟩
  have hpos:0<len:=by
   rw[<- hlen];cases es with
   | nil=>exact absurd rfl hne
   | cons _ _=>simp
  obtain⟨hwr,hcase⟩:=h.reg id _ hl
  rcases hcase with⟨rfl,hm0⟩|⟨g',arr,hm',hg,hle',hr⟩
  ·rw[hm]at hm0;cases hm0
  rw[hm]at hm';cases hm'
  have hes:∀ e∈es,∃ i,es0[i]? = some e:=fun e hme=>by
   subst he
   have:=List.mem_of_mem_drop (List.mem_of_mem_take hme)
   obtain⟨i,hi,rfl⟩:=List.getElem_of_mem this
   exact⟨i,List.getElem?_eq_getElem hi⟩
  have hss:s'=s:=by
   have hmem:=(Z9 (es:=es) (i:=0) (by omega)).1
   obtain⟨i,hi⟩:=hes _ hmem
   exact(hwr i _ hi).1.symm.trans (hw _ hmem)
  subst hss
  have hge:∀ i,i<len->es[i]? = es0[off+i]? := fun i hi=>by
   subst he;rw[List.getElem?_take,if_pos hi,List.getElem?_drop]
  have hoff:(off+len)*s'<=es0.length*s':=Nat.mul_le_mul_right _ hle
  have hels:Els w X s' es ((List.range es.length).map (fun i=>(List.range s').map fun k=>(arr[(off+i)*s'+k]?).getD undef)):=by
   refine⟨by simp,by simp,fun e hme=>?_,fun i e v hge' hv=>?_⟩
   ·obtain⟨i,hi⟩:=hes e hme
    exact⟨(hwr i e hi).1,List.all_eq_true.2 fun t ht=>by obtain⟨k,hk,rfl⟩:=List.getElem_of_mem ht;exact(hwr i e hi).2 k _ (by simp[hk])⟩
   ·have hi:=(List.getElem?_eq_some_iff.1 hge').1
    simp[hi]at hv;subst hv
    have hel:=hw e (List.mem_of_getElem? hge')
    refine⟨by simp[hel],fun k t y ht hy=>?_⟩
    have hk:k<s':=by rw[<- hel];exact(List.getElem?_eq_some_iff.1 ht).1
    simp[hk]at hy;subst hy
    have hfit2:=Iz (s:=s') (i:=off+i) (len:=es0.length) (by omega)
    have hin:(off+i)*s'+k<arr.size:=by omega
    have hge2:es0[off+i]? = some e:=by rw[<- hge i (by omega)];exact hge'
    have:=hr (off+i) k e t arr[(off+i)*s'+k] hge2 ht (by simp[hin])
    simpa[hin]using this
  rw[<- hlen]at hlc hoff
  refine⟨some ad,c,_,by rw[hlen],hels,hone hels,fun _=>⟨g,off*s',?_,fun j u hu=>?_⟩⟩
  ·rw[had (.inl (by omega))]
  ·have hlen2:=Az hels.2.1
   have hj:=(List.getElem?_eq_some_iff.1 hu).1
   rw[hlen2,List.length_map,List.length_range]at hj
   have hs0:0<s':=by
    rcases Nat.eq_zero_or_pos s' with h0|h0
    ·subst h0;simp at hj
    ·exact h0
   have hi:j / s'<es.length:=by rw[Nat.div_lt_iff_lt_mul hs0];exact hj
   have hk:j % s'<s':=Nat.mod_lt _ hs0
   have hjk:j / s'*s'+j % s'=j:=by rw[Nat.mul_comm];exact Nat.div_add_mod j s'
   have hf:=Nc hels.2.1 (j / s') (j % s') hk
   rw[hjk,hu]at hf
   simp[hi,hk]at hf
   have e1:(off+j / s')*s'+j % s'=off*s'+j:=by rw[Nat.add_mul];omega
   rw[e1]at hf
   have hin:off*s'+j<arr.size:=by
    have:=Iz (s:=s') (i:=off+j / s') (len:=es0.length) (by omega)
    omega
   rw[cell_of_row _ _ _ _ _ _ hg]
   rw[hf];simp[hin]
end
end Go.Lg
namespace Go.Lg
open Go
section
variable {P:Program} {Γ:Tables} {w0:World} {B:Nat} {κ:Be} {X:Nat->Prop} {μ:Be} {st:St} {tm:Array Value} {w:World} {ds:List Deferred} {o:Oper}
structure Cd (P:Program) (t ty s:TypeId) (lim:Nat:=65536):Prop where
 sl:Ub P t=some ty
 sz:Ic P ty=some s
 pos:0<s
 zero:∃ zs,Br P ty=some zs/\zs.length=s
 by':∃ n,byO P ty=some n/\n<=lim
theorem Cd.info {t ty s:TypeId} {lim:Nat} (h:Cd P t ty s lim):∃ (i:TypeInfo) (z:Value),P.info? ty=some i/\i.size=s/\i.zero=some z/\z.cells.size=s/\i.bytes<=lim:=by
 obtain⟨hs,hz,hp,⟨zs,hzo,hzl⟩,n,hn,hnb⟩:=h
 simp only[Ic,Option.map_eq_some_iff]at hz
 obtain⟨i,hi,rfl⟩:=hz
 simp only[Br,hi,Option.bind_some,Option.map_eq_some_iff]at hzo
 obtain⟨z,hz,rfl⟩:=hzo
 simp only[byO,hi,Option.map_some,Option.some.injEq]at hn
 exact⟨i,z,hi,rfl,hz,by simpa using hzl,by omega⟩
theorem Ey {b x:Operand} {t:TypeId} (ho:o.op=.call { callee:=.builtin .append,args:=#[b,x],argTypes:=#[t,t] }) {v:Value} {w':World}
  (h:(Builtin.append_ #[t,t] o.type #[Act.eval ⟨tm,ds⟩ b,Act.eval ⟨tm,ds⟩ x]).run P w=.ok v w'):(execOp (Act.eval ⟨tm,ds⟩) o).run P w=.ok (.value v) w':=by
 simp[execOp,ho,resolve,invoke,builtin,h]
theorem W4 {t ty s:TypeId} {lim:Nat} (he:Cd P t ty s lim) (yt:TypeId) (ab oa:Option Addr) (n cb c:Nat) (h:n<=cb) (w:World):(Builtin.append_ #[t,t] yt #[.slice ab n cb,.slice oa 0 c]).run P w=.ok (.slice ab n cb) w:=by
 have hf:(Builtin.firstCells s 0 (.slice oa 0 c)).run P w=.ok #[] w:=by
  cases oa<;>simp[Builtin.firstCells,loadCells,loadCellsFrom]
 simp only[Builtin.append_,Sem.run_bind,List.getElem?_toArray,List.getElem?_cons_zero,List.getElem?_cons_succ,run_underlying (B9 he.sl),Result.andThen_ok,Cm he.sz,Sem.run_pure,Bool.false_eq_true,Sem.run_ite,↓reduceIte,Builtin.lenOf,Nat.add_zero,h,Bool.not_false,hf]
 cases ab<;>simp[storeCells]
theorem q1N {t ty s:TypeId} {lim:Nat} (he:Cd P t ty s lim) (yt:TypeId) {ab:Option Addr} {n m c:Nat} {a:Addr} {olds news:List Value} (hab:ab=none->n=0) (hl:olds.length=n*s) (ho:∀ b,ab=some b->∀ (j:Nat) (v:Value),olds[j]? = some v->w.cell? (b.add j)=some v)
  (hm:0<m) (hl2:news.length=m*s) (hn:∀ (j:Nat) (v:Value),news[j]? = some v->w.cell? (a.add j)=some v) (hb:(n+m)*lim<=140737488355328) (hmax:n+m<=maxLen) :
  ∃ nc arr rest,(Builtin.append_ #[t,t] yt #[.slice ab n n,.slice (some a) m c]).run P w=.ok (.slice (some ⟨w.heap.size,0,none⟩) (n+m) nc) (World.alloc { w with drawn:=w.drawn+1 } (.cells arr ty)) /\
   arr.toList=olds++news++rest/\arr.size=nc*s/\n+m<=nc/\nc<=maxLen:=by
 obtain⟨i,z,hi,his,hiz,hzs,hby⟩:=he.info
 subst his
 have hbytes:(n+m)*i.bytes<=140737488355328:=by
  exact Nat.le_trans (Nat.mul_le_mul (Nat.le_refl _) hby) hb
 have h63:((n+m:Nat):Int)<=9223372036854775807:=by
  unfold maxLen at hmax
  omega
 cases ab with
 | none =>
  have:=hab rfl;subst this
  have h0:olds=[]:=List.eq_nil_of_length_eq_zero (by simpa using hl)
  subst h0
  have hr:=run_append_nil (P:=P) w t yt ty i z (B9 he.sl) hi hiz a m c news hl2 hn hm (by omega) (by simp only[Nat.zero_add]at hbytes;omega)
  have hge:=grownCap_ge w m 0 ty
  refine⟨grownCap w m 0 ty,news.toArray++Builtin.zeroCells z.cells (grownCap w m 0 ty-m),(Builtin.zeroCells z.cells (grownCap w m 0 ty-m)).toList,by rw[Nat.zero_add];exact hr,by simp,?_,by omega,grownCap_le_maxLen w m 0 ty (by omega)⟩
  simp only[Array.size_append,List.size_toArray,size_zeroCells,hzs,hl2,<- Nat.add_mul]
  congr 1;omega
 | some b =>
  have hr:=run_append_grow (P:=P) w t yt ty i z (B9 he.sl) hi hiz b n n olds hl (ho b rfl) a m c news hl2 hn (by omega) (by omega) (growslice_fits (by omega) hbytes)
  have hge:=grownCap_ge w (n+m) n ty
  refine⟨grownCap w (n+m) n ty,olds.toArray++news.toArray++Builtin.zeroCells z.cells (grownCap w (n+m) n ty-(n+m)),(Builtin.zeroCells z.cells (grownCap w (n+m) n ty-(n+m))).toList,hr,by simp,?_,hge,grownCap_le_maxLen w (n+m) n ty hmax⟩
  simp only[Array.size_append,List.size_toArray,size_zeroCells,hzs,hl,hl2,<- Nat.add_mul]
  congr 1;omega
theorem q0W {t ty s:TypeId} (he:Cd P t ty s) (yt:TypeId) {ab:Option Addr} {n m c:Nat} {a:Addr} {olds news:List Value} (hab:ab=none->n=0) (hl:olds.length=n*s) (ho:∀ b,ab=some b->∀ (j:Nat) (v:Value),olds[j]? = some v->w.cell? (b.add j)=some v)
  (hm:0<m) (hl2:news.length=m*s) (hn:∀ (j:Nat) (v:Value),news[j]? = some v->w.cell? (a.add j)=some v) (hb:n+m<=2147483648) :
  ∃ nc arr rest,(Builtin.append_ #[t,t] yt #[.slice ab n n,.slice (some a) m c]).run P w=.ok (.slice (some ⟨w.heap.size,0,none⟩) (n+m) nc) (World.alloc { w with drawn:=w.drawn+1 } (.cells arr ty)) /\
   arr.toList=olds++news++rest/\arr.size=nc*s/\n+m<=nc/\nc<=maxLen :=
 q1N he yt hab hl ho hm hl2 hn (by omega) (Hj hb)
theorem Nh {s:Nat} {es:List (List T)} {vs:List (List Value)} (h:Els w X s es vs) (n:Nat):Els w X s (es.take n) (vs.take n):=by
 refine⟨by simp[h.1],fun v hv=>h.2.1 v (List.mem_of_mem_take hv),fun e he=>h.2.2.1 e (List.mem_of_mem_take he),fun i e v he hv=>?_⟩
 rw[List.getElem?_take]at he hv
 split at he
 ·rename_i hi;rw[if_pos hi]at hv;exact h.2.2.2 i e v he hv
 ·cases he
theorem P0 {t ty s:TypeId} {lim:Nat} (he:Cd P t ty s lim) {b x:Operand} (h:B0 w0 B κ X μ st tm w) (ho:o.op=.call { callee:=.builtin .append,args:=#[b,x],argTypes:=#[t,t] }) {es:List (List T)} {vs:List (List Value)} (hels:Els w X s es vs)
  {nc:Nat} {arr:Array Value} {rest:List Value} (hr:(Builtin.append_ #[t,t] o.type #[Act.eval ⟨tm,ds⟩ b,Act.eval ⟨tm,ds⟩ x]).run P w=.ok (.slice (some ⟨w.heap.size,0,none⟩) es.length nc) (World.alloc { w with drawn:=w.drawn+1 } (.cells arr ty)))
  (ha:arr.toList=vs.flatten++rest) (hle:es.length<=nc):Ad P w0 B κ X o (.t (.sl es none none)) st tm w ds:=by
 refine Ad.block h (w.drawn+1) (0,0) (Ey ho hr) (.t _ _ ?_)
 have:=hels.mono (Dn h.xlt (w.drawn+1) (.cells arr ty)) (Y:=fun b=>X b\/b=w.heap.size) (fun _ hb=>.inl hb)
 exact TR.new_sl this (Gw w _ _) ha (.inr rfl) hle (fun n hn=>by cases hn) (fun q hq=>by cases hq)
theorem q28 {t ty s d:TypeId} {lim:Nat} (he:Cd P t ty s lim) {b x:Operand} (h:B0 w0 B κ X μ st tm w) (ho:o.op=.call { callee:=.builtin .append,args:=#[b,x],argTypes:=#[t,t] }) {es:List (List T)} {vs:List (List Value)} (hels:Els w X s es vs)
  {nc:Nat} {arr:Array Value} {rest:List Value} (hr:(Builtin.append_ #[t,t] o.type #[Act.eval ⟨tm,ds⟩ b,Act.eval ⟨tm,ds⟩ x]).run P w=.ok (.slice (some ⟨w.heap.size,0,none⟩) es.length nc) (World.alloc { w with drawn:=w.drawn+1 } (.cells arr ty)))
  (ha:arr.toList=vs.flatten++rest) (hsz:arr.size=nc*s) (hle:es.length<=nc) (hmax:nc<=maxLen) (hd:A2 st.hp d=none) (hdb:d<1000000):Ad P w0 B κ X o (.ls d 0 es.length none) ⟨st.env,(d,.sl ty s es)::st.hp⟩ tm w ds:=by
 refine Ad.region h (w.drawn+1) hd hdb (Ey ho hr) ?_ ?_
 ·exact Zb (hels.mono (Dn h.xlt (w.drawn+1) (.cells arr ty)) (Y:=X) (fun _ hb=>hb)) (by simp only[Be.set,↓reduceIte]) (Gw w _ _) ha
 ·exact .ls d 0 es.length s es.length w.heap.size _ nc none (by rw[Lt];rfl) (by simp only[Be.set,↓reduceIte];rfl) (by omega) hle hmax (by simp[hsz]) (fun _=>by simp[hsz]) (fun q hq=>by cases hq) _ (fun _=>by simp)
theorem Ad.nilRegion {v:Value} {ty s d:Nat} (h:B0 w0 B κ X μ st tm w) (hd:A2 st.hp d=none) (hdb:d<1000000) (a:Option Addr) (hv:v=.slice a 0 0) (hr:(execOp (Act.eval ⟨tm,ds⟩) o).run P w=.ok (.value v) w) :
  Ad P w0 B κ X o (.ls d 0 0 none) ⟨st.env,(d,.sl ty s [])::st.hp⟩ tm w ds:=by
 subst hv
 refine⟨_,_,w,_,X,hr,.inl rfl,h.addReg hd hdb (.sl ty s []) none (fun g n e=>by cases e) ⟨by simp,.inl ⟨rfl,by simp[Be.set]⟩⟩,(.lsnil d s 0 (by rw[Lt];rfl) (by simp[Be.set]) a none (fun q hq=>by cases hq)),fun _ hx=>hx,fun _ _=>rfl,fun _ hx=>.inl hx⟩
theorem TR.weaken {es:List (List T)} {cap:Option Nat} {nl:Option Bool} {x:Value} (h:TR w X (.sl es cap nl) x):TR w X (.sl es none none) x:=by
 cases h with
 | nil cap nl a c hc hn hz=>exact .nil _ _ a c (fun n hn=>by cases hn) (fun b hb=>by cases hb) hz
 | sl es cap nl s b off c f hcell hlen hrel hone hx hle hc hn=>exact .sl es _ _ s b off c f hcell hlen hrel hone hx hle (fun n hn=>by cases hn) (fun q hq=>by cases hq)
theorem q4z {t ty s d:TypeId} (he:Cd P t ty s) {b x:Operand} {fz:Bool} {es news:List (List T)} {c:Nat} {nl:Option Bool} {ax:AV} (h:B0 w0 B κ X μ st tm w) (hg:Gl Γ w X) (ho:o.op=.call { callee:=.builtin .append,args:=#[b,x],argTypes:=#[t,t] }) (kb:A9 b=true) (kx:A9 x=true)
  (hx:ev Γ st.env x=some ax) (hnews:B7 st.hp ax=some news) (hw:Gk s news) (hb:ev Γ st.env b=some (.t (.sl es (some c) nl))) (hwe:Gk s es) (hc:c=es.length) (hbig:es.length+news.length<=2147483648) (hz:fz=true\/news≠[]\/es=[]) :
  (fz=true->Ad P w0 B κ X o (.t (.sl (es++news) none none)) st tm w ds)/\(fz=false->A2 st.hp d=none->d<1000000->Ad P w0 B κ X o (.ls d 0 (es++news).length none) ⟨st.env,(d,.sl ty s (es++news))::st.hp⟩ tm w ds):=by
 have hrb:=Ah (ds:=ds) h hg hb kb
 have hrx:=Ah (ds:=ds) h hg hx kx
 obtain⟨oa,c2,vs,hvx,hels,hone,hsrc⟩:=S0 h hrx hnews hw
 obtain⟨ob,c1,us,hvb,helsb,_,hsrcb⟩:=S0 (s:=s) (es:=es) h hrb rfl hwe
 obtain⟨ob',c1',hvb',hc1,_⟩:=hrb.t_inv.sl_val
 rw[hvb]at hvb'
 simp only[Value.slice.injEq]at hvb'
 obtain⟨rfl,_,rfl⟩:=hvb'
 have hc1:=hc1 c rfl
 rw[hc1,hc]at hvb
 by_cases hne:news=[]
 ·subst hne
  have hrun:=W4 (P:=P) he o.type ob oa es.length es.length c2 (Nat.le_refl _) w
  rw[show Value.slice oa 0 c2=Act.eval ⟨tm,ds⟩ x by rw[hvx];rfl,<- hvb]at hrun
  refine⟨fun _=>?_,fun hf hd hdb=>?_⟩
  ·rw[List.append_nil]
   exact Ad.same h (Ey ho hrun) (.t _ _ hrb.t_inv.weaken)
  ·rw[List.append_nil]
   have hes:es=[]:=by
    rcases hz with hz|hz|hz
    ·rw[hf]at hz;cases hz
    ·exact absurd rfl hz
    ·exact hz
   subst hes
   exact Ad.nilRegion h hd hdb ob (by rw[hvb];rfl) (Ey ho hrun)
 ·obtain⟨bb,off,rfl,hcell⟩:=hsrc hne
  have hm:0<news.length:=by cases news with
   | nil=>exact absurd rfl hne
   | cons _ _=>simp
  have hlb:=Az helsb.2.1
  have hlx:=Az hels.2.1
  obtain⟨nc,arr,rest,hrun,ha,hsz,hle,hmax⟩:=q0W (P:=P) (w:=w) he o.type (ab:=ob) (n:=es.length) (m:=news.length) (c:=c2) (a:=⟨bb,off,none⟩) (olds:=us.flatten) (news:=vs.flatten)
   (fun e=>by
    by_cases h0:es=[]
    ·rw[h0];rfl
    ·obtain⟨b',off',e',_⟩:=hsrcb h0;rw[e]at e';cases e')
   (by rw[hlb,helsb.1]) (fun b' e j v hv=>by
    by_cases h0:es=[]
    ·have:us=[]:=List.eq_nil_of_length_eq_zero (by rw[<- helsb.1,h0];rfl)
     rw[this]at hv;simp at hv
    ·obtain⟨b2,off',e',hcb⟩:=hsrcb h0
     rw[e]at e';cases e'
     rw[Addr.add_lit];exact hcb j v hv)
   hm (by rw[hlx,hels.1]) (fun j v hv=>by rw[Addr.add_lit];exact hcell j v hv) hbig
  rw[<- hvb,<- hvx]at hrun
  rw[<- List.length_append]at hrun hle
  have hels2:=helsb.append hels
  exact⟨fun _=>P0 he h ho hels2 hrun (by rw[ha,List.flatten_append]) hle,fun _ hd hdb=>q28 he h ho hels2 hrun (by rw[ha,List.flatten_append]) hsz hle hmax hd hdb⟩
theorem qHY {t ty s:TypeId} (he:Cd P t ty s 1) {b x:Operand} {es news:List (List T)} {c:Nat} {nl:Option Bool} {ax:AV} (h:B0 w0 B κ X μ st tm w) (hg:Gl Γ w X) (ho:o.op=.call { callee:=.builtin .append,args:=#[b,x],argTypes:=#[t,t] }) (kb:A9 b=true) (kx:A9 x=true)
  (hx:ev Γ st.env x=some ax) (hnews:B7 st.hp ax=some news) (hw:Gk s news) (hb:ev Γ st.env b=some (.t (.sl es (some c) nl))) (hwe:Gk s es) (hc:c=es.length) (hbig:es.length+news.length<=140737488355328) :
  Ad P w0 B κ X o (.t (.sl (es++news) none none)) st tm w ds:=by
 have hrb:=Ah (ds:=ds) h hg hb kb
 have hrx:=Ah (ds:=ds) h hg hx kx
 obtain⟨oa,c2,vs,hvx,hels,hone,hsrc⟩:=S0 h hrx hnews hw
 obtain⟨ob,c1,us,hvb,helsb,_,hsrcb⟩:=S0 (s:=s) (es:=es) h hrb rfl hwe
 obtain⟨ob',c1',hvb',hc1,_⟩:=hrb.t_inv.sl_val
 rw[hvb]at hvb'
 simp only[Value.slice.injEq]at hvb'
 obtain⟨rfl,_,rfl⟩:=hvb'
 have hc1:=hc1 c rfl
 rw[hc1,hc]at hvb
 by_cases hne:news=[]
 ·subst hne
  have hrun:=W4 (P:=P) he o.type ob oa es.length es.length c2 (Nat.le_refl _) w
  rw[show Value.slice oa 0 c2=Act.eval ⟨tm,ds⟩ x by rw[hvx];rfl,<- hvb]at hrun
  rw[List.append_nil]
  exact Ad.same h (Ey ho hrun) (.t _ _ hrb.t_inv.weaken)
 ·obtain⟨bb,off,rfl,hcell⟩:=hsrc hne
  have hm:0<news.length:=by cases news with
   | nil=>exact absurd rfl hne
   | cons _ _=>simp
  have hlb:=Az helsb.2.1
  have hlx:=Az hels.2.1
  obtain⟨nc,arr,rest,hrun,ha,hsz,hle,hmax⟩:=q1N (P:=P) (w:=w) he o.type (ab:=ob) (n:=es.length) (m:=news.length) (c:=c2) (a:=⟨bb,off,none⟩) (olds:=us.flatten) (news:=vs.flatten)
   (fun e=>by
    by_cases h0:es=[]
    ·rw[h0];rfl
    ·obtain⟨b',off',e',_⟩:=hsrcb h0;rw[e]at e';cases e')
   (by rw[hlb,helsb.1]) (fun b' e j v hv=>by
    by_cases h0:es=[]
    ·have:us=[]:=List.eq_nil_of_length_eq_zero (by rw[<- helsb.1,h0];rfl)
     rw[this]at hv;simp at hv
    ·obtain⟨b2,off',e',hcb⟩:=hsrcb h0
     rw[e]at e';cases e'
     rw[Addr.add_lit];exact hcb j v hv)
   hm (by rw[hlx,hels.1]) (fun j v hv=>by rw[Addr.add_lit];exact hcell j v hv) (by omega) (by unfold maxLen;omega)
  rw[<- hvb,<- hvx]at hrun
  rw[<- List.length_append]at hrun hle
  have hels2:=helsb.append hels
  exact P0 he h ho hels2 hrun (by rw[ha,List.flatten_append]) hle
end
end Go.Lg
namespace Go.Lg
open Go
section
variable {P:Program} {Γ:Tables} {w0:World} {B:Nat} {κ:Be} {X:Nat->Prop} {μ:Be} {st:St} {tm:Array Value} {w:World} {ds:List Deferred} {o:Oper}
theorem qFP {id ty s:Nat} {es:List (List T)} {sh:Nat->Option Sh} (h:Bv w X μ sh id (.sl ty s es)):Gk s es:=fun e he=>by
 obtain⟨i,hi,rfl⟩:=List.getElem_of_mem he
 exact(h.1 i _ (List.getElem?_eq_getElem hi)).1
theorem q6w {t ty s d id off len c:Nat} (he:Cd P t ty s) {b x:Operand} {es news:List (List T)} {ax:AV} (h:B0 w0 B κ X μ st tm w) (hg:Gl Γ w X) (ho:o.op=.call { callee:=.builtin .append,args:=#[b,x],argTypes:=#[t,t] }) (kb:A9 b=true) (kx:A9 x=true)
  (hx:ev Γ st.env x=some ax) (hnews:B7 st.hp ax=some news) (hw:Gk s news) (hb:ev Γ st.env b=some (.ls id off len (some c))) (hl:A2 st.hp id=some (.sl ty s es)) (hc:c=len) (hbig:len+news.length<=2147483648) (hz:news≠[]\/len=0) :
  Ad P w0 B κ X o (.t (.sl ((es.drop off).take len++news) none none)) st tm w ds/\(A2 st.hp d=none->d<1000000->Ad P w0 B κ X o (.ls d 0 ((es.drop off).take len++news).length none) ⟨st.env,(d,.sl ty s ((es.drop off).take len++news))::st.hp⟩ tm w ds):=by
 have hrb:=Ah (ds:=ds) h hg hb kb
 have hrx:=Ah (ds:=ds) h hg hx kx
 have hel:B7 st.hp (.ls id off len (some c))=some ((es.drop off).take len):=by simp[B7,hl]
 have hwr:=qFP (h.reg id _ hl)
 have hwe:Gk s ((es.drop off).take len):=fun e hm=>hwr e (List.mem_of_mem_drop (List.mem_of_mem_take hm))
 obtain⟨oa,c2,vs,hvx,hels,hone,hsrc⟩:=S0 h hrx hnews hw
 obtain⟨ob,c1,us,hvb,helsb,_,hsrcb⟩:=S0 h hrb hel hwe
 obtain⟨s2,n2,hs2,hcase⟩:=hrb.ls_inv
 rw[By hl]at hs2
 simp only[Aj.sh,Option.some.injEq,Sh.sl.injEq]at hs2
 obtain⟨rfl,rfl⟩:=hs2
 rcases hcase with⟨hm,⟨ab,hvb3⟩,_,rfl,hcn⟩|⟨g,m,c3,ad,hm,hv3,hle,hlc,hcm,hfit,_,hcq,had⟩
 ·-- it lies nowhere
  simp only[List.take_zero,List.nil_append]
  by_cases hne:news=[]
  ·subst hne
   have hrun:=W4 (P:=P) he o.type ab oa 0 0 c2 (Nat.le_refl _) w
   rw[show Value.slice oa 0 c2=Act.eval ⟨tm,ds⟩ x by rw[hvx];rfl,<- hvb3]at hrun
   refine⟨?_,fun hd hdb=>Ad.nilRegion h hd hdb ab hvb3 (Ey ho hrun)⟩
   refine Ad.same h (Ey ho hrun) (.t _ _ ?_)
   rw[hvb3];exact .nil _ _ _ _ (fun n hn=>by cases hn) (fun b hb=>by cases hb) (fun _=>rfl)
  ·obtain⟨bb,boff,rfl,hcell⟩:=hsrc hne
   have hmp:0<news.length:=by cases news with
    | nil=>exact absurd rfl hne
    | cons _ _=>simp
   have hlx:=Az hels.2.1
   obtain⟨nc,arr,rest,hrun,ha,hsz,hle2,hmax⟩:=q0W (P:=P) (w:=w) he o.type (ab:=ab) (n:=0) (m:=news.length) (c:=c2) (a:=⟨bb,boff,none⟩) (olds:=[]) (news:=vs.flatten)
    (fun _=>rfl) (by simp) (fun b' e j v hv=>by simp at hv) hmp (by rw[hlx,hels.1]) (fun j v hv=>by rw[Addr.add_lit];exact hcell j v hv) hbig
   rw[<- hvb3,<- hvx,Nat.zero_add]at hrun
   rw[Nat.zero_add]at hle2
   exact⟨P0 he h ho hels hrun (by rw[ha];rfl) hle2,fun hd hdb=>q28 he h ho hels hrun (by rw[ha];rfl) hsz hle2 hmax hd hdb⟩
 have hc3:=hcq c rfl
 subst hc3
 subst hc
 have hlen:((es.drop off).take c3).length=c3:=by simp;omega
 rw[hv3]at hvb
 simp only[Value.slice.injEq]at hvb
 obtain⟨rfl,_,rfl⟩:=hvb
 generalize hE:(es.drop off).take c3=E at *
 by_cases hne:news=[]
 ·subst hne
  have h0:c3=0:=by rcases hz with hz|hz;exact absurd rfl hz;exact hz
  subst h0
  have hE0:E=[]:=List.eq_nil_of_length_eq_zero hlen
  subst hE0
  have hrun:=W4 (P:=P) he o.type (some ad) oa 0 0 c2 (Nat.le_refl _) w
  rw[show Value.slice oa 0 c2=Act.eval ⟨tm,ds⟩ x by rw[hvx];rfl,<- hv3]at hrun
  refine⟨?_,fun hd hdb=>?_⟩
  ·refine Ad.same h (Ey ho hrun) (.t _ _ ?_)
   rw[hv3];exact .nil _ _ _ _ (fun n hn=>by cases hn) (fun b hb=>by cases hb) (fun e=>by cases e)
  ·exact Ad.nilRegion h hd hdb (some ad) hv3 (Ey ho hrun)
 ·obtain⟨bb,boff,rfl,hcell⟩:=hsrc hne
  have hmp:0<news.length:=by cases news with
   | nil=>exact absurd rfl hne
   | cons _ _=>simp
  have hlb:=Az helsb.2.1
  have hlx:=Az hels.2.1
  obtain⟨nc,arr,rest,hrun,ha,hsz,hle2,hmax⟩:=q0W (P:=P) (w:=w) he o.type (ab:=some ad) (n:=c3) (m:=news.length) (c:=c2) (a:=⟨bb,boff,none⟩) (olds:=us.flatten) (news:=vs.flatten)
   (fun e=>by cases e) (by rw[hlb,<- helsb.1,hlen]) (fun b' e j v hv=>by
    cases e
    by_cases h0:E=[]
    ·have:us=[]:=List.eq_nil_of_length_eq_zero (by rw[<- helsb.1,h0];rfl)
     rw[this]at hv;simp at hv
    ·obtain⟨b2,off',e',hcb⟩:=hsrcb h0
     cases e'
     rw[Addr.add_lit];exact hcb j v hv)
   hmp (by rw[hlx,hels.1]) (fun j v hv=>by rw[Addr.add_lit];exact hcell j v hv) hbig
  rw[<- hv3,<- hvx]at hrun
  have e1:c3+news.length=(E++news).length:=by rw[List.length_append,hlen]
  rw[e1]at hrun hle2
  have hels2:=helsb.append hels
  exact⟨P0 he h ho hels2 hrun (by rw[ha,List.flatten_append]) hle2,fun hd hdb=>q28 he h ho hels2 hrun (by rw[ha,List.flatten_append]) hsz hle2 hmax hd hdb⟩
theorem q8X {t ty s:TypeId} {lim:Nat} (he:Cd P t ty s lim) (yt:TypeId) {g n m cb c:Nat} {a:Addr} {arr:Array Value} {news:List Value} (hg:w.heap[g]? = some (.cells arr ty (0,0))) (hl2:news.length=m*s) (h1:∀ u∈news,u.oneCell'=true)
  (hn:∀ (j:Nat) (v:Value),news[j]? = some v->w.cell? (a.add j)=some v) (hroom:n+m<=cb) (hfit:n*s+news.length<=arr.size) :
  (Builtin.append_ #[t,t] yt #[.slice (some ⟨g,0,none⟩) n cb,.slice (some a) m c]).run P w=.ok (.slice (some ⟨g,0,none⟩) (n+m) cb) (w.setRow g (arr.toList.take (n*s)++news++arr.toList.drop (n*s+news.length)).toArray):=by
 obtain⟨i,z,hi,his,hiz,hzs,hby⟩:=he.info
 subst his
 exact run_append_room (P:=P) w t yt ty i (B9 he.sl) hi g n cb arr hg a m c news hl2 hn h1 hroom hfit
theorem Xm {id ty s:Nat} {es:List (List T)} {sh:Nat->Option Sh} (h:Bv w X μ sh id (.sl ty s es)) (hpos:0<s) {g m:Nat} (hm:μ id=some (g,m)) :
  ∃ arr rest vs,w.heap[g]? = some (.cells arr ty (0,0))/\arr.size=m/\Els w X s es vs/\arr.toList=vs.flatten++rest:=by
 obtain⟨hw,hcase⟩:=h
 rcases hcase with⟨_,hm0⟩|⟨g',arr,hm',hg,hle,hr⟩
 ·rw[hm]at hm0;cases hm0
 rw[hm]at hm';cases hm'
 have hels:Els w X s es ((List.range es.length).map fun i=>(arr.toList.drop (i*s)).take s):=by
  refine⟨by simp,fun v hv=>?_,fun e hme=>?_,fun i e v he hv=>?_⟩
  ·obtain⟨i,hi,rfl⟩:=List.mem_map.1 hv
   simp at hi
   have:=Iz (s:=s) hi
   simp;omega
  ·obtain⟨i,hi,rfl⟩:=List.getElem_of_mem hme
   have:=hw i _ (List.getElem?_eq_getElem hi)
   exact⟨this.1,List.all_eq_true.2 fun t ht=>by obtain⟨k,hk,rfl⟩:=List.getElem_of_mem ht;exact this.2 k _ (List.getElem?_eq_getElem hk)⟩
  ·have hi:=(List.getElem?_eq_some_iff.1 he).1
   simp[hi]at hv;subst hv
   have hf:=Iz (s:=s) hi
   refine⟨by simp[(hw i e he).1];omega,fun k t y ht hy=>?_⟩
   rw[List.getElem?_take]at hy
   split at hy
   ·rw[List.getElem?_drop]at hy;exact hr i k e t y he ht (by simpa using hy)
   ·cases hy
 refine⟨arr,arr.toList.drop (es.length*s),_,hg,rfl,hels,?_⟩
 have hfl:((List.range es.length).map fun i=>(arr.toList.drop (i*s)).take s).flatten=arr.toList.take (es.length*s):=by
  have hlen:=Az hels.2.1
  rw[List.length_map,List.length_range]at hlen
  apply List.ext_getElem?
  intro j
  by_cases hj:j<es.length*s
  ·have hi:j / s<es.length:=by rw[Nat.div_lt_iff_lt_mul hpos];exact hj
   have hk:j % s<s:=Nat.mod_lt _ hpos
   have hjk:j / s*s+j % s=j:=by rw[Nat.mul_comm];exact Nat.div_add_mod j s
   have hf:=Nc hels.2.1 (j / s) (j % s) hk
   rw[hjk]at hf
   rw[hf,List.getElem?_take,if_pos hj]
   simp only[List.getElem?_map,List.getElem?_range hi,Option.map_some,Option.bind_some,List.getElem?_take,hk,↓reduceIte,List.getElem?_drop,hjk]
  ·rw[List.getElem?_eq_none (by omega),List.getElem?_eq_none (by simp;omega)]
 rw[hfl,List.take_append_drop]
theorem q34 {t ty s d id len:Nat} {lim:Nat} (he:Cd P t ty s lim) {b x:Operand} {es news:List (List T)} {ax:AV} (h:B0 w0 B κ X μ st tm w) (hg:Gl Γ w X) (ho:o.op=.call { callee:=.builtin .append,args:=#[b,x],argTypes:=#[t,t] }) (kb:A9 b=true) (kx:A9 x=true)
  (hx:ev Γ st.env x=some ax) (hnews:B7 st.hp ax=some news) (hw:Gk s news) (hb:ev Γ st.env b=some (.ls id 0 len none)) (hl:A2 st.hp id=some (.sl ty s es)) (hbig:(len+news.length)*lim<=140737488355328) (hmaxl:len+news.length<=maxLen) :
  Ad P w0 B κ X o (.t (.sl (es.take len++news) none none)) (st.kill id) tm w ds/\(A2 (st.kill id).hp d=none->d<1000000->Ad P w0 B κ X o (.ls d 0 (es.take len++news).length none) ⟨(st.kill id).env,(d,.sl ty s (es.take len++news))::(st.kill id).hp⟩ tm w ds):=by
 have hrb:=Ah (ds:=ds) h hg hb kb
 have hrx:=Ah (ds:=ds) h hg hx kx
 have hreg:=h.reg id _ hl
 have hid:st.sh id≠none:=by simp[By hl]
 have hkill:=h.kill id
 obtain⟨oa,c2,vs,hvx,hels,hone,hsrc⟩:=S0 h hrx hnews hw
 obtain⟨s2,n2,hs2,hcase⟩:=hrb.ls_inv
 rw[By hl]at hs2
 simp only[Aj.sh,Option.some.injEq,Sh.sl.injEq]at hs2
 obtain⟨rfl,rfl⟩:=hs2
 rcases hcase with⟨hm,⟨ab,hvb⟩,_,rfl,_⟩|⟨g,m,cb,ad,hm,hvb,hle,hlc,hcm,hfit,hfull,_,had⟩
 ·-- it lies nowhere
  by_cases hne:news=[]
  ·subst hne
   have hrun:=W4 (P:=P) he o.type ab oa 0 0 c2 (Nat.le_refl _) w
   rw[show Value.slice oa 0 c2=Act.eval ⟨tm,ds⟩ x by rw[hvx];rfl,<- hvb]at hrun
   simp only[List.take_zero,List.append_nil]
   refine⟨?_,fun hd hdb=>Ad.nilRegion hkill hd hdb ab hvb (Ey ho hrun)⟩
   refine Ad.same hkill (Ey ho hrun) (.t _ _ ?_)
   rw[hvb];exact .nil _ _ _ _ (fun n hn=>by cases hn) (fun b hb=>by cases hb) (fun _=>rfl)
  ·obtain⟨bb,boff,rfl,hcell⟩:=hsrc hne
   have hmp:0<news.length:=by cases news with
    | nil=>exact absurd rfl hne
    | cons _ _=>simp
   have hlx:=Az hels.2.1
   obtain⟨nc,arr,rest,hrun,ha,hsz,hle2,hmax⟩:=q1N (P:=P) (w:=w) he o.type (ab:=ab) (n:=0) (m:=news.length) (c:=c2) (a:=⟨bb,boff,none⟩) (olds:=[]) (news:=vs.flatten)
    (fun _=>rfl) (by simp) (fun b' e j v hv=>by simp at hv) hmp (by rw[hlx,hels.1]) (fun j v hv=>by rw[Addr.add_lit];exact hcell j v hv) hbig hmaxl
   rw[<- hvb,<- hvx,Nat.zero_add]at hrun
   rw[Nat.zero_add]at hle2
   simp only[List.take_zero,List.nil_append]
   exact⟨P0 he hkill ho hels hrun (by rw[ha];rfl) hle2,fun hd hdb=>q28 he hkill ho hels hrun (by rw[ha];rfl) hsz hle2 hmax hd hdb⟩
 ·have hadg:ad=⟨g,0,none⟩:=by have:=had (.inr rfl);simpa using this
  subst hadg
  simp only[Nat.zero_add]at hle hfit hfull
  have hfull:=hfull trivial
  obtain⟨arr,rest,us,hheap,hsz,helsr,harr⟩:=Xm hreg he.pos hm
  have helst:=Nh helsr len
  have hlt:(es.take len).length=len:=by simp;omega
  have hlb:((us.take len).flatten).length=len*s:=by rw[Az helst.2.1,<- helst.1,hlt]
  have hus:(us.take len).flatten=arr.toList.take (len*s):=by
   have h2:us.flatten=(us.take len).flatten++(us.drop len).flatten:=by rw[<- List.flatten_append,List.take_append_drop]
   rw[harr,h2,List.append_assoc,List.take_append_of_le_length (by omega)]
   exact(List.take_of_length_le (by omega)).symm
  have hlx:=Az hels.2.1
  -- the room case, or nothing to append
  have hcells:∀ (j:Nat) (v:Value),(us.take len).flatten[j]? = some v->w.cell? ⟨g,0+j,none⟩=some v:=fun j v hv=>by
   rw[cell_of_row _ _ _ _ _ _ hheap,Nat.zero_add]
   rw[hus,List.getElem?_take]at hv
   split at hv
   ·simpa using hv
   ·cases hv
  by_cases hroom:len+news.length<=cb
  ·-- in place: the world's block g holds the new row
   have hrunw:∃ arr' rest',arr'.size=arr.size/\arr'.toList=(us.take len++vs).flatten++rest'/\(Builtin.append_ #[t,t] o.type #[Act.eval ⟨tm,ds⟩ b,Act.eval ⟨tm,ds⟩ x]).run P w=.ok (.slice (some ⟨g,0,none⟩) (len+news.length) cb) (w.setRow g arr'):=by
    have hfit2:len*s+vs.flatten.length<=arr.size:=by
     rw[hlx,<- hels.1,<- Nat.add_mul,hsz,<- hfull];exact Nat.mul_le_mul_right _ hroom
    refine⟨(arr.toList.take (len*s)++vs.flatten++arr.toList.drop (len*s+vs.flatten.length)).toArray,arr.toList.drop (len*s+vs.flatten.length),Rz rfl hfit2,by rw[List.flatten_append,hus],?_⟩
    by_cases hne:news=[]
    ·subst hne
     have hvs:vs=[]:=List.eq_nil_of_length_eq_zero (by rw[<- hels.1];rfl)
     subst hvs
     have hrun:=W4 (P:=P) he o.type (some ⟨g,0,none⟩) oa len cb c2 hlc w
     rw[show Value.slice oa 0 c2=Act.eval ⟨tm,ds⟩ x by rw[hvx];rfl,<- hvb]at hrun
     rw[hrun]
     simp only[List.length_nil,Nat.add_zero,List.flatten_nil,List.append_nil,List.take_append_drop,Array.toArray_toList]
     rw[setRow_self w g arr ty (0,0) hheap,hvb]
    ·obtain⟨bb,boff,rfl,hcell⟩:=hsrc hne
     have:=q8X (P:=P) (w:=w) he o.type (n:=len) (m:=news.length) (cb:=cb) (c:=c2) (a:=⟨bb,boff,none⟩) (news:=vs.flatten) hheap (by rw[hlx,hels.1]) (fun u hu=>by
      obtain⟨v,hv,hu⟩:=List.mem_flatten.1 hu;exact hone v hv u hu) (fun j v hv=>by rw[Addr.add_lit];exact hcell j v hv) hroom hfit2
     rw[hvb,hvx];exact this
   obtain⟨arr',rest',hsz',harr',hrun⟩:=hrunw
   obtain⟨hgX,hgs,hgB⟩:=h.loc id g m hid hm
   have hnol:∀ id' n,(st.kill id).sh id' ≠ none->μ id' ≠ some (g,n):=fun id' n hi e=>by
    rw[q0V]at hi
    split at hi
    ·exact hi rfl
    ·rename_i hne2;exact hne2 (h.inj id' id g n m hi hid e hm)
   have hheap':=setRow_heap w g arr arr' ty _ hheap
   have hels2:=helst.append hels
   have hlen2:len+news.length=(es.take len++news).length:=by rw[List.length_append,hlt]
   constructor
   ·-- as a tree: the block is immutable from now on
    obtain⟨hsim,hs⟩:=hkill.free (X':=fun b=>X b\/b=g) hgX hnol hgB hgs (w.setRow g arr') rfl rfl rfl (by simp) (fun k hk=>setRow_other w g k _ hk) (fun _ hx=>.inl hx) (fun _ hx=>hx)
    refine⟨_,_,_,μ,_,Ey ho hrun,.inl rfl,hsim,.t _ _ ?_,fun _ hx=>.inl hx,hs,fun b hx=>?_⟩
    ·rw[hlen2]
     exact TR.new_sl (hels2.mono hs (fun _ hb=>.inl hb)) hheap' harr' (.inr rfl) (by omega) (fun n hn=>by cases hn) (fun q hq=>by cases hq)
    ·rcases hx with hx|rfl
     ·exact .inl hx
     ·rcases Nat.lt_or_ge b B with hlt|hge
      ·exact .inr (.inr (hgB hlt))
      ·exact .inr (.inl hge)
   ·intro hd hdb
    obtain⟨hsim,hs⟩:=hkill.free (X':=X) hgX hnol hgB hgs (w.setRow g arr') rfl rfl rfl (by simp) (fun k hk=>setRow_other w g k _ hk) (fun _ hx=>hx) (fun _ hx=>.inl hx)
    refine⟨_,_,_,_,X,Ey ho hrun,.inl rfl,hsim.addReg hd hdb (.sl ty s (es.take len++news)) (some (g,m)) (fun g' n' e=>?_) ?_,?_,fun _ hx=>hx,hs,fun _ hx=>.inl hx⟩
    ·cases e;exact⟨hgX,by simpa using hgs,hgB,fun id' n' hi=>hnol id' n' hi⟩
    ·exact Zb (hels2.mono hs (fun _ hx=>hx)) (by simp only[Be.set,↓reduceIte,hsz',hsz]) hheap' harr'
    ·rw[hlen2]
     exact .ls d 0 _ s _ g m cb none (by rw[Lt];rfl) (by simp only[Be.set,↓reduceIte]) (by omega) (by omega) hcm (by simpa using hfit) (fun _=>by simpa using hfull) (fun q hq=>by cases hq) _ (fun _=>by simp)
  ·-- in new memory
   have hne:news≠[]:=fun e=>by rw[e]at hroom;simp at hroom;omega
   obtain⟨bb,boff,rfl,hcell⟩:=hsrc hne
   obtain⟨i,z,hi,his,hiz,hzs,hby⟩:=he.info
   subst his
   have hbytes:(len+news.length)*i.bytes<=140737488355328:=by
    exact Nat.le_trans (Nat.mul_le_mul_left _ hby) hbig
   have h63:((len+news.length:Nat):Int)<=9223372036854775807:=by
    unfold maxLen at hmaxl
    omega
   have hmp:0<news.length:=by cases news with
    | nil=>exact absurd rfl hne
    | cons _ _=>simp
   have hr:=run_append_grow (P:=P) w t o.type ty i z (B9 he.sl) hi hiz ⟨g,0,none⟩ len cb (us.take len).flatten hlb (fun j v hv=>by rw[Addr.add_lit];exact hcells j v hv) ⟨bb,boff,none⟩ news.length c2 vs.flatten (by rw[hlx,hels.1])
    (fun j v hv=>by rw[Addr.add_lit];exact hcell j v hv) (by omega) (by omega) (growslice_fits (by omega) hbytes)
   have hge:=grownCap_ge w (len+news.length) cb ty
   have hels2:=helst.append hels
   have hlen2:len+news.length=(es.take len++news).length:=by rw[List.length_append,hlt]
   rw[<- hvb,<- hvx]at hr
   have harr2:((us.take len).flatten.toArray++vs.flatten.toArray++Builtin.zeroCells z.cells (grownCap w (len+news.length) cb ty-(len+news.length))).toList=(us.take len++vs).flatten++(Builtin.zeroCells z.cells (grownCap w (len+news.length) cb ty-(len+news.length))).toList:=by
    simp
   have hsz2:((us.take len).flatten.toArray++vs.flatten.toArray++Builtin.zeroCells z.cells (grownCap w (len+news.length) cb ty-(len+news.length))).size=grownCap w (len+news.length) cb ty*i.size:=by
    simp only[Array.size_append,List.size_toArray,size_zeroCells,hzs,hlb,hlx,<- hels.1,<- Nat.add_mul]
    congr 1;omega
   have hmax:grownCap w (len+news.length) cb ty<=maxLen:=grownCap_le_maxLen w _ cb ty hmaxl
   generalize grownCap w (len+news.length) cb ty=nc at hr hge harr2 hsz2 hmax
   generalize (us.take len).flatten.toArray++vs.flatten.toArray++Builtin.zeroCells z.cells (nc-(len+news.length))=arr2 at hr harr2 hsz2
   rw[hlen2]at hr hge
   exact⟨P0 he hkill ho hels2 hr harr2 hge,fun hd hdb=>q28 he hkill ho hels2 hr harr2 hsz2 hge hmax hd hdb⟩
theorem q8Y {t ty s d id len:Nat} (he:Cd P t ty s) {b x:Operand} {es news:List (List T)} {ax:AV} (h:B0 w0 B κ X μ st tm w) (hg:Gl Γ w X) (ho:o.op=.call { callee:=.builtin .append,args:=#[b,x],argTypes:=#[t,t] }) (kb:A9 b=true) (kx:A9 x=true)
  (hx:ev Γ st.env x=some ax) (hnews:B7 st.hp ax=some news) (hw:Gk s news) (hb:ev Γ st.env b=some (.ls id 0 len none)) (hl:A2 st.hp id=some (.sl ty s es)) (hbig:len+news.length<=2147483648) :
  Ad P w0 B κ X o (.t (.sl (es.take len++news) none none)) (st.kill id) tm w ds/\(A2 (st.kill id).hp d=none->d<1000000->Ad P w0 B κ X o (.ls d 0 (es.take len++news).length none) ⟨(st.kill id).env,(d,.sl ty s (es.take len++news))::(st.kill id).hp⟩ tm w ds) :=
 q34 he h hg ho kb kx hx hnews hw hb hl (by omega) (Hj hbig)
end
end Go.Lg
namespace Go.Lg
open Go
section
variable {P:Program} {Γ:Tables} {w0:World} {B:Nat} {κ:Be} {X:Nat->Prop} {μ:Be} {st:St} {tm:Array Value} {w:World} {ds:List Deferred} {o:Oper}
theorem q1O {zs:List Value} {s:Nat} (hs:zs.length=s) (hp:0<s) (c:Nat):((Array.range (c*s)).map (zs.toArray[· % zs.toArray.size]!)).toList=(List.replicate c zs).flatten:=by
 apply List.ext_getElem?
 intro j
 have hlen:=Az (s:=s) (L:=List.replicate c zs) (fun l hl=>by rw[List.eq_of_mem_replicate hl];exact hs)
 rw[List.length_replicate]at hlen
 by_cases hj:j<c*s
 ·have hi:j / s<c:=by rw[Nat.div_lt_iff_lt_mul hp];exact hj
  have hk:j % s<s:=Nat.mod_lt _ hp
  have hjk:j / s*s+j % s=j:=by rw[Nat.mul_comm];exact Nat.div_add_mod j s
  have hf:=Nc (s:=s) (L:=List.replicate c zs) (fun l hl=>by rw[List.eq_of_mem_replicate hl];exact hs) (j / s) (j % s) hk
  rw[hjk]at hf
  rw[hf]
  simp[hj,hi,List.getElem?_replicate,hs,hk]
 ·rw[List.getElem?_eq_none (by simp;omega),List.getElem?_eq_none (by omega)]
theorem q50 {n:Int} (h0:0<=n) (h1:n<=2147483648):IntKind.i64.wrap n=n:=by
 simp only[IntKind.wrap,IntKind.bits,IntKind.signed]
 have:n % 2 ^ 64=n:=Int.emod_eq_of_lt h0 (by omega)
 simp only[this]
 simp;omega
theorem qA1 {t ty s:TypeId} {zs:List Value} {l c:Operand} {n m:Int} {k1 k2:IntKind} (he:Cd P t ty s) (hzo:Br P ty=some zs) (hc1:Hi zs=true) (h:B0 w0 B κ X μ st tm w) (hg:Gl Γ w X) (ho:o.op=.makeSlice t l c) (kl:A9 l=true) (kc:A9 c=true)
  (hl:ev Γ st.env l=some (.t (.v (.int k1 n)))) (hc:ev Γ st.env c=some (.t (.v (.int k2 m)))) (h0:0<=n) (hnm:n<=m) (hm:m<=2147483648) :
  ∃ arr:Array Value,arr.toList=(List.replicate m.toNat zs).flatten/\arr.size=m.toNat*s/\zs.length=s /\
   (execOp (Act.eval ⟨tm,ds⟩) o).run P w=.ok (.value (.slice (some ⟨w.heap.size,0,none⟩) n.toNat m.toNat)) (World.alloc { w with drawn:=w.drawn } (.cells arr ty)):=by
 have hlv:=(Ah (ds:=ds) h hg hl kl).t_inv.v_inv
 have hcv:=(Ah (ds:=ds) h hg hc kc).t_inv.v_inv
 obtain⟨i,z,hi,his,hiz,hzs,hby⟩:=he.info
 have hzz:zs=z.cells.toList:=by
  simp only[Br,hi,Option.bind_some,hiz,Option.map_some,Option.some.injEq]at hzo;exact hzo.symm
 have hzl:zs.length=s:=by rw[hzz];simpa using hzs
 have hpos:=he.pos
 have hza:zs.toArray=z.cells:=by rw[hzz]
 have hw1:=q50 h0 (by omega:n<=2147483648)
 have hw2:=q50 (by omega:(0:Int)<=m) hm
 have hmn:(m.toNat:Int)=m:=by omega
 have hbm:(i.bytes:Int)*m<=281474976710656:=by
  have h1:i.bytes*m.toNat<=65536*2147483648:=Nat.mul_le_mul hby (by omega)
  have h2:((i.bytes*m.toNat:Nat):Int)<=281474976710656:=by omega
  rw[Int.natCast_mul,hmn]at h2;exact h2
 have harr:((Array.range (m.toNat*s)).map (z.cells[· % z.cells.size]!)).toList=(List.replicate m.toNat zs).flatten:=by
  rw[<- hza];exact q1O hzl hpos m.toNat
 have hrun:(Instr.makeSlice t (.int k1 n) (.int k2 m)).run P w=.ok (.slice (some ⟨w.heap.size,0,none⟩) n.toNat m.toNat) (World.alloc { w with drawn:=w.drawn } (.cells ((Array.range (m.toNat*s)).map (z.cells[· % z.cells.size]!)) ty)):=by
  have e1:¬ (m<0):=by omega
  have e2:¬ (n<0):=by omega
  have e3:¬ (n > m):=by omega
  have e4:¬ ((i.bytes:Int)*m > 2 ^ 48):=by omega
  have hti:(typeInfo ty).run P w=.ok i w:=by simp[typeInfo,hi]
  have hzv:(zeroValue ty).run P w=.ok z w:=by simp[zeroValue,typeInfo,hi,hiz]
  by_cases hz0:m.toNat*s=0
  ·have hr0:Array.range 0=#[]:=by apply Array.toList_inj.1;simp
   have hm0:∀ f:Nat->Value,Array.map f #[]=#[]:=fun f=>by apply Array.toList_inj.1;simp
   simp only[Instr.makeSlice,Sem.run_bind,run_underlying (B9 he.sl),Result.andThen_ok,asInt,asIntOf,Sem.run_pure,hti,hw1,hw2,e1,e2,e3,e4,decide_false,Bool.or_false,Bool.or_self,Bool.false_eq_true,Sem.run_ite,↓reduceIte,run_askRoom,Cm he.sz,hz0,newRow,run_newObj,hr0,hm0]
   rfl
  ·simp only[Instr.makeSlice,Sem.run_bind,run_underlying (B9 he.sl),Result.andThen_ok,asInt,asIntOf,Sem.run_pure,hti,hw1,hw2,e1,e2,e3,e4,decide_false,Bool.or_false,Bool.or_self,Bool.false_eq_true,Sem.run_ite,↓reduceIte,run_askRoom,Cm he.sz,hz0,newRow,run_newObj,hzv]
   rfl
 have hsz:((Array.range (m.toNat*s)).map (z.cells[· % z.cells.size]!)).size=m.toNat*s:=by simp
 generalize (Array.range (m.toNat*s)).map (z.cells[· % z.cells.size]!)=arr at harr hrun hsz
 refine⟨arr,harr,hsz,hzl,?_⟩
 simp only[execOp,ho,hlv,hcv,Sem.run_bind,hrun];rfl
theorem qMF {t ty s d:TypeId} {zs:List Value} {l c:Operand} {n m:Int} {k1 k2:IntKind} (he:Cd P t ty s) (hzo:Br P ty=some zs) (hc1:Hi zs=true) (h:B0 w0 B κ X μ st tm w) (hg:Gl Γ w X) (ho:o.op=.makeSlice t l c) (kl:A9 l=true) (kc:A9 c=true)
  (hl:ev Γ st.env l=some (.t (.v (.int k1 n)))) (hc:ev Γ st.env c=some (.t (.v (.int k2 m)))) (h0:0<=n) (hnm:n<=m) (hm:m<=2147483648) (hd:A2 st.hp d=none) (hdb:d<1000000) :
  Ad P w0 B κ X o (.ls d 0 n.toNat none) ⟨st.env,(d,.sl ty s (List.replicate n.toNat (zs.map Ar)))::st.hp⟩ tm w ds:=by
 obtain⟨arr,harr,hsz,hzl,hrun⟩:=qA1 (ds:=ds) he hzo hc1 h hg ho kl kc hl hc h0 hnm hm
 have hels:Els w X s (List.replicate n.toNat (zs.map Ar)) (List.replicate n.toNat zs):=by
  refine⟨by simp,fun v hv=>by rw[List.eq_of_mem_replicate hv];exact hzl,fun e hme=>by rw[List.eq_of_mem_replicate hme];exact⟨by simp[hzl],Jg hc1⟩,fun i e v he' hv=>?_⟩
  rw[List.eq_of_mem_replicate (List.mem_of_getElem? he'),List.eq_of_mem_replicate (List.mem_of_getElem? hv)]
  exact Oz zs
 have hsplit:(List.replicate m.toNat zs).flatten=(List.replicate n.toNat zs).flatten++(List.replicate (m.toNat-n.toNat) zs).flatten:=by
  rw[<- List.flatten_append,List.replicate_append_replicate]
  congr 2;omega
 refine Ad.region h (arr:=arr) (ty:=ty) (v:=.slice (some ⟨w.heap.size,0,none⟩) n.toNat m.toNat) w.drawn hd hdb ?_ ?_ ?_
 ·exact hrun
 ·exact Zb (hels.mono (Dn h.xlt w.drawn (.cells arr ty)) (Y:=X) (fun _ hb=>hb)) (by simp only[Be.set,↓reduceIte]) (Gw w _ _) (rest:=(List.replicate (m.toNat-n.toNat) zs).flatten) (by rw[harr,hsplit])
 ·exact .ls d 0 n.toNat s n.toNat w.heap.size _ m.toNat none (by rw[Lt];simp[Aj.sh]) (by simp only[Be.set,↓reduceIte];rfl) (by omega) (by omega) (Hj (by omega)) (by simp[hsz]) (fun _=>by simp[hsz]) (fun q hq=>by cases hq) _ (fun _=>by simp)
theorem qKD {t ty s d:TypeId} {zs:List Value} {l c:Operand} {n m:Int} {k1 k2:IntKind} (he:Cd P t ty s) (hzo:Br P ty=some zs) (hc1:Hi zs=true) (h:B0 w0 B κ X μ st tm w) (hg:Gl Γ w X) (ho:o.op=.makeSlice t l c) (kl:A9 l=true) (kc:A9 c=true)
  (hl:ev Γ st.env l=some (.t (.v (.int k1 n)))) (hc:ev Γ st.env c=some (.t (.v (.int k2 m)))) (h0:0<=n) (hnm:n<=m) (hm:m<=2147483648) (hd:A2 st.hp d=none) (hdb:d<1000000) :
  Ad P w0 B κ X o (.ls d 0 n.toNat (some m.toNat)) ⟨st.env,(d,.sl ty s (List.replicate n.toNat (zs.map Ar)))::st.hp⟩ tm w ds:=by
 obtain⟨arr,harr,hsz,hzl,hrun⟩:=qA1 (ds:=ds) he hzo hc1 h hg ho kl kc hl hc h0 hnm hm
 have hels:Els w X s (List.replicate n.toNat (zs.map Ar)) (List.replicate n.toNat zs):=by
  refine⟨by simp,fun v hv=>by rw[List.eq_of_mem_replicate hv];exact hzl,fun e hme=>by rw[List.eq_of_mem_replicate hme];exact⟨by simp[hzl],Jg hc1⟩,fun i e v he' hv=>?_⟩
  rw[List.eq_of_mem_replicate (List.mem_of_getElem? he'),List.eq_of_mem_replicate (List.mem_of_getElem? hv)]
  exact Oz zs
 have hsplit:(List.replicate m.toNat zs).flatten=(List.replicate n.toNat zs).flatten++(List.replicate (m.toNat-n.toNat) zs).flatten:=by
  rw[<- List.flatten_append,List.replicate_append_replicate]
  congr 2;omega
 refine Ad.region h (arr:=arr) (ty:=ty) (v:=.slice (some ⟨w.heap.size,0,none⟩) n.toNat m.toNat) w.drawn hd hdb ?_ ?_ ?_
 ·exact hrun
 ·exact Zb (hels.mono (Dn h.xlt w.drawn (.cells arr ty)) (Y:=X) (fun _ hb=>hb)) (by simp only[Be.set,↓reduceIte]) (Gw w _ _) (rest:=(List.replicate (m.toNat-n.toNat) zs).flatten) (by rw[harr,hsplit])
 ·exact .ls d 0 n.toNat s n.toNat w.heap.size _ m.toNat (some m.toNat) (by rw[Lt];simp[Aj.sh]) (by simp only[Be.set,↓reduceIte];rfl) (by omega) (by omega) (Hj (by omega)) (by simp[hsz]) (fun hq=>by cases hq) (fun q hq=>by cases hq;rfl) _ (fun _=>by simp)
theorem qDH {t t' yt ty:TypeId} {i:TypeInfo} {z:Value} {ki k:IntKind} (ht:P.underlying t=some (.slice ty)) (ht':P.underlying t'=some (.int ki)) (hi:P.info? ty=some i) (hz:i.zero=some z) (ab:Option Addr) (n0 c n:Nat) (olds:List Value) (h0:0<n) (hc:c<n0+n) (hs:0<i.size) (hn:n0+n<=2147483648) (hb:(n0+n)*i.bytes<=140737488355328) (w:World) (hfw:(Builtin.firstCells i.size n0 (.slice ab n0 c)).run P w.drew=.ok olds.toArray w.drew) :
  (Builtin.append_ #[t,t'] yt #[.slice ab n0 c,.int k n]).run P w=.ok (.slice (some ⟨w.heap.size,0,none⟩) (n0+n) (grownCap w (n0+n) c ty)) (w.drew.alloc (.cells (olds.toArray++Builtin.zeroCells z.cells n++Builtin.zeroCells z.cells (grownCap w (n0+n) c ty-(n0+n))) ty)):=by
 have hw:IntKind.i64.wrap (n:Int)=n:=by
  simp[IntKind.wrap,IntKind.signed,IntKind.bits]
  split<;>omega
 have h1:¬ ((n:Int)<0):=by omega
 have hnb:n*i.bytes<=(n0+n)*i.bytes:=Nat.mul_le_mul_right _ (by omega)
 have h2:¬ (281474976710656<(n:Int)*(i.bytes:Int)):=by
  have:((n*i.bytes:Nat):Int)<=140737488355328:=by omega
  rw[Int.natCast_mul]at this
  omega
 have h3:¬ n0+n<=c:=by omega
 have h4:¬ (9223372036854775807<((n0:Int)+(n:Int))):=by omega
 have h5:¬ (281474976710656<Builtin.nextslicecap (n0+n) c*i.bytes):=by have:=growslice_fits hc hb;omega
 have h6:¬ n*i.size=0:=by have:=Nat.mul_pos h0 hs;omega
 have h7:¬ (n=0):=by omega
 have h8:¬ i.size=0:=by omega
 simp[Builtin.append_,run_underlying ht,run_underlying ht',sizeOf,typeInfo,zeroValue,asInt,asIntOf,hi,hz,hw,h1,h2,h3,h4,h5,h6,h7,h8,Question.forced,hfw,newRow,grownCap]
theorem qHZ {t t' ty s d:TypeId} {zs:List Value} {b x:Operand} {es:List (List T)} {c:Nat} {nl:Option Bool} {m:Int} {ki k:IntKind} (he:Cd P t ty s) (hzo:Br P ty=some zs) (hc1:Hi zs=true) (hki:q6P P t'=some ki) (h:B0 w0 B κ X μ st tm w) (hg:Gl Γ w X)
  (ho:o.op=.call { callee:=.builtin .append,args:=#[b,x],argTypes:=#[t,t'] }) (kb:A9 b=true) (kx:A9 x=true)
  (hb:ev Γ st.env b=some (.t (.sl es (some c) nl))) (hx:ev Γ st.env x=some (.t (.v (.int k m)))) (h0:0<m) (hw:Gk s es) (hcm:(c:Int)<es.length+m) (hm:es.length+m<=2147483648) (hd:A2 st.hp d=none) (hdb:d<1000000) :
  Ad P w0 B κ X o (.ls d 0 (es.length+m.toNat) none) ⟨st.env,(d,.sl ty s (es++List.replicate m.toNat (zs.map Ar)))::st.hp⟩ tm w ds:=by
 have hrb:=Ah (ds:=ds) h hg hb kb
 have hrx:=(Ah (ds:=ds) h hg hx kx).t_inv
 obtain⟨ab,c1,hvb,hcq,_⟩:=hrb.t_inv.sl_val
 have hcq:=hcq c rfl
 subst hcq
 obtain⟨n,rfl⟩:=Int.eq_ofNat_of_zero_le (Int.le_of_lt h0)
 have hvx:Act.eval ⟨tm,ds⟩ x=.int k (n:Int):=hrx.v_inv
 obtain⟨i,z,hi,his,hiz,hzs,hby⟩:=he.info
 have hzc:z.cells=zs.toArray:=by
  simp only[Br,hi,Option.bind_some,hiz,Option.map_some,Option.some.injEq]at hzo
  rw[<- hzo]
 have hzl:zs.length=s:=by rw[hzc]at hzs;simpa using hzs
 have hsp:=he.pos
 have hn:es.length+n<=2147483648:=by omega
 have hb2:(es.length+n)*i.bytes<=140737488355328:=by
  have h:=Nat.mul_le_mul hn hby
  have e:2147483648*65536=140737488355328:=by decide
  rw[e]at h
  exact h
 obtain⟨oa,c3,us,hvb3,helsb,honeb,hsrc⟩:=S0 h hrb (by rfl) hw
 have hsame:ab=oa/\c1=c3:=by
  rw[hvb]at hvb3
  injection hvb3 with e1 e2 e3
  exact⟨e1,e3⟩
 obtain⟨rfl,rfl⟩:=hsame
 have hlu:=Az helsb.2.1
 have hfw:(Builtin.firstCells i.size es.length (.slice ab es.length c1)).run P w.drew=.ok us.flatten.toArray w.drew:=by
  by_cases hne:es=[]
  ·have hus:us=[]:=List.eq_nil_of_length_eq_zero (by rw[<- helsb.1,hne];rfl)
   subst hus
   subst hne
   cases ab<;>simp[Builtin.firstCells,loadCells,loadCellsFrom]
  ·obtain⟨bb,boff,rfl,hcell⟩:=hsrc hne
   exact run_firstCells_some (P:=P) w.drew i.size es.length ⟨bb,boff,none⟩ es.length c1 us.flatten (by rw[hlu,<- helsb.1,his]) (fun j v hv=>by rw[Addr.add_lit];simpa using hcell j v hv)
 have hrun:=qDH (P:=P) (yt:=o.type) (k:=k) (B9 he.sl) (W0 hki) hi hiz ab es.length c1 n us.flatten (by omega) (by omega) (show 0<i.size by rw[his];exact hsp) hn hb2 w hfw
 have hge:=grownCap_ge w (es.length+n) c1 ty
 have hle:=grownCap_le_maxLen w (es.length+n) c1 ty (Hj hn)
 have hels:Els w X s (es++List.replicate n (zs.map Ar)) (us++List.replicate n zs):=by
  refine helsb.append ⟨by simp,fun v hv=>by rw[List.eq_of_mem_replicate hv];exact hzl,fun e hme=>by rw[List.eq_of_mem_replicate hme];exact⟨by simp[hzl],Jg hc1⟩,fun i e v he' hv=>?_⟩
  rw[List.eq_of_mem_replicate (List.mem_of_getElem? he'),List.eq_of_mem_replicate (List.mem_of_getElem? hv)]
  exact Oz zs
 have hz1:∀ q,(Builtin.zeroCells z.cells q).toList=(List.replicate q zs).flatten:=fun q=>by
  have:=q1O (zs:=zs) hzl hsp q
  unfold Builtin.zeroCells
  rw[hzc]
  simp only[List.size_toArray,hzl]at this ⊢
  exact this
 have hsz:(us.flatten.toArray++Builtin.zeroCells z.cells n++Builtin.zeroCells z.cells (grownCap w (es.length+n) c1 ty-(es.length+n))).size=grownCap w (es.length+n) c1 ty*s:=by
  simp only[Array.size_append,List.size_toArray,size_zeroCells,hzs,hlu,<- helsb.1,<- Nat.add_mul]
  congr 1;omega
 rw[<- hvx,<- hvb]at hrun
 refine Ad.region h (w.drawn+1) hd hdb (v:=.slice (some ⟨w.heap.size,0,none⟩) (es.length+n) (grownCap w (es.length+n) c1 ty)) (ty:=ty) (arr:=us.flatten.toArray++Builtin.zeroCells z.cells n++Builtin.zeroCells z.cells (grownCap w (es.length+n) c1 ty-(es.length+n))) ?_ ?_ ?_
 ·simp[execOp,ho,resolve,invoke,builtin,hrun]
 ·exact Zb (hels.mono (Dn h.xlt (w.drawn+1) _) (Y:=X) (fun _ hb=>hb)) (by simp only[Be.set,↓reduceIte]) (Gw w _ _) (rest:=(List.replicate (grownCap w (es.length+n) c1 ty-(es.length+n)) zs).flatten) (by simp only[Array.toList_append,hz1,List.flatten_append])
 ·exact .ls d 0 (es.length+n) s (es.length+n) w.heap.size _ (grownCap w (es.length+n) c1 ty) none (by rw[Lt];simp[Aj.sh]) (by simp only[Be.set,↓reduceIte];rfl) (by omega) (by omega) hle (by rw[hsz,Nat.zero_add];exact Nat.le_refl _) (fun _=>by rw[hsz,Nat.zero_add]) (fun q hq=>by cases hq) _ (fun _=>by simp)
theorem qFQ {t d:TypeId} (h:B0 w0 B κ X μ st tm w) (ho:o.op=.makeMap t none) (hd:A2 st.hp d=none) (hdb:d<1000000):Ad P w0 B κ X o (.lm d) ⟨st.env,(d,.mp [])::st.hp⟩ tm w ds:=by
 have hb:RowKit.Below w.heap.size w (w.alloc (.map #[] 0)):=(RowKit.Below.refl _ _).alloc (Nat.le_refl _) _
 have h2:=h.grow (X':=X) hb (fun _ hx=>hx) (fun b hx=>.inl hx)
 refine⟨_,.map (some w.heap.size),w.alloc (.map #[] 0),μ.set d (some (w.heap.size,0)),X,by simp[execOp,ho,Instr.makeMap],.inl rfl,h2.addReg hd hdb (.mp []) (some (w.heap.size,0)) ?_ ?_,?_,fun _ hx=>hx,fun b hx=>hb.block b (h.xlt b hx),fun _ hx=>.inl hx⟩
 ·intro g m e
  cases e
  refine⟨fun hx=>?_,by simp,fun hlt=>absurd h.size (by omega),fun id n' hi hm=>?_⟩
  ·have:=h.xlt _ hx;omega
  ·have:=(h.loc id _ _ hi hm).2.1;omega
 ·exact⟨w.heap.size,0,0,[],by simp[Be.set],heap_alloc_new w _,rfl,fun i e m h1 _=>by simp at h1⟩
 ·exact .lm d w.heap.size 0 (by rw[Lt];rfl) (by simp[Be.set])
end
end Go.Lg
