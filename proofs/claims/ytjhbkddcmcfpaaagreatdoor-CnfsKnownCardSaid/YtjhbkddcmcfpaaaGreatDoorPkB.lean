/- THE LOGIC, part 18: lookups, updates of maps, cuts, strings of bytes are sound. Conditions: none. -/
import Derived.Test.YtjhbkddcmcfpaaaGreatDoorPkA
import Derived.ArgAppend
import Derived.DeepKeys
import Derived.Lib.AppendStr
set_option linter.unusedSimpArgs false
set_option linter.unusedVariables false
namespace Go.Lg
open Go
section
variable {P:Program} {Γ:Tables} {w0:World} {B:Nat} {κ:Be} {X:Nat->Prop} {μ:Be} {st:St} {tm:Array Value} {w:World} {ds:List Deferred} {o:Oper}
theorem q35 (a b:ByteArray):(a==b)=true↔a=b:=by
 cases a with
 | mk a =>
  cases b with
  | mk b =>
   show(a==b)=true↔_
   simp
theorem Ze {kt:KT} {q:TypeId} (h:ktB P kt q=true):∃ d,P.underlying q=some d/\∀ a b:Value,kt.fits a=true->kt.fits b=true->Instr.sameNow d a b=some (Ky a b):=by
 unfold ktB at h
 split at h
 ·rename_i k j hu
  simp only[decide_eq_true_eq]at h;subst h
  refine⟨_,hu,fun a b ha hb=>?_⟩
  cases a<;>simp[KT.fits]at ha
  cases b<;>simp[KT.fits]at hb
  subst ha;subst hb
  simp[Instr.sameNow,Ky]
 ·rename_i hu
  refine⟨_,hu,fun a b ha hb=>?_⟩
  cases a<;>simp[KT.fits]at ha
  cases b<;>simp[KT.fits]at hb
  rfl
 ·rename_i hu
  refine⟨_,hu,fun a b ha hb=>?_⟩
  cases a<;>simp[KT.fits]at ha
  cases b<;>simp[KT.fits]at hb
  rfl
 ·cases h
theorem Ni {kt:KT} {q:TypeId} (h:ktB P kt q=true) {v:Value} (hv:kt.fits v=true) (b:Bool) (n:Nat) (w:World):(Instr.checkKey b (n+1) q v).run P w=.ok () w:=by
 unfold ktB at h
 split at h
 ·rename_i k j hu
  cases v<;>simp[KT.fits]at hv
  simp[Instr.checkKey,run_underlying hu]
 ·rename_i hu
  cases v<;>simp[KT.fits]at hv
  simp[Instr.checkKey,run_underlying hu]
 ·rename_i hu
  cases v<;>simp[KT.fits]at hv
  simp[Instr.checkKey,run_underlying hu]
 ·cases h
def Ens (w:World) (X:Nat->Prop) (es:List (Value×T)) (ms:List MapEntry):Prop:=es.length=ms.length/\∀ (i:Nat) (e:Value×T) (m:MapEntry),es[i]? = some e->ms[i]? = some m->m.key=e.1/\TR w X e.2 m.val
theorem Ens.cons_inv {e:Value×T} {es:List (Value×T)} {ms:List MapEntry} (h:Ens w X (e::es) ms):∃ m ns,ms=m::ns/\m.key=e.1/\TR w X e.2 m.val/\Ens w X es ns:=by
 cases ms with
 | nil=>exact absurd h.1 (by simp)
 | cons m ns=>exact⟨m,ns,rfl,(h.2 0 e m rfl rfl).1,(h.2 0 e m rfl rfl).2,by have:=h.1;simpa using this,fun i e' m' h1 h2=>h.2 (i+1) e' m' (by simpa using h1) (by simpa using h2)⟩
theorem Ens.cons {e:Value×T} {m:MapEntry} {es:List (Value×T)} {ms:List MapEntry} (hk:m.key=e.1) (hv:TR w X e.2 m.val) (h:Ens w X es ms):Ens w X (e::es) (m::ms) :=
 ⟨by simp[h.1],fun i e' m' h1 h2=>by
  cases i with
  | zero=>simp at h1 h2;subst h1;subst h2;exact⟨hk,hv⟩
  | succ i=>simp at h1 h2;exact h.2 i e' m' h1 h2⟩
theorem Ens.nil_inv {ms:List MapEntry} (h:Ens w X [] ms):ms=[]:=List.eq_nil_of_length_eq_zero h.1.symm
theorem q36 {kt:KT} {d:TypeDesc} (hs:∀ a b:Value,kt.fits a=true->kt.fits b=true->Instr.sameNow d a b=some (Ky a b)) {k:Value} (hk:kt.fits k=true):∀ {es:List (Value×T)} {ms:List MapEntry} (i:Nat),Ens w X es ms->K1 kt es->Ew k es=none->Instr.findNow d k ms i=some none
 | [],ms,i,h,hf,hn=>by rw[h.nil_inv];rfl
 | e::es,ms,i,h,hf,hn=>by
  obtain⟨m,ns,rfl,hmk,hv,h'⟩:=h.cons_inv
  have hs':=hs k e.1 hk (hf e (by simp))
  obtain⟨q,x⟩:=e
  simp only[Ew]at hn
  split at hn
  ·cases hn
  ·rename_i hne
   simp only[Instr.findNow,hmk,hs',Bool.not_eq_true]at hne ⊢
   rw[hne]
   exact q36 hs hk (i+1) h' (fun e he=>hf e (by simp[he])) hn
theorem q37 {kt:KT} {d:TypeDesc} (hs:∀ a b:Value,kt.fits a=true->kt.fits b=true->Instr.sameNow d a b=some (Ky a b)) {k:Value} (hk:kt.fits k=true):∀ {es:List (Value×T)} {ms:List MapEntry} (i:Nat) {x:T},Ens w X es ms->K1 kt es->Ew k es=some x ->
  ∃ (j:Nat) (m:MapEntry),Instr.findNow d k ms i=some (some (i+j,m.val))/\ms[j]? = some m/\TR w X x m.val/\Ky k m.key=true/\kt.fits m.key=true/\∀ (y:T) (v:Value),TR w X y v->Ens w X (q32 k y es) (ms.modify j fun e=>{ e with key:=k,val:=v })
 | [],ms,i,x,h,hf,hn=>by cases hn
 | e::es,ms,i,x,h,hf,hn=>by
  obtain⟨m,ns,rfl,hmk,hv,h'⟩:=h.cons_inv
  have hfe:=hf e (by simp)
  have hs':=hs k e.1 hk hfe
  obtain⟨q,z⟩:=e
  simp only[Ew]at hn
  split at hn
  ·rename_i heq
   simp only[Option.some.injEq]at hn;subst hn
   refine⟨0,m,by simp[Instr.findNow,hmk,hs',heq],rfl,hv,by rw[hmk];exact heq,by rw[hmk];exact hfe,fun y v hy=>?_⟩
   simp only[q32,heq,↓reduceIte,List.modify_zero_cons]
   exact Ens.cons rfl hy h'
  ·rename_i hne
   obtain⟨j,m2,h1,h2,h3,h4,h5,h6⟩:=q37 hs hk (i+1) h' (fun e he=>hf e (by simp[he])) hn
   refine⟨j+1,m2,?_,by simpa using h2,h3,h4,h5,fun y v hy=>?_⟩
   ·simp only[Bool.not_eq_true]at hne
    simp only[Instr.findNow,hmk,hs',hne,h1]
    rw[show i+1+j=i+(j+1)by omega]
   ·simp only[q32,hne,↓reduceIte,List.modify_succ_cons]
    exact Ens.cons hmk hv (h6 y v hy)
theorem q8Z {kt:KT} {k:Value}:∀ {es:List (Value×T)} {ms:List MapEntry} {y:T} {v:Value} {c:Nat},Ens w X es ms->Ew k es=none->TR w X y v->Ens w X (q32 k y es) (ms++[{ key:=k,val:=v,born:=c }])
 | [],ms,y,v,c,h,hn,hy=>by rw[h.nil_inv];exact Ens.cons rfl hy ⟨rfl,fun i e m h1 _=>by simp at h1⟩
 | e::es,ms,y,v,c,h,hn,hy=>by
  obtain⟨m,ns,rfl,hmk,hv,h'⟩:=h.cons_inv
  obtain⟨q,z⟩:=e
  simp only[Ew]at hn
  split at hn
  ·cases hn
  ·rename_i hne
   simp only[q32,hne,↓reduceIte,List.cons_append]
   exact Ens.cons hmk hv (q8Z (kt:=kt) h' hn hy)
theorem qA2 {kt:KT} {t q e:TypeId} {zv kv:Value} {ok:Bool} (hm:q0l P t=some (q,e)) (hk:ktB P kt q=true) (hz:(P.info? e).bind (·.zero)=some zv) (hf:kt.fits kv=true) {es:List (Value×T)} (hfs:K1 kt es) {mv:Value} {ms:List MapEntry}
  (hmv:(mv=.map none/\ms=[])\/∃ r clock,mv=.map (some r)/\w.heap[r]? = some (.map ms.toArray clock)) (hens:Ens w X es ms) :
  ∃ v,(Instr.lookup t mv kv ok).run P w=.ok (if ok then .tuple #[v,.bool (Ew kv es).isSome]else v) w/\((∃ x,Ew kv es=some x/\TR w X x v)\/(Ew kv es=none/\v=zv)):=by
 obtain⟨d,hu,hs⟩:=Ze hk
 have hzero:(zeroValue e).run P w=.ok zv w:=by
  rw[Option.bind_eq_some_iff]at hz
  obtain⟨i,hi,hz⟩:=hz
  simp[zeroValue,typeInfo,hi,hz]
 have hck:(Instr.checkKey ms.toArray.isEmpty 10000 q kv).run P w=.ok () w:=Ni hk hf _ 9999 w
 cases hfm:Ew kv es with
 | none =>
  have:=q36 hs hf 0 hens hfs hfm
  refine⟨zv,?_,.inr ⟨rfl,rfl⟩⟩
  have hfk:(Instr.findKey q kv ms).run P w=.ok none w:=by
   simp[Instr.findKey,run_underlying hu,this]
  rcases hmv with⟨rfl,rfl⟩|⟨r,clock,rfl,hh⟩
  ·simp at hck hfk
   cases ok<;>simp[Instr.lookup,run_underlying (Ep hm),hck,hfk,hzero]
  ·simp at hck
   cases ok<;>simp[Instr.lookup,run_underlying (Ep hm),getObj,Sem.run,hh,hck,hfk,hzero]
 | some x =>
  obtain⟨j,m,h1,h2,h3,_⟩:=q37 hs hf 0 hens hfs hfm
  refine⟨m.val,?_,.inl ⟨x,rfl,h3⟩⟩
  have hfk:(Instr.findKey q kv ms).run P w=.ok (some (0+j,m.val)) w:=by
   simp[Instr.findKey,run_underlying hu,h1]
  rcases hmv with⟨rfl,rfl⟩|⟨r,clock,rfl,hh⟩
  ·simp at h2
  ·simp at hck
   cases ok<;>simp[Instr.lookup,run_underlying (Ep hm),getObj,Sem.run,hh,hck,hfk]
theorem qDI {kt:KT} {t q e:TypeId} {zv kv:Value} {ok:Bool} {m k:Operand} {a:AV} {es:List (Value×T)} (h:B0 w0 B κ X μ st tm w) (hg:Gl Γ w X) (ho:o.op=.lookup t m k ok) (km:A9 m=true) (kk:A9 k=true)
  (hm:q0l P t=some (q,e)) (hk:ktB P kt q=true) (hz:(P.info? e).bind (·.zero)=some zv) (hzv:Re zv=true) (hkv:ev Γ st.env k=some (.t (.v kv))) (hma:ev Γ st.env m=some a) (ha:a=.t (.mp es)\/∃ id,a=.lm id/\A2 st.hp id=some (.mp es)) (hf:kt.fits kv=true) (hfs:K1 kt es) :
  Ad P w0 B κ X o (if ok then .t (.tup [(Ew kv es).getD (Hh zv),.v (.bool (Ew kv es).isSome)])else .t ((Ew kv es).getD (Hh zv))) st tm w ds:=by
 have hkv':=(Ah (ds:=ds) h hg hkv kk).t_inv.v_inv
 have hrm:=Ah (ds:=ds) h hg hma km
 have hmem:∃ ms:List MapEntry,((Act.eval ⟨tm,ds⟩ m=.map none/\ms=[])\/∃ r clock,Act.eval ⟨tm,ds⟩ m=.map (some r)/\w.heap[r]? = some (.map ms.toArray clock))/\Ens w X es ms:=by
  rcases ha with rfl|⟨id,rfl,hl⟩
  ·rcases hrm.t_inv.mp_inv with⟨rfl,he⟩|⟨r,clock,ms,he,hh,_,hlen,hr⟩
   ·exact⟨[],.inl ⟨he,rfl⟩,rfl,fun i e m h1 _=>by simp at h1⟩
   ·exact⟨ms,.inr ⟨r,clock,he,hh⟩,hlen,hr⟩
  ·obtain⟨g,n,hs,hmu,he⟩:=hrm.lm_inv
   obtain⟨g',n',clock,ms,hm',hh,hlen,hr⟩:=h.reg _ _ hl
   rw[hmu]at hm';cases hm'
   exact⟨ms,.inr ⟨g,clock,he,hh⟩,hlen,hr⟩
 obtain⟨ms,hmv,hens⟩:=hmem
 obtain⟨v,hrun,hv⟩:=qA2 (P:=P) (ok:=ok) hm hk hz hf hfs hmv hens
 have htv:TR w X ((Ew kv es).getD (Hh zv)) v:=by
  rcases hv with⟨x,hx,hr⟩|⟨hx,rfl⟩
  ·rw[hx];exact hr
  ·rw[hx];exact q4s _ hzv
 have hex:(execOp (Act.eval ⟨tm,ds⟩) o).run P w=.ok (.value (if ok then .tuple #[v,.bool (Ew kv es).isSome]else v)) w:=by
  simp only[execOp,ho,hkv',Sem.run_bind,hrun];rfl
 cases ok with
 | true=>exact Ad.same h hex (.t _ _ (TR.mk_tup (Ds.cons htv (Ds.cons (.v _) (Ds.nil _ _)))))
 | false=>exact Ad.same h hex (.t _ _ htv)
theorem q51 {μ:Be} {sh:Nat->Option Sh} {a:AV} {x:Value} {t:T} (h:AR w X μ sh a x) (ht:toT a=some t):TR w X t x:=by
 cases a with
 | t y=>simp only[toT,Option.some.injEq]at ht;subst ht;exact h.t_inv
 | ag cs =>
  simp only[toT,Option.map_eq_some_iff]at ht
  obtain⟨ts,hts,rfl⟩:=ht
  obtain⟨xs,rfl,h1,hr⟩:=h.ag_inv
  refine TR.mk_agg ?_ (hr.toT hts)
  rw[Vy (as:=cs) hts,Md]at h1;exact h1
 | fn f cs =>
  simp only[toT]at ht
  split at ht
  case isFalse=>cases ht
  rename_i hlt
  simp only[Option.map_eq_some_iff]at ht
  obtain⟨ts,hts,rfl⟩:=ht
  cases h with
  | fn f cs xs hlen hrel =>
   have:=Gf.toT ⟨hlen,hrel⟩ (ts:=ts) hts
   rw[q31 hlt]
   exact .fn f ts xs this.1 this.2
 | _=>simp[toT]at ht
theorem qKE {kt:KT} {t q e:TypeId} {kv:Value} {m k x:Operand} {id:Nat} {es:List (Value×T)} {a:AV} {y:T} (h:B0 w0 B κ X μ st tm w) (hg:Gl Γ w X) (ho:o.op=.mapUpdate t m k x) (km:A9 m=true) (kk:A9 k=true) (kx:A9 x=true)
  (hm:q0l P t=some (q,e)) (hk:ktB P kt q=true) (hkv:ev Γ st.env k=some (.t (.v kv))) (hma:ev Γ st.env m=some (.lm id)) (hl:A2 st.hp id=some (.mp es)) (hx:ev Γ st.env x=some a) (hy:toT a=some y) (hf:kt.fits kv=true) (hfs:K1 kt es) :
  Ad P w0 B κ X o .un ⟨st.env,Bm id (.mp (q32 kv y es)) st.hp⟩ tm w ds:=by
 have hkv':=(Ah (ds:=ds) h hg hkv kk).t_inv.v_inv
 have hty:=q51 (Ah (ds:=ds) h hg hx kx) hy
 obtain⟨g,n,hs,hmu,he⟩:=(Ah (ds:=ds) h hg hma km).lm_inv
 obtain⟨g',n',clock,ms,hm',hh,hlen,hr⟩:=h.reg _ _ hl
 rw[hmu]at hm';cases hm'
 have hens:Ens w X es ms:=⟨hlen,hr⟩
 obtain⟨d,hu,hsn⟩:=Ze hk
 have hck:(Instr.checkKey false 10000 q kv).run P w=.ok () w:=Ni hk hf _ 9999 w
 have key:∃ (ms':List MapEntry) (c':Nat),(Instr.mapUpdate t (.map (some g)) kv (Act.eval ⟨tm,ds⟩ x)).run P w=.ok () { w with heap:=w.heap.setIfInBounds g (.map ms'.toArray c') }/\Ens w X (q32 kv y es) ms':=by
  cases hfm:Ew kv es with
  | none =>
   have h1:=q36 hsn hf 0 hens hfs hfm
   refine⟨ms++[{ key:=kv,val:=Act.eval ⟨tm,ds⟩ x,born:=clock }],clock+1,?_,q8Z (kt:=kt) hens hfm hty⟩
   have hfk:(Instr.findKey q kv ms).run P w=.ok none w:=by simp[Instr.findKey,run_underlying hu,h1]
   simp[Instr.mapUpdate,run_underlying (Ep hm),getObj,setObj,Sem.run,hh,hck,hfk]
  | some z =>
   obtain⟨j,m2,h1,h2,h3,h4,h5,h6⟩:=q37 hsn hf 0 hens hfs hfm
   refine⟨ms.modify j fun e=>{ e with key:=kv,val:=Act.eval ⟨tm,ds⟩ x },clock,?_,h6 y _ hty⟩
   have hfk:(Instr.findKey q kv ms).run P w=.ok (some (0+j,m2.val)) w:=by simp[Instr.findKey,run_underlying hu,h1]
   have hsb:∀ n,Instr.sameBits n m2.key kv=true:=by
    intro n
    cases kt with
    | int k0 =>
     cases kv<;>simp[KT.fits]at hf
     generalize hmk:m2.key=K at h4 h5
     cases K<;>simp[KT.fits]at h5
     subst hf;subst h5
     simp only[Ky,beq_iff_eq]at h4
     cases n<;>simp[Instr.sameBits,h4]
    | str =>
     cases kv<;>simp[KT.fits]at hf
     generalize hmk:m2.key=K at h4 h5
     cases K<;>simp[KT.fits]at h5
     simp only[Ky,q35]at h4
     subst h4
     cases n<;>simp[Instr.sameBits,q35]
    | bl =>
     cases kv<;>simp[KT.fits]at hf
     generalize hmk:m2.key=K at h4 h5
     cases K<;>simp[KT.fits]at h5
     simp only[Ky,beq_iff_eq]at h4
     cases n<;>simp[Instr.sameBits,h4]
   have hstay:(Instr.keyThatStays m2.key kv).run P w=.ok kv w:=by simp only[Instr.keyThatStays,hsb,↓reduceIte,Sem.run_pure]
   have hms:(ms.toArray[0+j]?).map (·.key)=some m2.key:=by simp[h2]
   simp[Instr.mapUpdate,run_underlying (Ep hm),getObj,setObj,Sem.run,hh,hck,hfk,h2,hstay]
 obtain⟨ms',c',hrun,hens'⟩:=key
 have hglt:g<w.heap.size:=(Array.getElem?_eq_some_iff.1 hh).1
 obtain⟨hsim,hs'⟩:=h.setReg hl (r':=.mp (q32 kv y es)) rfl hmu (w':={ w with heap:=w.heap.setIfInBounds g (.map ms'.toArray c') }) rfl rfl rfl (by simp) (fun j hj=>by simp[Array.getElem?_setIfInBounds,Ne.symm hj])
  (fun hs'=>⟨g,n,c',ms',hmu,by simp[hglt],hens'.1,fun i e m h1 h2=>⟨(hens'.2 i e m h1 h2).1,(hens'.2 i e m h1 h2).2.mono hs' (fun _ hx=>hx)⟩⟩)
 exact⟨.skip,undef,_,μ,X,by simp only[execOp,ho,hkv',he,Sem.run_bind,hrun];rfl,.inr ⟨rfl,rfl⟩,hsim,.un,fun _ hx=>hx,hs',fun _ hx=>.inl hx⟩
end
end Go.Lg
namespace Go.Lg
open Go
section
variable {P:Program} {Γ:Tables} {w0:World} {B:Nat} {κ:Be} {X:Nat->Prop} {μ:Be} {st:St} {tm:Array Value} {w:World} {ds:List Deferred} {o:Oper}
def Og (ρ:Operand->Value) (o:Option Operand) (dflt n:Nat):Prop:=(o=none/\n=dflt)\/∃ x k i,o=some x/\ρ x=.int k i/\0<=i/\n=i.toNat
theorem Lr {x:Option Operand} {dflt:Nat} {r:Prop×Nat} (h:B0 w0 B κ X μ st tm w) (hg:Gl Γ w X) (hx:Eo Γ st.env x dflt=some r) (hc:r.1) (hk:x.toList.all A9=true):Og (Act.eval ⟨tm,ds⟩) x dflt r.2:=by
 unfold Eo at hx
 split at hx
 ·simp only[Option.some.injEq]at hx;subst hx;exact .inl ⟨rfl,rfl⟩
 ·rename_i o
  split at hx
  ·rename_i k n he
   simp only[Option.some.injEq]at hx;subst hx
   exact .inr ⟨o,k,n,rfl,(Ah (ds:=ds) h hg he (by simpa using hk)).t_inv.v_inv,hc,rfl⟩
  ·cases hx
theorem K6 {ρ:Operand->Value} {x:Operand} {k:IntKind} {i:Int} {y:Nat} (h:ρ x=.int k i) (h0:0<=i) (h1:i.toNat<=y) (code:BoundsCode) (w:World):(Instr.sliceBound (ρ x) y code).run P w=.ok i.toNat w:=by
 rw[h];exact run_sliceBound (P:=P) w k i y code h0 (by omega)
theorem q1P {ρ:Operand->Value} {lo hi:Option Operand} {len cap l h:Nat} (isS:Bool) (hlo:Og ρ lo 0 l) (hhi:Og ρ hi len h) (h1:l<=h) (h2:h<=cap) (w:World):(Instr.sliceBounds isS len cap (lo.map ρ) (hi.map ρ) none).run P w=.ok (l,h,cap) w:=by
 rcases hhi with⟨rfl,rfl⟩|⟨x,k,i,rfl,hx,h0,rfl⟩<;>rcases hlo with⟨rfl,rfl⟩|⟨y,k',j,rfl,hy,h0',rfl⟩
 ·simp[Instr.sliceBounds]
 ·simp[Instr.sliceBounds,K6 (P:=P) hy h0' h1]
 ·simp[Instr.sliceBounds,K6 (P:=P) hx h0 h2]
 ·simp[Instr.sliceBounds,K6 (P:=P) hx h0 h2,K6 (P:=P) hy h0' h1]
theorem q40 {ρ:Operand->Value} {lo:Option Operand} {hi mx:Operand} {len cap l h m:Nat} (hlo:Og ρ lo 0 l) (hhi:Og ρ (some hi) len h) (hmx:Og ρ (some mx) 0 m) (h1:l<=h) (h2:h<=m) (h3:m<=cap) (w:World) :
  (Instr.sliceBounds true len cap (lo.map ρ) (some (ρ hi)) (some (ρ mx))).run P w=.ok (l,h,m) w:=by
 rcases hmx with⟨e,_⟩|⟨x2,k2,i2,e2,hx2,h02,rfl⟩
 ·cases e
 rcases hhi with⟨e,_⟩|⟨x,k,i,e,hx,h0,rfl⟩
 ·cases e
 cases e;cases e2
 rcases hlo with⟨rfl,rfl⟩|⟨y,k',j,rfl,hy,h0',rfl⟩
 ·simp[Instr.sliceBounds,K6 (P:=P) hx h0 h2,K6 (P:=P) hx2 h02 h3]
 ·simp[Instr.sliceBounds,K6 (P:=P) hx h0 h2,K6 (P:=P) hx2 h02 h3,K6 (P:=P) hy h0' h1]
theorem q8a {t:TypeId} {x:Operand} {lo hi:Option Operand} {b:ByteArray} {l h':Nat} (h:B0 w0 B κ X μ st tm w) (hg:Gl Γ w X) (ho:o.op=.slice t x lo hi none) (kx:A9 x=true) (hu:q0m P t=true)
  (hx:ev Γ st.env x=some (.t (.v (.string b)))) (hlo:Og (Act.eval ⟨tm,ds⟩) lo 0 l) (hhi:Og (Act.eval ⟨tm,ds⟩) hi b.size h') (h1:l<=h') (h2:h'<=b.size):Ad P w0 B κ X o (.t (.v (.string (b.extract l h')))) st tm w ds:=by
 have he:=(Ah (ds:=ds) h hg hx kx).t_inv.v_inv
 refine Ad.same h (v:=.string (b.extract l h')) ?_ (.t _ _ (.v _))
 have hb:=q1P (P:=P) false hlo hhi h1 h2 w
 simp[execOp,ho,he,Instr.sliceAt,Instr.slice,run_underlying (Ik hu),hb]
def Z1 (a:Option Addr) (c l h m s:Nat):Value:=.slice (if m=l then a else a.map (·.add (l*s))) (h-l) (m-l)
theorem q0X {t e:TypeId} {s:Nat} (hu:Ub P t=some e) (hz:Ic P e=some s) {a:Option Addr} {len c l h m:Nat} {lo hi mx:Option Value} (hb:∀ w,(Instr.sliceBounds true len c lo hi mx).run P w=.ok (l,h,m) w) (w:World) :
  (Instr.sliceAt t (.slice a len c) lo hi mx).run P w=.ok (Z1 a c l h m s) w:=by
 simp[Instr.sliceAt,Instr.slice,run_underlying (B9 hu),hb,Cm hz,Z1]
theorem qDJ {es:List (List T)} {cap:Option Nat} {nl:Option Bool} {x:Value} {s l h:Nat} (hx:TR w X (.sl es cap nl) x) (hw:Gk s es) (h1:l<=h) (h2:h<=es.length) :
  ∃ a c,x=.slice a es.length c/\es.length<=c/\(∀ n,cap=some n->c=n)/\∀ m,h<=m->m<=c->∀ cap':Option Nat,(∀ n,cap'=some n->m-l=n)->TR w X (.sl ((es.drop l).take (h-l)) cap' nl) (Z1 a c l h m s):=by
 have hlen:((es.drop l).take (h-l)).length=h-l:=by simp;omega
 rcases hx.sl_inv with⟨rfl,a,c,rfl,hc,hn,hz⟩|⟨s',b,off,c,rfl,hxb,hle,hc,hn,hw',hone,f,hcell,hrel⟩
 ·refine⟨a,c,rfl,Nat.zero_le _,hc,fun m hhm hmc cap' hcap=>?_⟩
  simp at h2;subst h2
  have:l=0:=by omega
  subst this
  have e:(if m=0 then a else a.map (·.add (0*s)))=a:=by
   split
   ·rfl
   ·cases a<;>simp[Addr.add]
  simp only[Z1,e,List.drop_nil,List.take_nil]
  exact .nil _ _ _ _ hcap hn (fun e=>by have:=hz e;omega)
 ·refine⟨_,c,rfl,hle,hc,fun m hhm hmc cap' hcap=>?_⟩
  by_cases hlh:l=h
  ·subst hlh
   have e:(es.drop l).take (l-l)=[]:=by simp
   simp only[Z1,e,Nat.sub_self]
   refine .nil _ _ _ _ hcap (fun q hq=>?_) (fun e=>?_)
   ·rw[hn q hq];split<;>rfl
   ·split at e<;>simp at e
  ·have hss:s'=s:=by
    have hmem:=(Z9 (es:=es) (i:=0) (by omega)).1
    exact(hw' _ hmem).symm.trans (hw _ hmem)
   subst hss
   have hml:¬ m=l:=by omega
   have hge:∀ i,i<h-l->((es.drop l).take (h-l))[i]? = es[l+i]? := fun i hi=>by rw[List.getElem?_take,if_pos hi,List.getElem?_drop]
   have hmem:∀ e∈(es.drop l).take (h-l),e∈es:=fun e he=>List.mem_of_mem_drop (List.mem_of_mem_take he)
   have:=TR.mk_sl (w:=w) (X:=X) (es:=(es.drop l).take (h-l)) (cap:=cap') (nl:=nl) (s:=s') (b:=b) (off:=off+l*s') (c:=m-l) (f:=fun i k=>f (l+i) k) hxb (by omega) hcap hn (fun e he=>hw' e (hmem e he)) (fun e he=>hone e (hmem e he))
    (fun i k hi hk=>by rw[hlen]at hi;have:=hcell (l+i) k (by omega) hk;rw[Nat.add_mul]at this;rwa [show off+l*s'+i*s'+k=off+(l*s'+i*s')+k by omega])
    (fun i k e t he ht=>by
     have hi:=(List.getElem?_eq_some_iff.1 he).1
     rw[hlen]at hi
     rw[hge i hi]at he
     exact hrel (l+i) k e t he ht)
   rw[hlen]at this
   simp only[Z1,hml,↓reduceIte,Option.map_some,Addr.add_lit]
   exact this
theorem qA3 {t e:TypeId} {s:Nat} {x:Operand} {lo hi:Option Operand} {es:List (List T)} {cap:Option Nat} {nl:Option Bool} {l h':Nat} (h:B0 w0 B κ X μ st tm w) (hg:Gl Γ w X) (ho:o.op=.slice t x lo hi none) (kx:A9 x=true) (hu:Ub P t=some e) (hz:Ic P e=some s)
  (hx:ev Γ st.env x=some (.t (.sl es cap nl))) (hw:Gk s es) (hlo:Og (Act.eval ⟨tm,ds⟩) lo 0 l) (hhi:Og (Act.eval ⟨tm,ds⟩) hi es.length h') (h1:l<=h') (h2:h'<=es.length):Ad P w0 B κ X o (.t (.sl ((es.drop l).take (h' - l)) (cap.map (· - l)) nl)) st tm w ds:=by
 obtain⟨a,c,he,hle,hc,hcut⟩:=qDJ (Ah (ds:=ds) h hg hx kx).t_inv hw h1 h2
 refine Ad.same h (v:=Z1 a c l h' c s) ?_ (.t _ _ (hcut c (by omega) (Nat.le_refl _) _ (fun n hn=>?_)))
 ·have hrun:=q0X (P:=P) hu hz (a:=a) (len:=es.length) (c:=c) (fun w=>q1P (P:=P) (cap:=c) true hlo hhi h1 (by omega) w) w
  simp only[execOp,ho,he,Sem.run_bind,Option.map_none,hrun];rfl
 ·simp only[Option.map_eq_some_iff]at hn
  obtain⟨q,hq,rfl⟩:=hn
  rw[hc q hq]
theorem q8b {t e:TypeId} {s:Nat} {x hi mx:Operand} {lo:Option Operand} {es:List (List T)} {cap:Option Nat} {nl:Option Bool} {l h' m:Nat} (h:B0 w0 B κ X μ st tm w) (hg:Gl Γ w X) (ho:o.op=.slice t x lo (some hi) (some mx)) (kx:A9 x=true) (hu:Ub P t=some e) (hz:Ic P e=some s)
  (hx:ev Γ st.env x=some (.t (.sl es cap nl))) (hw:Gk s es) (hlo:Og (Act.eval ⟨tm,ds⟩) lo 0 l) (hhi:Og (Act.eval ⟨tm,ds⟩) (some hi) es.length h') (hmx:Og (Act.eval ⟨tm,ds⟩) (some mx) 0 m) (h1:l<=h') (h2:h'<=m) (h3:m<=es.length) :
  Ad P w0 B κ X o (.t (.sl ((es.drop l).take (h' - l)) (some (m-l)) nl)) st tm w ds:=by
 obtain⟨a,c,he,hle,hc,hcut⟩:=qDJ (Ah (ds:=ds) h hg hx kx).t_inv hw h1 (by omega:h'<=es.length)
 refine Ad.same h (v:=Z1 a c l h' m s) ?_ (.t _ _ (hcut m h2 (by omega) _ (fun n hn=>by cases hn;rfl)))
 have hrun:=q0X (P:=P) hu hz (a:=a) (len:=es.length) (c:=c) (fun w=>q40 (P:=P) (cap:=c) hlo hhi hmx h1 h2 (by omega) w) w
 simp only[execOp,ho,he,Sem.run_bind,Option.map_some,hrun];rfl
theorem qDK {id off len:Nat} {cap:Option Nat} {x:Value} {q l h m:Nat} {sh:Nat->Option Sh} {n:Nat} (hx:AR w X μ sh (.ls id off len cap) x) (hs:sh id=some (.sl q n)) (h1:l<=h) (h2:h<=len) :
  ∃ a c,x=.slice a len c/\len<=c/\(∀ q,cap=some q->c=q)/\(m=c->AR w X μ sh (.ls id (off+l) (h-l) (cap.map (· - l))) (Z1 a c l h m q))/\(h<=m->m<=len->AR w X μ sh (.ls id (off+l) (h-l) (some (m-l))) (Z1 a c l h m q)):=by
 obtain⟨s',n',hs',hcase⟩:=hx.ls_inv
 rw[hs]at hs'
 simp only[Option.some.injEq,Sh.sl.injEq]at hs'
 obtain⟨rfl,rfl⟩:=hs'
 rcases hcase with⟨hm,⟨a,rfl⟩,rfl,rfl,hc⟩|⟨g,mm,c,a,hm,rfl,hle,hlc,hcm,hfit,hfull,hc,ha⟩
 ·have:h=0:=by omega
  subst this
  have:l=0:=by omega
  subst this
  refine⟨a,0,rfl,Nat.le_refl _,fun q hq=>(hc q hq).symm,fun hm0=>?_,fun _ hm0=>?_⟩
  ·subst hm0
   simp only[Z1,↓reduceIte,Nat.sub_zero,Nat.add_zero]
   exact .lsnil id q n hs hm a _ (fun z hz=>by simp only[Option.map_eq_some_iff]at hz;obtain⟨y,hy,rfl⟩:=hz;exact hc y hy)
  ·have:m=0:=by omega
   subst this
   simp only[Z1,↓reduceIte,Nat.sub_zero,Nat.add_zero]
   exact .lsnil id q n hs hm a _ (fun z hz=>by cases hz;rfl)
 ·refine⟨some a,c,rfl,hlc,hc,fun hmc=>?_,fun hhm hml=>?_⟩
  ·subst hmc
   have hadd:(off+l)*q+(m-l)*q=(off+m)*q:=by rw[<- Nat.add_mul];congr 1;omega
   have e:Z1 (some a) m l h m q=.slice (some (if m=l then a else a.add (l*q))) (h-l) (m-l):=by
    unfold Z1;split<;>rfl
   rw[e]
   refine .ls id (off+l) (h-l) q n g mm (m-l) _ hs hm (by omega) (by omega) (by omega) (by rw[Nat.add_mul (off+l),hadd];exact hfit) (fun hn=>by
    rw[Nat.add_mul (off+l),hadd];exact hfull (by cases cap<;>simp at hn ⊢)) (fun z hz=>by
    simp only[Option.map_eq_some_iff]at hz;obtain⟨y,hy,rfl⟩:=hz;rw[hc y hy]) _ (fun hor=>?_)
   by_cases hml:m=l
   ·subst hml
    simp only[↓reduceIte]
    have h0:off+m=0:=by rcases hor with hor|hor<;>omega
    have:=ha (.inr (by omega))
    have ho:off=0:=by omega
    have hm0:m=0:=by omega
    rw[this,ho,hm0]
   ·simp only[hml,↓reduceIte]
    have:=ha (.inl (by omega))
    rw[this,Addr.add_lit,Nat.add_mul]
  ·have e:Z1 (some a) c l h m q=.slice (some (if m=l then a else a.add (l*q))) (h-l) (m-l):=by
    unfold Z1;split<;>rfl
   rw[e]
   have hle2:(off+l+(m-l))*q<=(off+c)*q:=Nat.mul_le_mul_right _ (by omega)
   refine .ls id (off+l) (h-l) q n g mm (m-l) _ hs hm (by omega) (by omega) (by omega) (by omega) (fun hn=>by cases hn) (fun z hz=>by cases hz;rfl) _ (fun hor=>?_)
   by_cases hml2:m=l
   ·subst hml2
    simp only[↓reduceIte]
    have h0:off+m=0:=by rcases hor with hor|hor<;>omega
    have:=ha (.inr (by omega))
    have ho:off=0:=by omega
    have hm0:m=0:=by omega
    rw[this,ho,hm0]
   ·simp only[hml2,↓reduceIte]
    have:=ha (.inl (by omega))
    rw[this,Addr.add_lit,Nat.add_mul]
theorem qA4 {t e ty:TypeId} {s q id off len:Nat} {es:List (List T)} {x:Operand} {lo hi:Option Operand} {cap:Option Nat} {l h':Nat} (h:B0 w0 B κ X μ st tm w) (hg:Gl Γ w X) (ho:o.op=.slice t x lo hi none) (kx:A9 x=true) (hu:Ub P t=some e) (hz:Ic P e=some s)
  (hx:ev Γ st.env x=some (.ls id off len cap)) (hl:A2 st.hp id=some (.sl ty q es)) (hq:q=s) (hlo:Og (Act.eval ⟨tm,ds⟩) lo 0 l) (hhi:Og (Act.eval ⟨tm,ds⟩) hi len h') (h1:l<=h') (h2:h'<=len):Ad P w0 B κ X o (.ls id (off+l) (h' - l) (cap.map (· - l))) st tm w ds:=by
 subst hq
 obtain⟨a,c,he,hle,hc,hcut,_⟩:=qDK (m:=(match Act.eval ⟨tm,ds⟩ x with | .slice _ _ c=>c|_=>0)) (Ah (ds:=ds) h hg hx kx) (by rw[By hl];rfl) h1 h2
 rw[he]at hcut
 have hcut:=hcut rfl
 refine Ad.same h (v:=Z1 a c l h' c q) ?_ hcut
 have hrun:=q0X (P:=P) hu hz (a:=a) (len:=len) (c:=c) (fun w=>q1P (P:=P) (cap:=c) true hlo hhi h1 (by omega) w) w
 simp only[execOp,ho,he,Sem.run_bind,Option.map_none,hrun];rfl
theorem q8c {t e ty:TypeId} {s q id off len:Nat} {es:List (List T)} {x hi mx:Operand} {lo:Option Operand} {cap:Option Nat} {l h' m:Nat} (h:B0 w0 B κ X μ st tm w) (hg:Gl Γ w X) (ho:o.op=.slice t x lo (some hi) (some mx)) (kx:A9 x=true) (hu:Ub P t=some e) (hz:Ic P e=some s)
  (hx:ev Γ st.env x=some (.ls id off len cap)) (hl:A2 st.hp id=some (.sl ty q es)) (hq:q=s) (hlo:Og (Act.eval ⟨tm,ds⟩) lo 0 l) (hhi:Og (Act.eval ⟨tm,ds⟩) (some hi) len h') (hmx:Og (Act.eval ⟨tm,ds⟩) (some mx) 0 m) (h1:l<=h') (h2:h'<=m) (h3:m<=len) :
  Ad P w0 B κ X o (.ls id (off+l) (h' - l) (some (m-l))) st tm w ds:=by
 subst hq
 obtain⟨a,c,he,hle,hc,_,hcut⟩:=qDK (m:=m) (Ah (ds:=ds) h hg hx kx) (by rw[By hl];rfl) h1 (by omega:h'<=len)
 refine Ad.same h (v:=Z1 a c l h' m q) ?_ (hcut h2 h3)
 have hrun:=q0X (P:=P) hu hz (a:=a) (len:=len) (c:=c) (fun w=>q40 (P:=P) (cap:=c) hlo hhi hmx h1 h2 (by omega) w) w
 simp only[execOp,ho,he,Sem.run_bind,Option.map_some,hrun];rfl
theorem Xn:∀ {es:List (List T)} {bs:List UInt8},Lq es=some bs->Gk 1 es/\es.length=bs.length/\∀ (i:Nat) (e:List T),es[i]? = some e->∃ n,e=[.v (.int .u8 n)]/\bs[i]? = some (UInt8.ofNat n.toNat)
 | [],bs,h=>by simp only[Lq,Option.some.injEq]at h;subst h;exact⟨fun e he=>by simp at he,rfl,fun i e he=>by simp at he⟩
 | e::es,bs,h=>by
  unfold Lq at h
  split at h
  ·rename_i heq;cases heq
  ·rename_i n es' heq
   cases heq
   simp only[Option.map_eq_some_iff]at h
   obtain⟨bs',h',rfl⟩:=h
   obtain⟨h1,h2,h3⟩:=Xn h'
   refine⟨fun e he=>?_,by simp[h2],fun i e he=>?_⟩
   ·rcases List.mem_cons.1 he with rfl|he
    ·rfl
    ·exact h1 e he
   ·cases i with
    | zero=>simp at he;subst he;exact⟨n,rfl,rfl⟩
    | succ i=>simp at he;simpa using h3 i e he
  ·cases h
theorem q41 (body:Value->ByteArray->Sem (ForInStep ByteArray)) (hb:∀ n r,body (.int .u8 n) r=pure (ForInStep.yield (r.push (UInt8.ofNat n.toNat)))):∀ (xs:List Value) (ns:List Int),xs=ns.map (Value.int .u8)->∀ (s:ByteArray) (w:World),
  (forIn xs s body).run P w=.ok (ns.foldl (fun r n=>r.push (UInt8.ofNat n.toNat)) s) w
 | _,[],rfl,s,w=>by simp
 | _,n::ns,rfl,s,w=>by
  have ih:=q41 body hb (ns.map (Value.int .u8)) ns rfl (s.push (UInt8.ofNat n.toNat)) w
  simp only[List.map_cons,List.forIn_cons,hb,Sem.run_bind,Sem.run_pure,Result.andThen_ok,ih,List.foldl_cons]
theorem qCR (ns:List Int):∀ s:ByteArray,(ns.foldl (fun r n=>r.push (UInt8.ofNat n.toNat)) s).data.toList=s.data.toList++ns.map fun n=>UInt8.ofNat n.toNat:=by
 induction ns with
 | nil=>intro s;simp
 | cons n ns ih=>intro s;rw[List.foldl_cons,ih];simp[ByteArray.push]
theorem q7s {bs:List UInt8} {es:List (List T)} {x:Value} {a:AV} (h:B0 w0 B κ X μ st tm w) (ha:AR w X μ st.sh a x) (he:B7 st.hp a=some es) (hb:Lq es=some bs):(Conv.bytesToString x).run P w=.ok (.string ⟨bs.toArray⟩) w:=by
 obtain⟨hw,hlen,hget⟩:=Xn hb
 obtain⟨oa,c,vs,rfl,hels,_,hsrc⟩:=S0 h ha he hw
 have hvals:∃ ns:List Int,vs.flatten=ns.map (Value.int .u8)/\ns.map (fun n=>UInt8.ofNat n.toNat)=bs:=by
  clear hsrc
  have:∀ (es:List (List T)) (vs:List (List Value)) (bs:List UInt8),Els w X 1 es vs->es.length=bs.length->(∀ (i:Nat) (e:List T),es[i]? = some e->∃ n,e=[.v (.int .u8 n)]/\bs[i]? = some (UInt8.ofNat n.toNat))->∃ ns:List Int,vs.flatten=ns.map (Value.int .u8)/\ns.map (fun n=>UInt8.ofNat n.toNat)=bs:=by
   intro es
   induction es with
   | nil =>
    intro vs bs h1 h2 _
    have:vs=[]:=List.eq_nil_of_length_eq_zero h1.1.symm
    subst this
    have:bs=[]:=List.eq_nil_of_length_eq_zero h2.symm
    subst this
    exact⟨[],rfl,rfl⟩
   | cons e es ih =>
    intro vs bs h1 h2 h3
    match vs,bs,h1,h2,h3 with
    | v::vs,b::bs,h1,h2,h3 =>
     obtain⟨n,rfl,hb⟩:=h3 0 e rfl
     simp at hb
     have hv:=h1.2.2.2 0 _ v rfl rfl
     obtain⟨y,ys,rfl,hy,hys⟩:=hv.cons_inv
     have:=hys.nil_inv;subst this
     have:=hy.v_inv;subst this
     obtain⟨ns,hn1,hn2⟩:=ih vs bs ⟨by have:=h1.1;simpa using this,fun v hv=>h1.2.1 v (by simp[hv]),fun e he=>h1.2.2.1 e (by simp[he]),fun i e v he hv=>h1.2.2.2 (i+1) e v (by simpa using he) (by simpa using hv)⟩ (by simpa using h2) (fun i e he=>by simpa using h3 (i+1) e (by simpa using he))
     exact⟨n::ns,by simp[hn1],by simp[hn2,hb]⟩
    | [],_,h1,_,_=>exact absurd h1.1 (by simp)
    | _::_,[],_,h2,_=>exact absurd h2 (by simp)
  exact this es vs bs hels hlen hget
 obtain⟨ns,hn1,hn2⟩:=hvals
 have hfin:(ns.foldl (fun r n=>r.push (UInt8.ofNat n.toNat)) ByteArray.empty)=⟨bs.toArray⟩:=by
  have:=qCR ns ByteArray.empty
  generalize ns.foldl (fun r n=>r.push (UInt8.ofNat n.toNat)) ByteArray.empty=R at this
  cases R with
  | mk d =>
   congr 1
   apply Array.toList_inj.1
   rw[this,hn2];rfl
 by_cases hne:es=[]
 ·subst hne
  have hbs:bs=[]:=List.eq_nil_of_length_eq_zero hlen.symm
  subst hbs
  cases oa with
  | none=>simp[Conv.bytesToString];rfl
  | some b =>
   simp only[Conv.bytesToString,List.length_nil,loadCells,loadCellsFrom,Sem.run_bind,Sem.run_pure,Result.andThen_ok]
   simp;rfl
 ·obtain⟨b,off,rfl,hcell⟩:=hsrc hne
  have hl:=Az hels.2.1
  rw[Nat.mul_one,<- hels.1]at hl
  have hload:=run_loadCells_list (P:=P) w ⟨b,off,none⟩ vs.flatten (fun j v hv=>by rw[Addr.add_lit];exact hcell j v hv)
  rw[hl]at hload
  simp only[Conv.bytesToString,Sem.run_bind,hload,Result.andThen_ok]
  rw[<- Array.forIn_toList,q41 (P:=P) _ (fun n r=>rfl) vs.flatten ns hn1 ByteArray.empty w,hfin]
  rfl
theorem qA5 {src dst e:TypeId} {x:Operand} {a:AV} {es:List (List T)} {bs:List UInt8} (h:B0 w0 B κ X μ st tm w) (hg:Gl Γ w X) (ho:o.op=.convert src dst x) (kx:A9 x=true) (hs:Ub P src=some e) (hi:q6P P e=some .u8) (hd:q0m P dst=true)
  (hx:ev Γ st.env x=some a) (he:B7 st.hp a=some es) (hb:Lq es=some bs):Ad P w0 B κ X o (.t (.v (.string ⟨bs.toArray⟩))) st tm w ds:=by
 have hr:=Ah (ds:=ds) h hg hx kx
 have hrun:=q7s (P:=P) h hr he hb
 obtain⟨oa,c,vs,hv,_⟩:=S0 h hr he (Xn hb).1
 refine Ad.same h (v:=.string ⟨bs.toArray⟩) ?_ (.t _ _ (.v _))
 rw[hv]at hrun
 simp only[execOp,ho,hv,convert,Sem.run_bind,run_underlying (B9 hs),run_underlying (Ik hd),Result.andThen_ok]
 cases oa with
 | none=>simp only[run_underlying (W0 hi),Sem.run_bind,Result.andThen_ok,hrun,Sem.run_pure]
 | some b=>simp only[run_underlying (W0 hi),Sem.run_bind,Result.andThen_ok,hrun,Sem.run_pure]
end
end Go.Lg
namespace Go.Lg
open Go
section
variable {P:Program} {Γ:Tables} {w0:World} {B:Nat} {κ:Be} {X:Nat->Prop} {μ:Be} {st:St} {tm:Array Value} {w:World} {ds:List Deferred} {o:Oper}
theorem qKF {t ty d:TypeId} {zs:List Value} {l c:Operand} {n m:Int} {k1 k2:IntKind} (he:Cd P t ty 1) (hzo:Br P ty=some zs) (hc1:Hi zs=true) (h:B0 w0 B κ X μ st tm w) (hg:Gl Γ w X) (ho:o.op=.makeSlice t l c) (kl:A9 l=true) (kc:A9 c=true)
  (hl:ev Γ st.env l=some (.t (.v (.int k1 n)))) (hc:ev Γ st.env c=some (.t (.v (.int k2 m)))) (h0:0<=n) (hnm:n=m) (hm:m<=2147483648) (hd:A2 st.hp d=none) (hdb:d<1000000) :
  Ad P w0 B κ X o (.lb d n.toNat) ⟨st.env,(d,.bx (List.replicate n.toNat (.t (Ar (zs.headD undef)))))::st.hp⟩ tm w ds:=by
 subst hnm
 obtain⟨arr,harr,hsz,hzl,hrun⟩:=qA1 (ds:=ds) he hzo hc1 h hg ho kl kc hl hc h0 (by omega) hm
 obtain⟨z,rfl⟩:∃ z,zs=[z]:=by
  match zs,hzl with
  | [z],_=>exact⟨z,rfl⟩
 have harr':arr.toList=List.replicate n.toNat z:=by
  rw[harr];simp[List.flatten_replicate_singleton]
 have hsz':arr.size=n.toNat:=by rw[hsz];omega
 have hz1:z.oneCell'=true:=by simpa[Hi]using hc1
 refine Ad.region h (arr:=arr) (ty:=ty) (v:=.slice (some ⟨w.heap.size,0,none⟩) n.toNat n.toNat) w.drawn hd hdb hrun ?_ ?_
 ·have hon:Aw (List.replicate n.toNat (AV.t (Ar z)))=true:=List.all_eq_true.2 fun a ha=>by rw[List.eq_of_mem_replicate ha];exact q1K hz1
  have:=q9w (ty:=ty) (as:=List.replicate n.toNat (AV.t (Ar z))) (xs:=arr.toList) h w.drawn hd hon ⟨by simp[hsz'],fun k a x ha hx=>by
   rw[harr']at hx
   rw[List.eq_of_mem_replicate (List.mem_of_getElem? ha),List.eq_of_mem_replicate (List.mem_of_getElem? hx)]
   exact .t _ _ (q0S z)⟩
  simpa using this
 ·have:=AR.lb (w:=World.alloc { w with drawn:=w.drawn } (.cells arr ty)) (X:=X) (μ:=μ.set d (some (w.heap.size,arr.size))) (sh:=St.sh ⟨st.env,(d,.bx (List.replicate n.toNat (.t (Ar ([z].headD undef)))))::st.hp⟩) d w.heap.size n.toNat (by rw[Lt];rfl) (by simp only[Be.set,↓reduceIte,hsz']) (Hj (by omega))
  exact this
theorem qCS {t e:TypeId} {s:Nat} {cs:List AV} {x i:Operand} {id m:Nat} {k:IntKind} {n:Int} (h:B0 w0 B κ X μ st tm w) (hg:Gl Γ w X) (ho:o.op=.indexAddr t x i) (kx:A9 x=true) (ki:A9 i=true)
  (hu:Ub P t=some e) (hz:Ic P e=some s) (hx:ev Γ st.env x=some (.lb id m)) (hl:A2 st.hp id=some (.bx cs)) (hs1:s=1) (hi:ev Γ st.env i=some (.t (.v (.int k n)))) (h0:0<=n) (h1:n<m) :
  Ad P w0 B κ X o (.lp id 0 n.toNat) st tm w ds:=by
 have hix:=(Ah (ds:=ds) h hg hi ki).t_inv.v_inv
 obtain⟨g,hs,hm,hle,he⟩:=(Ah (ds:=ds) h hg hx kx).lb_inv
 subst hs1
 refine Ad.same h (v:=.pointer (some ⟨g,n.toNat,none⟩)) ?_ (.lpbx id _ g m hs hm)
 have hlt:(0<=n/\n<(m:Int)):=⟨h0,h1⟩
 simp[execOp,ho,he,hix,Instr.indexAt,asIntOf,run_underlying (B9 hu),hlt,Cm hz,Addr.add_lit,Nat.add_mul]
theorem qKG {t d:TypeId} {x:Operand} {s:ByteArray} (h:B0 w0 B κ X μ st tm w) (hg:Gl Γ w X) (ho:o.op=.range t x) (kx:A9 x=true) (hu:q0m P t=true) (hx:ev Γ st.env x=some (.t (.v (.string s)))) (hd:A2 st.hp d=none) (hdb:d<1000000) :
  Ad P w0 B κ X o (.li d) ⟨st.env,(d,.it s 0)::st.hp⟩ tm w ds:=by
 have hxv:=(Ah (ds:=ds) h hg hx kx).t_inv.v_inv
 have hb:RowKit.Below w.heap.size w (w.alloc (.stringIter s 0)):=(RowKit.Below.refl _ _).alloc (Nat.le_refl _) _
 have h2:=h.grow (X':=X) hb (fun _ hx=>hx) (fun b hx=>.inl hx)
 refine⟨_,.pointer (some ⟨w.heap.size,0,none⟩),w.alloc (.stringIter s 0),μ.set d (some (w.heap.size,0)),X,by simp[execOp,ho,Instr.range,hxv,run_underlying (Ik hu)],.inl rfl,h2.addReg hd hdb (.it s 0) (some (w.heap.size,0)) ?_ ?_,?_,fun _ hx=>hx,fun b hx=>hb.block b (h.xlt b hx),fun _ hx=>.inl hx⟩
 ·intro g m e
  cases e
  refine⟨fun hx=>?_,by simp,fun hlt=>absurd h.size (by omega),fun id n' hi hm=>?_⟩
  ·have:=h.xlt _ hx;omega
  ·have:=(h.loc id _ _ hi hm).2.1;omega
 ·exact⟨w.heap.size,0,by simp[Be.set],heap_alloc_new w _⟩
 ·exact .li d w.heap.size 0 (by rw[Lt];rfl) (by simp[Be.set])
theorem qKH {x:Operand} {s:ByteArray} {id pos:Nat} (h:B0 w0 B κ X μ st tm w) (hg:Gl Γ w X) (ho:o.op=.next x true) (kx:A9 x=true) (hx:ev Γ st.env x=some (.li id)) (hl:A2 st.hp id=some (.it s pos)) :
  (pos<s.size->Ad P w0 B κ X o (.t (.tup [.v (.bool true),.v (.int .i64 pos),.v (.int .i32 (Utf8.decode s pos).1)])) ⟨st.env,Bm id (.it s (pos+(Utf8.decode s pos).2)) st.hp⟩ tm w ds) /\
  (¬ pos<s.size->Ad P w0 B κ X o (.t (.tup [.v (.bool false)])) st tm w ds):=by
 obtain⟨g,m,hs,hm,he⟩:=(Ah (ds:=ds) h hg hx kx).li_inv
 obtain⟨g',n',hm',hh⟩:=h.reg _ _ hl
 rw[hm]at hm';cases hm'
 have hglt:g<w.heap.size:=(Array.getElem?_eq_some_iff.1 hh).1
 constructor
 ·intro hp
  obtain⟨hsim,hs'⟩:=h.setReg hl (r':=.it s (pos+(Utf8.decode s pos).2)) rfl hm (w':={ w with heap:=w.heap.setIfInBounds g (.stringIter s (pos+(Utf8.decode s pos).2)) }) rfl rfl rfl (by simp) (fun j hj=>by simp[Array.getElem?_setIfInBounds,Ne.symm hj])
   (fun hs'=>⟨g,m,hm,by simp[hglt]⟩)
  refine⟨_,.tuple #[.bool true,goInt pos,.int .i32 (Utf8.decode s pos).1],_,μ,X,?_,.inl rfl,hsim,.t _ _ (TR.mk_tup (Ds.cons (.v _) (Ds.cons (.v _) (Ds.cons (.v _) (Ds.nil _ _))))),fun _ hx=>hx,hs',fun _ hx=>.inl hx⟩
  simp[execOp,ho,he,Instr.next,getObj,setObj,Sem.run,hh,hp,goInt]
 ·intro hp
  refine Ad.same h (v:=.tuple #[.bool false]) ?_ (.t _ _ (TR.mk_tup (Ds.cons (.v _) (Ds.nil _ _))))
  simp[execOp,ho,he,Instr.next,getObj,Sem.run,hh,hp]
end
end Go.Lg
namespace Go.Lg
open Go
section
variable {P:Program} {Γ:Tables} {w0:World} {B:Nat} {κ:Be} {X:Nat->Prop} {μ:Be} {st:St} {tm:Array Value} {w:World} {ds:List Deferred} {o:Oper}
theorem q38 {id:Nat} {r:Aj}:∀ {hp:List (Nat×Aj)},A2 hp id=some r->Bm id r hp=hp
 | [],h=>by simp[A2]at h
 | (k,v)::e,h=>by
  simp only[A2]at h
  simp only[Bm]
  split
  ·rename_i hk;rw[if_pos hk]at h;cases h;rw[hk]
  ·rename_i hk;rw[if_neg hk]at h;rw[q38 h]
theorem q8d {s:Nat} {es:List (List T)} {vs:List (List Value)} (h:Els w X s es vs) (n:Nat):Els w X s (es.drop n) (vs.drop n):=by
 refine⟨by simp[h.1],fun v hv=>h.2.1 v (List.mem_of_mem_drop hv),fun e he=>h.2.2.1 e (List.mem_of_mem_drop he),fun i e v he hv=>?_⟩
 rw[List.getElem?_drop]at he hv
 exact h.2.2.2 _ e v he hv
theorem q52 {id ty s:Nat} {es:List (List T)} {vs:List (List Value)} {sh:Nat->Option Sh} {g:Nat} {arr:Array Value} {rest:List Value} (hm:μ id=some (g,arr.size)) (hh:w.heap[g]? = some (.cells arr ty (0,0))) (he:Els w X s es vs) (ha:arr.toList=vs.flatten++rest):Bv w X μ sh id (.sl ty s es):=by
 have hfl:=Az he.2.1
 refine⟨fun i e hi=>?_,.inr ⟨g,arr,hm,hh,?_,fun i k e t x h1 h2 h3=>?_⟩⟩
 ·have:=he.2.2.1 e (List.mem_of_getElem? hi)
  exact⟨this.1,fun k t hk=>List.all_eq_true.1 this.2 t (List.mem_of_getElem? hk)⟩
 ·have:=congrArg List.length ha
  simp only[Array.length_toList,List.length_append]at this
  rw[he.1];omega
 ·have hi:=(List.getElem?_eq_some_iff.1 h1).1
  have hes:=(he.2.2.1 e (List.mem_of_getElem? h1)).1
  have hk:k<s:=by rw[<- hes];exact(List.getElem?_eq_some_iff.1 h2).1
  have hf:=Nc he.2.1 i k hk
  have h3':(vs.flatten++rest)[i*s+k]? = some x:=by rw[<- ha];simpa using h3
  have hlt:i*s+k<vs.flatten.length:=by
   rw[hfl,<- he.1]
   have:=Iz (s:=s) hi
   omega
  rw[List.getElem?_append_left hlt,hf]at h3'
  obtain⟨v,hv,hx⟩:=Option.bind_eq_some_iff.1 h3'
  exact(he.2.2.2 i e v h1 hv).2 k t x h2 hx
theorem q8e {x y:Operand} {t t2:TypeId} (ho:o.op=.call { callee:=.builtin .copy,args:=#[x,y],argTypes:=#[t,t2] }) {v:Value} {w':World}
  (h:(Builtin.copy_ #[t,t2] o.type #[Act.eval ⟨tm,ds⟩ x,Act.eval ⟨tm,ds⟩ y]).run P w=.ok v w'):(execOp (Act.eval ⟨tm,ds⟩) o).run P w=.ok (.value v) w':=by
 simp[execOp,ho,resolve,invoke,builtin,h]
theorem qKI {t t2 ty ty2 s id off len:Nat} {cap:Option Nat} {x y:Operand} {es news:List (List T)} {ay:AV} (hsl:Ub P t=some ty) (hsz:Ic P ty=some s) (hpos:0<s) (h:B0 w0 B κ X μ st tm w) (hg:Gl Γ w X) (ho:o.op=.call { callee:=.builtin .copy,args:=#[x,y],argTypes:=#[t,t2] }) (kx:A9 x=true) (ky:A9 y=true)
  (hx:ev Γ st.env x=some (.ls id off len cap)) (hl:A2 st.hp id=some (.sl ty2 s es)) (hy:ev Γ st.env y=some ay) (hnews:B7 st.hp ay=some news) (hw:Gk s news) :
  Ad P w0 B κ X o (.t (.v (.int .i64 (min len news.length:Nat)))) ⟨st.env,Bm id (.sl ty2 s (es.take off++news.take (min len news.length)++es.drop (off+min len news.length))) st.hp⟩ tm w ds:=by
 have hrb:=Ah (ds:=ds) h hg hx kx
 have hrx:=Ah (ds:=ds) h hg hy ky
 have hreg:=h.reg id _ hl
 have hid:st.sh id≠none:=by simp[By hl]
 obtain⟨oa,c2,vs,hvx,hels,hone,hsrc⟩:=S0 h hrx hnews hw
 obtain⟨s2,n2,hs2,hcase⟩:=hrb.ls_inv
 rw[By hl]at hs2
 simp only[Aj.sh,Option.some.injEq,Sh.sl.injEq]at hs2
 obtain⟨rfl,rfl⟩:=hs2
 have hfc0:(Builtin.firstCells s 0 (.slice oa news.length c2)).run P w=.ok #[] w:=by
  cases oa<;>simp[Builtin.firstCells,loadCells,loadCellsFrom]
 -- nothing is copied
 have zero:∀ (ab:Option Addr) (cb:Nat),Act.eval ⟨tm,ds⟩ x=.slice ab len cb->min len news.length=0->Ad P w0 B κ X o (.t (.v (.int .i64 (min len news.length:Nat)))) ⟨st.env,Bm id (.sl ty2 s (es.take off++news.take (min len news.length)++es.drop (off+min len news.length))) st.hp⟩ tm w ds:=by
  intro ab cb hv h0
  have hrun:(Builtin.copy_ #[t,t2] o.type #[Act.eval ⟨tm,ds⟩ x,Act.eval ⟨tm,ds⟩ y]).run P w=.ok (goInt 0) w:=by
   rw[hv,hvx]
   have hm0:Nat.min news.length len=0:=(Nat.min_comm news.length len).trans h0
   simp only[Builtin.copy_,Sem.run_bind,List.getElem?_toArray,List.getElem?_cons_zero,List.getElem?_cons_succ,run_underlying (B9 hsl),Result.andThen_ok,Cm hsz,Sem.run_pure,Builtin.lenOf,hm0,hfc0]
   cases ab<;>simp[storeCells]
  rw[h0,List.take_zero,List.append_nil,Nat.add_zero,List.take_append_drop,q38 hl]
  exact Ad.same h (q8e ho hrun) (.t _ _ (.v _))
 rcases hcase with⟨hm,⟨ab,hvb⟩,_,rfl,_⟩|⟨g,m,cb,ad,hm,hvb,hle,hlc,hcm,hfit,hfull,_,had⟩
 ·exact zero ab 0 hvb (Nat.zero_min _)
 ·by_cases h0:min len news.length=0
  ·exact zero (some ad) cb hvb h0
  ·have hlen:0<len:=by
    rcases Nat.eq_zero_or_pos len with h|h
    ·subst h;exact absurd (Nat.zero_min _) h0
    ·exact h
   have hnl:0<news.length:=by
    rcases Nat.eq_zero_or_pos news.length with h|h
    ·rw[h]at h0;exact absurd (Nat.min_zero _) h0
    ·exact h
   have hadg:=had (.inl (by omega))
   subst hadg
   obtain⟨bb,boff,rfl,hcell⟩:=hsrc (List.length_pos_iff.1 hnl)
   generalize hn:min len news.length=n at *
   have hnlen:n<=len:=by rw[<- hn];exact Nat.min_le_left _ _
   have hnnew:n<=news.length:=by rw[<- hn];exact Nat.min_le_right _ _
   obtain⟨arr,rest,us,hheap,hsza,helsr,harr⟩:=Xm hreg hpos hm
   have helst:=Nh hels n
   have hvn:(vs.take n).length=n:=by simp;rw[<- hels.1];exact Nat.min_eq_left hnnew
   have hfl:(vs.take n).flatten.length=n*s:=by rw[Az helst.2.1,hvn]
   have hpre:∀ (j:Nat) (v:Value),(vs.take n).flatten[j]? = some v->vs.flatten[j]? = some v:=fun j v hv=>by
    have e:vs.flatten=(vs.take n).flatten++(vs.drop n).flatten:=by rw[<- List.flatten_append,List.take_append_drop]
    rw[e,List.getElem?_append_left (List.getElem?_eq_some_iff.1 hv).1];exact hv
   have hfc:=run_firstCells_some (P:=P) w s n ⟨bb,boff,none⟩ news.length c2 (vs.take n).flatten hfl (fun j v hv=>by rw[Addr.add_lit];exact hcell j v (hpre j v hv))
   have h1:∀ u∈(vs.take n).flatten,u.oneCell'=true:=fun u hu=>by
    obtain⟨v,hv,hu⟩:=List.mem_flatten.1 hu
    exact hone v (List.mem_of_mem_take hv) u hu
   have hlu:us.flatten.length=es.length*s:=by rw[Az helsr.2.1,helsr.1]
   have hofit:off*s+(vs.take n).flatten.length<=arr.size:=by
    have hA:=congrArg List.length harr
    simp only[Array.length_toList,List.length_append]at hA
    rw[hfl,<- Nat.add_mul]
    have:(off+n)*s<=es.length*s:=Nat.mul_le_mul_right _ (by omega)
    omega
   have hst:=run_storeCells_at P g (off*s) ty2 (vs.take n).flatten 0 arr w hheap (by simpa using hofit) h1
   simp only[Nat.add_zero]at hst
   have hrun:(Builtin.copy_ #[t,t2] o.type #[Act.eval ⟨tm,ds⟩ x,Act.eval ⟨tm,ds⟩ y]).run P w=.ok (goInt n) (w.setRow g (arr.toList.take (off*s)++(vs.take n).flatten++arr.toList.drop (off*s+(vs.take n).flatten.length)).toArray):=by
    rw[hvb,hvx]
    have hm0:Nat.min news.length len=n:=(Nat.min_comm news.length len).trans hn
    simp only[Builtin.copy_,Sem.run_bind,List.getElem?_toArray,List.getElem?_cons_zero,List.getElem?_cons_succ,run_underlying (B9 hsl),Result.andThen_ok,Cm hsz,Sem.run_pure,Builtin.lenOf,hm0,hfc]
    simp[hst]
   have huf:∀ k,us.flatten.take (k*s)=(us.take k).flatten:=fun k=>by
    by_cases hk:k<=us.length
    ·have e:us.flatten=(us.take k).flatten++(us.drop k).flatten:=by rw[<- List.flatten_append,List.take_append_drop]
     have hl2:(us.take k).flatten.length=k*s:=by rw[Az (Nh helsr k).2.1];simp;rw[Nat.min_eq_left hk]
     rw[e,List.take_append_of_le_length (by omega),List.take_of_length_le (by omega)]
    ·rw[List.take_of_length_le (by rw[Az helsr.2.1];exact Nat.mul_le_mul_right _ (by omega)),List.take_of_length_le (by omega)]
   have hud:us.flatten.drop ((off+n)*s)=(us.drop (off+n)).flatten:=by
    have e:us.flatten=(us.take (off+n)).flatten++(us.drop (off+n)).flatten:=by rw[<- List.flatten_append,List.take_append_drop]
    have hl2:(us.take (off+n)).flatten.length=(off+n)*s:=by rw[Az (Nh helsr (off+n)).2.1];simp;rw[Nat.min_eq_left (by rw[<- helsr.1];omega)]
    rw[e,List.drop_append_of_le_length (by omega),List.drop_of_length_le (by omega),List.nil_append]
   have hul:us.flatten.length=es.length*s:=hlu
   have hon:(off+n)*s<=es.length*s:=Nat.mul_le_mul_right _ (by omega)
   have hoo:off*s<=es.length*s:=Nat.mul_le_mul_right _ (by omega)
   have hta:arr.toList.take (off*s)=(us.take off).flatten:=by
    rw[harr,List.take_append_of_le_length (by omega),huf]
   have hda:arr.toList.drop (off*s+(vs.take n).flatten.length)=(us.drop (off+n)).flatten++rest:=by
    rw[hfl,<- Nat.add_mul,harr,List.drop_append_of_le_length (by omega),hud]
   have hsz2:(arr.toList.take (off*s)++(vs.take n).flatten++arr.toList.drop (off*s+(vs.take n).flatten.length)).toArray.size=arr.size:=Rz rfl hofit
   have hsh:(Aj.sl ty2 s (es.take off++news.take n++es.drop (off+n))).sh=(Aj.sl ty2 s es).sh:=by
    simp only[Aj.sh,List.length_append,List.length_take,List.length_drop]
    rw[show min off es.length+min n news.length+(es.length-(off+n))=es.length by rw[Nat.min_eq_left (by omega),Nat.min_eq_left hnnew];omega]
   obtain⟨hsim,hs'⟩:=h.setReg hl hsh hm (w':=w.setRow g (arr.toList.take (off*s)++(vs.take n).flatten++arr.toList.drop (off*s+(vs.take n).flatten.length)).toArray) rfl rfl rfl (by simp) (fun j hj=>setRow_other w g j _ hj) (fun hs'=>by
    refine q52 (rest:=rest) (by rw[hsz2,hsza];exact hm) (setRow_heap w g arr _ ty2 _ hheap) ((((Nh helsr off).append helst).append (q8d helsr (off+n))).mono hs' fun _ hx=>hx) ?_
    simp only[List.flatten_append]
    rw[hta,hda,List.append_assoc,List.append_assoc,List.append_assoc])
   exact⟨_,goInt n,_,μ,X,q8e ho hrun,.inl rfl,hsim,.t _ _ (.v _),fun _ hx=>hx,hs',fun _ hx=>.inl hx⟩
end
end Go.Lg
namespace Go.Lg
open Go
section
variable {P:Program} {Γ:Tables} {w0:World} {B:Nat} {κ:Be} {X:Nat->Prop} {μ:Be} {st:St} {tm:Array Value} {w:World} {ds:List Deferred} {o:Oper}
def q53:Value->Lit
 | .int k n=>.int k n
 | .bool b=>.bool b
 | _=>.nil
theorem q1Q {α β:Type} (f:α->Option β) (g:α->β):∀ l:List α,(∀ x∈l,f x=some (g x))->l.mapM f=some (l.map g)
 | [],_=>rfl
 | a::l,h=>by
  rw[List.mapM_cons,h a List.mem_cons_self,q1Q f g l fun x hx=>h x (List.mem_cons_of_mem _ hx)]
  rfl
theorem q29:∀ {ks:List (Option IntKind)} {vs:List Value},Z0 ks vs->vs.length=ks.length
 | [],[],_=>rfl
 | k::ks,v::vs,h=>by simp[q29 h.2]
 | [],_::_,h=>h.elim
 | _::_,[],h=>h.elim
theorem q39:∀ {n:Nat} {ks:List (Option IntKind)} {vs:List Value},Z0 ks vs->Z0 (ks.drop n) (vs.drop n)
 | 0,_,_,h=>h
 | n+1,[],[],_=>trivial
 | n+1,k::ks,v::vs,h=>q39 (n:=n) h.2
 | n+1,[],_::_,h=>h.elim
 | n+1,_::_,[],h=>h.elim
theorem q3A:∀ {n:Nat} {ks:List (Option IntKind)} {vs:List Value},Z0 ks vs->Z0 (ks.take n) (vs.take n)
 | 0,ks,vs,_=>by simp[Z0]
 | n+1,[],[],_=>trivial
 | n+1,k::ks,v::vs,h=>⟨h.1,q3A (n:=n) h.2⟩
 | n+1,[],_::_,h=>h.elim
 | n+1,_::_,[],h=>h.elim
theorem q42 {α:Type} (s:Nat) (l:List α):∀ n,n*s<=l.length->((List.range n).map fun i=>(l.drop (i*s)).take s).flatten=l.take (n*s)
 | 0,_=>by simp
 | n+1,h=>by
  rw[Nat.add_mul,Nat.one_mul]at h
  rw[List.range_succ,List.map_append,List.flatten_append,q42 s l n (by omega),Nat.add_mul,Nat.one_mul,List.take_add]
  simp
theorem q6x {α:Type} (l:List α):∀ (fs:List Field) (off:Nat),q3x P fs off l.length=true->off<=l.length->(fs.map fun f=>(l.drop f.offset).take (P.cellsOf f.type)).flatten=l.drop off
 | [],off,h,_=>by
  simp only[q3x,beq_iff_eq]at h
  subst h
  simp
 | f::fs,off,h,ho=>by
  simp only[q3x,Bool.and_eq_true,beq_iff_eq]at h
  obtain⟨h1,h2⟩:=h
  have hle:∀ (fs:List Field) (off:Nat),q3x P fs off l.length=true->off<=l.length:=by
   intro fs
   induction fs with
   | nil=>intro off h;simp only[q3x,beq_iff_eq]at h;omega
   | cons g gs ih =>
    intro off h
    simp only[q3x,Bool.and_eq_true,beq_iff_eq]at h
    have:=ih _ h.2
    omega
  rw[List.map_cons,List.flatten_cons,q6x l fs _ h2 (hle _ _ h2),h1,<- List.drop_drop,List.take_append_drop]
theorem Xo:∀ (d:Nat) (t:TypeId) (ks:List (Option IntKind)),q25 P d t ks=true->∀ vs,Z0 ks vs->P.keyLits d t vs=some (vs.map q53)
 | 0,_,_,h,_,_=>by simp[q25]at h
 | d+1,t,ks,h,vs,hv=>by
  simp only[q25]at h
  split at h
  ·rename_i hu
   have:=of_decide_eq_true h
   subst this
   match vs,hv with
   | [.bool b],_=>simp[Program.keyLits,hu,q53]
   | [.int _ _],h=>exact h.1.elim
   | v::u::vs,h=>exact h.2.elim
  ·rename_i q hu
   have:=of_decide_eq_true h
   subst this
   match vs,hv with
   | [.int j n],h =>
    obtain⟨⟨rfl,hw⟩,_⟩:=h
    simp[Program.keyLits,hu,q53,hw]
   | v::u::vs,h=>exact h.2.elim
  ·rename_i n e hu
   simp only[Bool.and_eq_true,beq_iff_eq]at h
   obtain⟨⟨h1,h2⟩,h3⟩:=h
   have hl:=q29 hv
   rw[List.all_eq_true]at h3
   have hm:=q1Q (fun i=>P.keyLits d e ((vs.drop (i*P.cellsOf e)).take (P.cellsOf e))) (fun i=>((vs.drop (i*P.cellsOf e)).take (P.cellsOf e)).map q53) (List.range n) fun i hi=>Xo d e _ (h3 i hi) _ (q3A (q39 hv))
   simp only[Program.keyLits,hu]
   rw[if_pos (by omega),hm]
   simp only[Option.map_some,Option.some.injEq]
   have:=q42 (P.cellsOf e) (vs.map q53) n (by rw[List.length_map];omega)
   rw[List.take_of_length_le (by rw[List.length_map];omega)]at this
   rw[<- this]
   simp[List.map_drop,List.map_take]
  ·rename_i fs hu
   simp only[Bool.and_eq_true,beq_iff_eq]at h
   obtain⟨⟨⟨h1,h2⟩,h3⟩,h4⟩:=h
   have hl:=q29 hv
   rw[List.all_eq_true]at h4
   have hm:=q1Q (fun f:Field=>P.keyLits d f.type ((vs.drop f.offset).take (P.cellsOf f.type))) (fun f=>((vs.drop f.offset).take (P.cellsOf f.type)).map q53) fs.toList fun f hf=>Xo d f.type _ (h4 f hf) _ (q3A (q39 hv))
   simp only[Program.keyLits,hu]
   rw[if_pos ⟨by omega,h2⟩,hm]
   simp only[Option.map_some,Option.some.injEq]
   have:=q6x (P:=P) (vs.map q53) fs.toList 0 (by rw[List.length_map,hl];exact h3) (Nat.zero_le _)
   rw[List.drop_zero]at this
   rw[<- this]
   simp[List.map_drop,List.map_take]
  ·cases h
theorem q8f:∀ {ks:List (Option IntKind)} {as bs:List Value},Z0 ks as->Z0 ks bs->(q0k as bs=true↔as.map q53=bs.map q53)
 | [],[],[],_,_=>by simp[q0k]
 | k::ks,a::as,b::bs,h,g=>by
  have ih:=q8f h.2 g.2
  simp only[q0k,Bool.and_eq_true,List.map_cons,List.cons.injEq,ih]
  refine and_congr_left fun _=>?_
  match k,a,b,h.1,g.1 with
  | some k,.int j n,.int i m,⟨e1,_⟩,⟨e2,_⟩ =>
   subst e1
   subst e2
   simp[qHL,q53]
  | none,.bool x,.bool y,_,_=>simp[qHL,q53]
 | [],_::_,_,h,_=>h.elim
 | [],[],_::_,_,g=>g.elim
 | _::_,[],_,h,_=>h.elim
 | _::_,_::_,[],_,g=>g.elim
theorem qBK:∀ {cs:List AV} {xs as:List Value},Gf w X μ st.sh cs xs->Ac (cs.map qHN)=some as->xs=as
 | [],xs,as,h,ha=>by
  have:=h.nil_inv;subst this
  simpa[Ac]using ha
 | c::cs,xs,as,h,ha=>by
  obtain⟨y,ys,rfl,h1,h2⟩:=h.cons_inv
  match c,h1,ha with
  | .t (.v x),h1,ha =>
   simp only[List.map_cons,qHN,Ac,Option.map_eq_some_iff]at ha
   obtain⟨bs,hb,rfl⟩:=ha
   rw[qBK h2 hb,h1.t_inv.v_inv]
theorem qBL:∀ {cs:List T} {xs as:List Value},Ds w X cs xs->Ac (cs.map qHM)=some as->xs=as
 | [],xs,as,h,ha=>by
  have:=h.nil_inv;subst this
  simpa[Ac]using ha
 | c::cs,xs,as,h,ha=>by
  obtain⟨y,ys,rfl,h1,h2⟩:=h.cons_inv
  match c,h1,ha with
  | .v x,h1,ha =>
   simp only[List.map_cons,qHM,Ac,Option.map_eq_some_iff]at ha
   obtain⟨bs,hb,rfl⟩:=ha
   rw[qBL h2 hb,h1.v_inv]
theorem qBM {a:AV} {x:Value} {as:List Value} (h:AR w X μ st.sh a x) (ha:q7m a=some as):x=.agg as.toArray:=by
 match a,h,ha with
 | .ag cs,h,ha =>
  obtain⟨xs,rfl,_,hr⟩:=h.ag_inv
  rw[qBK hr ha]
 | .t (.agg ts),h,ha =>
  obtain⟨xs,rfl,_,hr⟩:=h.t_inv.agg_inv
  rw[qBL hr ha]
theorem q8g {d:Nat} {t:TypeId} {ks:List (Option IntKind)} (hw:(match P.underlying t with|some (.array _ _)|some (.struct _)=>true|_=>false)=true) (hl:q25 P (d+1) t ks=true):ks.length=P.cellsOf t:=by
 simp only[q25]at hl
 split at hw
 ·rename_i hu
  simp only[hu,Bool.and_eq_true,beq_iff_eq]at hl
  exact hl.1.1
 ·rename_i hu
  simp only[hu,Bool.and_eq_true,beq_iff_eq]at hl
  exact hl.1.1.1
 ·cases hw
theorem qKJ {t u:TypeId} {pos:Bool} {ks:List (Option IntKind)} {x y:Operand} {a b:AV} {as bs:List Value} (h:B0 w0 B κ X μ st tm w) (hg:Gl Γ w X) (ho:o.op=.binOp (if pos then .eql else .neq) t x y u)
  (hw:(match P.underlying t with|some (.array _ _)|some (.struct _)=>true|_=>false)=true) (hk:P.keyTypeAt 20 t=true) (hl:q25 P 20 t ks=true) (hq:P.eqGuardType P.depth t=false) (kx:A9 x=true) (ky:A9 y=true)
  (hx:ev Γ st.env x=some a) (hy:ev Γ st.env y=some b) (ha:q7m a=some as) (hb:q7m b=some bs) (oa:Z0 ks as) (ob:Z0 ks bs):Ad P w0 B κ X o (.t (.v (.bool (if pos then q0k as bs else !q0k as bs)))) st tm w ds:=by
 have h1:=qBM (Ah (ds:=ds) h hg hx kx) ha
 have h2:=qBM (Ah (ds:=ds) h hg hy ky) hb
 have hcell:ks.length=P.cellsOf t:=q8g (d:=19) hw hl
 have fm:∀ {vs:List Value},Z0 ks vs->(Value.agg vs.toArray).formed P t=true:=by
  intro vs hv
  have:=q29 hv
  split at hw
  ·rename_i hu;simp[Value.formed,hu];omega
  ·rename_i hu;simp[Value.formed,hu];omega
  ·cases hw
 obtain⟨r,hr,hiff⟩:=run_equalIn_deep 9980 20 t hk w 20 20 (.agg as.toArray) (.agg bs.toArray) _ _ (fm oa) (fm ob) (by simpa[Value.cells]using Xo 20 t ks hl as oa) (by simpa[Value.cells]using Xo 20 t ks hl bs ob)
 rw[<- q8f oa ob]at hiff
 have hre:r=q0k as bs:=by
  cases r<;>cases he:q0k as bs<;>simp_all
 subst hre
 have hr':(Op.equal t (.agg as.toArray) (.agg bs.toArray)).run P w=.ok (q0k as bs) w:=hr
 clear hr hiff
 refine Ad.same h (v:=.bool (if pos then q0k as bs else !q0k as bs)) ?_ (.t _ _ (.v _))
 generalize q0k as bs=r at *
 generalize as.toArray=A at *
 generalize bs.toArray=B2 at *
 have hG:∀ op,(eqGuard op t x y (.agg A) (.agg B2)).run P w=.ok () w:=by
  intro op
  cases op<;>simp[eqGuard,hq]
 cases pos
 ·simp only[execOp,ho,h1,h2,Bool.false_eq_true,↓reduceIte,Sem.run_bind,hG,Result.andThen_ok,binOp,hr',Sem.run_pure]
 ·simp only[execOp,ho,h1,h2,↓reduceIte,Sem.run_bind,hG,Result.andThen_ok,binOp,hr',Sem.run_pure]
end
end Go.Lg
namespace Go.Lg
open Go
section
variable {P:Program} {Γ:Tables} {w0:World} {B:Nat} {κ:Be} {X:Nat->Prop} {μ:Be} {st:St} {tm:Array Value} {w:World} {ds:List Deferred} {o:Oper}
def Rf (w:World) (X:Nat->Prop) (μ:Be) (sh:Nat->Option Sh) (es:List (Value×AV)) (ms:List MapEntry):Prop:=es.length=ms.length/\∀ (i:Nat) (e:Value×AV) (m:MapEntry),es[i]? = some e->ms[i]? = some m->m.key=e.1/\AR w X μ sh e.2 m.val
theorem Rf.cons_inv {sh:Nat->Option Sh} {e:Value×AV} {es:List (Value×AV)} {ms:List MapEntry} (h:Rf w X μ sh (e::es) ms):∃ m ns,ms=m::ns/\m.key=e.1/\AR w X μ sh e.2 m.val/\Rf w X μ sh es ns:=by
 cases ms with
 | nil=>exact absurd h.1 (by simp)
 | cons m ns=>exact⟨m,ns,rfl,(h.2 0 e m rfl rfl).1,(h.2 0 e m rfl rfl).2,by have:=h.1;simpa using this,fun i e' m' h1 h2=>h.2 (i+1) e' m' (by simpa using h1) (by simpa using h2)⟩
theorem Rf.cons {sh:Nat->Option Sh} {e:Value×AV} {m:MapEntry} {es:List (Value×AV)} {ms:List MapEntry} (hk:m.key=e.1) (hv:AR w X μ sh e.2 m.val) (h:Rf w X μ sh es ms):Rf w X μ sh (e::es) (m::ms) :=
 ⟨by simp[h.1],fun i e' m' h1 h2=>by
  cases i with
  | zero=>simp at h1 h2;subst h1;subst h2;exact⟨hk,hv⟩
  | succ i=>simp at h1 h2;exact h.2 i e' m' h1 h2⟩
theorem Rf.nil_inv {sh:Nat->Option Sh} {ms:List MapEntry} (h:Rf w X μ sh [] ms):ms=[]:=List.eq_nil_of_length_eq_zero h.1.symm
theorem Xp {sh:Nat->Option Sh} {kt:KT} {d:TypeDesc} (hs:∀ a b:Value,kt.fits a=true->kt.fits b=true->Instr.sameNow d a b=some (Ky a b)) {k:Value} (hk:kt.fits k=true):∀ {es:List (Value×AV)} {ms:List MapEntry} (i:Nat),Rf w X μ sh es ms->Jd kt es->Q1 k es=none->Instr.findNow d k ms i=some none
 | [],ms,i,h,hf,hn=>by rw[h.nil_inv];rfl
 | e::es,ms,i,h,hf,hn=>by
  obtain⟨m,ns,rfl,hmk,hv,h'⟩:=h.cons_inv
  have hs':=hs k e.1 hk (hf e (by simp))
  obtain⟨q,x⟩:=e
  simp only[Q1]at hn
  split at hn
  ·cases hn
  ·rename_i hne
   simp only[Instr.findNow,hmk,hs',Bool.not_eq_true]at hne ⊢
   rw[hne]
   exact Xp hs hk (i+1) h' (fun e he=>hf e (by simp[he])) hn
theorem Xq {sh:Nat->Option Sh} {kt:KT} {d:TypeDesc} (hs:∀ a b:Value,kt.fits a=true->kt.fits b=true->Instr.sameNow d a b=some (Ky a b)) {k:Value} (hk:kt.fits k=true):∀ {es:List (Value×AV)} {ms:List MapEntry} (i:Nat) {x:AV},Rf w X μ sh es ms->Jd kt es->Q1 k es=some x ->
  ∃ (j:Nat) (m:MapEntry),Instr.findNow d k ms i=some (some (i+j,m.val))/\ms[j]? = some m/\AR w X μ sh x m.val/\Ky k m.key=true/\kt.fits m.key=true/\(∀ (y:AV) (v:Value),AR w X μ sh y v->Rf w X μ sh (q4O k y es) (ms.modify j fun e=>{ e with key:=k,val:=v }))/\Rf w X μ sh (q4P k es) (ms.eraseIdx j)
 | [],ms,i,x,h,hf,hn=>by cases hn
 | e::es,ms,i,x,h,hf,hn=>by
  obtain⟨m,ns,rfl,hmk,hv,h'⟩:=h.cons_inv
  have hfe:=hf e (by simp)
  have hs':=hs k e.1 hk hfe
  obtain⟨q,z⟩:=e
  simp only[Q1]at hn
  split at hn
  ·rename_i heq
   simp only[Option.some.injEq]at hn;subst hn
   refine⟨0,m,by simp[Instr.findNow,hmk,hs',heq],rfl,hv,by rw[hmk];exact heq,by rw[hmk];exact hfe,fun y v hy=>?_,?_⟩
   ·simp only[q4O,heq,↓reduceIte,List.modify_zero_cons]
    exact Rf.cons rfl hy h'
   ·simp only[q4P,heq,↓reduceIte,List.eraseIdx_zero,List.tail_cons]
    exact h'
  ·rename_i hne
   obtain⟨j,m2,h1,h2,h3,h4,h5,h6,h7⟩:=Xq hs hk (i+1) h' (fun e he=>hf e (by simp[he])) hn
   refine⟨j+1,m2,?_,by simpa using h2,h3,h4,h5,fun y v hy=>?_,?_⟩
   ·simp only[Bool.not_eq_true]at hne
    simp only[Instr.findNow,hmk,hs',hne,h1]
    rw[show i+1+j=i+(j+1)by omega]
   ·simp only[q4O,hne,↓reduceIte,List.modify_succ_cons]
    exact Rf.cons hmk hv (h6 y v hy)
   ·simp only[q4P,hne,↓reduceIte,List.eraseIdx_cons_succ]
    exact Rf.cons hmk hv h7
theorem q6y {sh:Nat->Option Sh} {kt:KT} {k:Value}:∀ {es:List (Value×AV)} {ms:List MapEntry} {y:AV} {v:Value} {c:Nat},Rf w X μ sh es ms->Q1 k es=none->AR w X μ sh y v->Rf w X μ sh (q4O k y es) (ms++[{ key:=k,val:=v,born:=c }])
 | [],ms,y,v,c,h,hn,hy=>by rw[h.nil_inv];exact Rf.cons rfl hy ⟨rfl,fun i e m h1 _=>by simp at h1⟩
 | e::es,ms,y,v,c,h,hn,hy=>by
  obtain⟨m,ns,rfl,hmk,hv,h'⟩:=h.cons_inv
  obtain⟨q,z⟩:=e
  simp only[Q1]at hn
  split at hn
  ·cases hn
  ·rename_i hne
   simp only[q4O,hne,↓reduceIte,List.cons_append]
   exact Rf.cons hmk hv (q6y (kt:=kt) h' hn hy)
theorem q6z {k:Value}:∀ {es:List (Value×AV)},Q1 k es=none->q4P k es=es
 | [],_=>rfl
 | (q,z)::es,hn=>by
  simp only[Q1]at hn
  split at hn
  ·cases hn
  ·rename_i hne
   simp only[q4P,hne,Bool.false_eq_true,if_false,q6z hn]
theorem q4N.modify {ms:List MapEntry} {c j:Nat} {f:MapEntry->MapEntry} (hf:∀ e,(f e).born=e.born) (h:q4N ms c):q4N (ms.modify j f) c:=by
 have e:(ms.modify j f).map (·.born)=ms.map (·.born):=by
  apply List.ext_getElem?
  intro i
  simp only[List.getElem?_map,List.getElem?_modify]
  cases ms[i]? with
  | none=>rfl
  | some m=>by_cases hj:j=i<;>simp[hj,hf]
 refine⟨fun m hm=>?_,by rw[e];exact h.2⟩
 have:m.born∈(ms.modify j f).map (·.born):=List.mem_map_of_mem hm
 rw[e]at this
 obtain⟨q,hq,he⟩:=List.mem_map.1 this
 rw[<- he];exact h.1 q hq
theorem q4N.push {ms:List MapEntry} {c:Nat} {k v:Value} (h:q4N ms c):q4N (ms++[{ key:=k,val:=v,born:=c }]) (c+1):=by
 refine⟨fun m hm=>?_,?_⟩
 ·rcases List.mem_append.1 hm with hm|hm
  ·have:=h.1 m hm;omega
  ·simp at hm;subst hm;show c<c+1;omega
 ·rw[List.map_append,List.nodup_append]
  refine⟨h.2,by simp,fun a ha b hb=>?_⟩
  simp at hb;subst hb
  obtain⟨q,hq,rfl⟩:=List.mem_map.1 ha
  have:=h.1 q hq
  omega
theorem q4N.erase {ms:List MapEntry} {c j:Nat} (h:q4N ms c):q4N (ms.eraseIdx j) c :=
 ⟨fun m hm=>h.1 m (List.mem_of_mem_eraseIdx hm),((List.eraseIdx_sublist _ _).map _).nodup h.2⟩
theorem qFR {kt:KT} {t q e:TypeId} {zv kv:Value} {m k:Operand} {id:Nat} {es:List (Value×AV)} (h:B0 w0 B κ X μ st tm w) (hg:Gl Γ w X) (ho:o.op=.lookup t m k false) (km:A9 m=true) (kk:A9 k=true)
  (hm:q0l P t=some (q,e)) (hk:ktB P kt q=true) (hz:(P.info? e).bind (·.zero)=some zv) (hzv:Re zv=true) (hkv:ev Γ st.env k=some (.t (.v kv))) (hma:ev Γ st.env m=some (.lm id)) (hl:A2 st.hp id=some (.mr es)) (hf:kt.fits kv=true) (hfs:Jd kt es) :
  Ad P w0 B κ X o ((Q1 kv es).getD (Pe zv)) st tm w ds:=by
 have hkv':=(Ah (ds:=ds) h hg hkv kk).t_inv.v_inv
 obtain⟨g,n,hs,hmu,he⟩:=(Ah (ds:=ds) h hg hma km).lm_inv
 obtain⟨g',n',clock,ms,hm',hh,hbo,hlen,hr⟩:=h.reg _ _ hl
 rw[hmu]at hm';cases hm'
 have hens:Rf w X μ st.sh es ms:=⟨hlen,hr⟩
 obtain⟨d,hu,hsn⟩:=Ze hk
 have hzero:(zeroValue e).run P w=.ok zv w:=by
  rw[Option.bind_eq_some_iff]at hz
  obtain⟨i,hi,hz⟩:=hz
  simp[zeroValue,typeInfo,hi,hz]
 have hck:(Instr.checkKey ms.toArray.isEmpty 10000 q kv).run P w=.ok () w:=Ni hk hf _ 9999 w
 have key:∃ v,(Instr.lookup t (.map (some g)) kv false).run P w=.ok v w/\AR w X μ st.sh ((Q1 kv es).getD (Pe zv)) v:=by
  cases hfm:Q1 kv es with
  | none =>
   have h1:=Xp hsn hf 0 hens hfs hfm
   refine⟨zv,?_,q4t _ hzv⟩
   have hfk:(Instr.findKey q kv ms).run P w=.ok none w:=by simp[Instr.findKey,run_underlying hu,h1]
   simp at hck
   simp[Instr.lookup,run_underlying (Ep hm),getObj,Sem.run,hh,hck,hfk,hzero]
  | some z =>
   obtain⟨j,m2,h1,h2,h3,_⟩:=Xq hsn hf 0 hens hfs hfm
   refine⟨m2.val,?_,h3⟩
   have hfk:(Instr.findKey q kv ms).run P w=.ok (some (0+j,m2.val)) w:=by simp[Instr.findKey,run_underlying hu,h1]
   simp at hck
   simp[Instr.lookup,run_underlying (Ep hm),getObj,Sem.run,hh,hck,hfk]
 obtain⟨v,hrun,hv⟩:=key
 refine Ad.same h (v:=v) ?_ hv
 simp only[execOp,ho,hkv',he,Sem.run_bind,hrun];rfl
theorem qHa {kt:KT} {t q e:TypeId} {kv:Value} {m k x:Operand} {id:Nat} {es:List (Value×AV)} {a:AV} (h:B0 w0 B κ X μ st tm w) (hg:Gl Γ w X) (ho:o.op=.mapUpdate t m k x) (km:A9 m=true) (kk:A9 k=true) (kx:A9 x=true)
  (hm:q0l P t=some (q,e)) (hk:ktB P kt q=true) (hkv:ev Γ st.env k=some (.t (.v kv))) (hma:ev Γ st.env m=some (.lm id)) (hl:A2 st.hp id=some (.mr es)) (hx:ev Γ st.env x=some a) (hf:kt.fits kv=true) (hfs:Jd kt es) :
  Ad P w0 B κ X o .un ⟨st.env,Bm id (.mr (q4O kv a es)) st.hp⟩ tm w ds:=by
 have hkv':=(Ah (ds:=ds) h hg hkv kk).t_inv.v_inv
 have hty:=Ah (ds:=ds) h hg hx kx
 obtain⟨g,n,hs,hmu,he⟩:=(Ah (ds:=ds) h hg hma km).lm_inv
 obtain⟨g',n',clock,ms,hm',hh,hbo,hlen,hr⟩:=h.reg _ _ hl
 rw[hmu]at hm';cases hm'
 have hens:Rf w X μ st.sh es ms:=⟨hlen,hr⟩
 obtain⟨d,hu,hsn⟩:=Ze hk
 have hck:(Instr.checkKey false 10000 q kv).run P w=.ok () w:=Ni hk hf _ 9999 w
 have key:∃ (ms':List MapEntry) (c':Nat),(Instr.mapUpdate t (.map (some g)) kv (Act.eval ⟨tm,ds⟩ x)).run P w=.ok () { w with heap:=w.heap.setIfInBounds g (.map ms'.toArray c') }/\q4N ms' c'/\Rf w X μ st.sh (q4O kv a es) ms':=by
  cases hfm:Q1 kv es with
  | none =>
   have h1:=Xp hsn hf 0 hens hfs hfm
   refine⟨ms++[{ key:=kv,val:=Act.eval ⟨tm,ds⟩ x,born:=clock }],clock+1,?_,hbo.push,q6y (kt:=kt) hens hfm hty⟩
   have hfk:(Instr.findKey q kv ms).run P w=.ok none w:=by simp[Instr.findKey,run_underlying hu,h1]
   simp[Instr.mapUpdate,run_underlying (Ep hm),getObj,setObj,Sem.run,hh,hck,hfk]
  | some z =>
   obtain⟨j,m2,h1,h2,h3,h4,h5,h6,_⟩:=Xq hsn hf 0 hens hfs hfm
   refine⟨ms.modify j fun e=>{ e with key:=kv,val:=Act.eval ⟨tm,ds⟩ x },clock,?_,hbo.modify (fun _=>rfl),h6 a _ hty⟩
   have hfk:(Instr.findKey q kv ms).run P w=.ok (some (0+j,m2.val)) w:=by simp[Instr.findKey,run_underlying hu,h1]
   have hsb:∀ n,Instr.sameBits n m2.key kv=true:=by
    intro n
    cases kt with
    | int k0 =>
     cases kv<;>simp[KT.fits]at hf
     generalize hmk:m2.key=K at h4 h5
     cases K<;>simp[KT.fits]at h5
     subst hf;subst h5
     simp only[Ky,beq_iff_eq]at h4
     cases n<;>simp[Instr.sameBits,h4]
    | str =>
     cases kv<;>simp[KT.fits]at hf
     generalize hmk:m2.key=K at h4 h5
     cases K<;>simp[KT.fits]at h5
     simp only[Ky,q35]at h4
     subst h4
     cases n<;>simp[Instr.sameBits,q35]
    | bl =>
     cases kv<;>simp[KT.fits]at hf
     generalize hmk:m2.key=K at h4 h5
     cases K<;>simp[KT.fits]at h5
     simp only[Ky,beq_iff_eq]at h4
     cases n<;>simp[Instr.sameBits,h4]
   have hstay:(Instr.keyThatStays m2.key kv).run P w=.ok kv w:=by simp only[Instr.keyThatStays,hsb,↓reduceIte,Sem.run_pure]
   have hms:(ms.toArray[0+j]?).map (·.key)=some m2.key:=by simp[h2]
   simp[Instr.mapUpdate,run_underlying (Ep hm),getObj,setObj,Sem.run,hh,hck,hfk,h2,hstay]
 obtain⟨ms',c',hrun,hbo',hens'⟩:=key
 have hglt:g<w.heap.size:=(Array.getElem?_eq_some_iff.1 hh).1
 obtain⟨hsim,hs'⟩:=h.setReg hl (r':=.mr (q4O kv a es)) rfl hmu (w':={ w with heap:=w.heap.setIfInBounds g (.map ms'.toArray c') }) rfl rfl rfl (by simp) (fun j hj=>by simp[Array.getElem?_setIfInBounds,Ne.symm hj])
  (fun hs'=>⟨g,n,c',ms',hmu,by simp[hglt],hbo',hens'.1,fun i e m h1 h2=>⟨(hens'.2 i e m h1 h2).1,(hens'.2 i e m h1 h2).2.mono hs' (fun _ hx=>hx) (fun _ _ hq=>⟨hq,rfl⟩)⟩⟩)
 exact⟨.skip,undef,_,μ,X,by simp only[execOp,ho,hkv',he,Sem.run_bind,hrun];rfl,.inr ⟨rfl,rfl⟩,hsim,.un,fun _ hx=>hx,hs',fun _ hx=>.inl hx⟩
theorem qHb {kt:KT} {t t2 q e:TypeId} {kv:Value} {m k:Operand} {id:Nat} {es:List (Value×AV)} (h:B0 w0 B κ X μ st tm w) (hg:Gl Γ w X) (ho:o.op=.call { callee:=.builtin .delete,args:=#[m,k],argTypes:=#[t,t2] }) (km:A9 m=true) (kk:A9 k=true)
  (hm:q0l P t=some (q,e)) (hk:ktB P kt q=true) (hkv:ev Γ st.env k=some (.t (.v kv))) (hma:ev Γ st.env m=some (.lm id)) (hl:A2 st.hp id=some (.mr es)) (hf:kt.fits kv=true) (hfs:Jd kt es) :
  Ad P w0 B κ X o (.t (.tup [])) ⟨st.env,Bm id (.mr (q4P kv es)) st.hp⟩ tm w ds:=by
 have hkv':=(Ah (ds:=ds) h hg hkv kk).t_inv.v_inv
 obtain⟨g,n,hs,hmu,he⟩:=(Ah (ds:=ds) h hg hma km).lm_inv
 obtain⟨g',n',clock,ms,hm',hh,hbo,hlen,hr⟩:=h.reg _ _ hl
 rw[hmu]at hm';cases hm'
 have hens:Rf w X μ st.sh es ms:=⟨hlen,hr⟩
 obtain⟨d,hu,hsn⟩:=Ze hk
 have hck:∀ b,(Instr.checkKey b 10000 q kv).run P w=.ok () w:=fun b=>Ni hk hf b 9999 w
 have key:∃ (ms':List MapEntry) (c':Nat),(Builtin.delete_ #[t,t2] o.type #[.map (some g),kv]).run P w=.ok (.tuple #[]) { w with heap:=w.heap.setIfInBounds g (.map ms'.toArray c') }/\q4N ms' c'/\Rf w X μ st.sh (q4P kv es) ms':=by
  cases hfm:Q1 kv es with
  | none =>
   have h1:=Xp hsn hf 0 hens hfs hfm
   refine⟨ms,clock,?_,hbo,by rw[q6z hfm];exact hens⟩
   have hfk:(Instr.findKey q kv ms).run P w=.ok none w:=by simp[Instr.findKey,run_underlying hu,h1]
   simp[Builtin.delete_,run_underlying (Ep hm),getObj,setObj,Sem.run,hh,hck,hfk]
  | some z =>
   obtain⟨j,m2,h1,h2,h3,h4,h5,_,h6⟩:=Xq hsn hf 0 hens hfs hfm
   refine⟨ms.eraseIdx j,clock,?_,hbo.erase,h6⟩
   have hfk:(Instr.findKey q kv ms).run P w=.ok (some (0+j,m2.val)) w:=by simp[Instr.findKey,run_underlying hu,h1]
   have hej:(ms.toArray.eraseIdxIfInBounds j)=(ms.eraseIdx j).toArray:=by simp
   simp[Builtin.delete_,run_underlying (Ep hm),getObj,setObj,Sem.run,hh,hck,hfk,hej]
 obtain⟨ms',c',hrun,hbo',hens'⟩:=key
 have hglt:g<w.heap.size:=(Array.getElem?_eq_some_iff.1 hh).1
 obtain⟨hsim,hs'⟩:=h.setReg hl (r':=.mr (q4P kv es)) rfl hmu (w':={ w with heap:=w.heap.setIfInBounds g (.map ms'.toArray c') }) rfl rfl rfl (by simp) (fun j hj=>by simp[Array.getElem?_setIfInBounds,Ne.symm hj])
  (fun hs'=>⟨g,n,c',ms',hmu,by simp[hglt],hbo',hens'.1,fun i e m h1 h2=>⟨(hens'.2 i e m h1 h2).1,(hens'.2 i e m h1 h2).2.mono hs' (fun _ hx=>hx) (fun _ _ hq=>⟨hq,rfl⟩)⟩⟩)
 refine⟨_,.tuple #[],_,μ,X,?_,.inl rfl,hsim,.t _ _ (TR.mk_tup (Ds.nil _ _)),fun _ hx=>hx,hs',fun _ hx=>.inl hx⟩
 simp[execOp,ho,resolve,invoke,builtin,he,hkv',hrun]
theorem q6R (d:Nat) {t e:TypeId} {a b:Value} (hu:P.underlying t=some (.pointer e)) (y:Option Addr) (h:(a=.pointer y/\b=.pointer none)\/(b=.pointer y/\a=.pointer none)) (w:World):(Op.equalIn (d+1) t a b).run P w=.ok y.isNone w:=by
 rcases h with⟨rfl,rfl⟩|⟨rfl,rfl⟩
 ·cases y<;>simp[Op.equalIn,run_underlying hu]
 ·simp[Op.equalIn,run_underlying hu]
theorem q8h {t e:TypeId} {a b:Value} (hu:P.underlying t=some (.pointer e)) (y:Option Addr) (h:(a=.pointer y/\b=.pointer none)\/(b=.pointer y/\a=.pointer none)) (w:World):(Op.equal t a b).run P w=.ok y.isNone w :=
 q6R 9999 hu y h w
theorem q54 {t e u:TypeId} {pos:Bool} {x p q:Operand} {a:AV} {r:Bool} (h:B0 w0 B κ X μ st tm w) (hg:Gl Γ w X) (ho:o.op=.binOp (if pos then .eql else .neq) t p q u) (hpq:(p=x/\q=.const (.pointer none))\/(q=x/\p=.const (.pointer none)))
  (kx:A9 x=true) (hu:P.underlying t=some (.pointer e)) (hx:ev Γ st.env x=some a) (hr:((∃ i j k,a=.lp i j k)/\r=!pos)\/((∃ cs k,a=.t (.ip cs k))/\r=!pos)\/(a=.t (.v (.pointer none))/\r=pos)):Ad P w0 B κ X o (.t (.v (.bool r))) st tm w ds:=by
 refine Ad.same h (v:=.bool r) ?_ (.t _ _ (.v _))
 have har:=Ah (ds:=ds) h hg hx kx
 obtain⟨ad,he,hr2⟩:∃ ad:Option Addr,Act.eval ⟨tm,ds⟩ x=.pointer ad/\r=(ad.isNone==pos):=by
  rcases hr with⟨⟨i,j,k,rfl⟩,rfl⟩|⟨⟨cs,k,rfl⟩,rfl⟩|⟨rfl,rfl⟩
  ·obtain⟨gb,m,hm,hp⟩:=har.lp_inv
   rcases hp with⟨s,q,hs,he⟩|⟨hs,_,he⟩
   ·exact⟨_,he,by cases pos<;>rfl⟩
   ·exact⟨_,he,by cases pos<;>rfl⟩
  ·have ht:=har.t_inv
   generalize Act.eval ⟨tm,ds⟩ x=vv at ht
   cases ht with
   | ip cs k b off f=>exact⟨_,rfl,by cases pos<;>rfl⟩
  ·exact⟨none,har.t_inv.v_inv,by cases r<;>rfl⟩
 have hrun:∀ A C:Value,((A=.pointer ad/\C=.pointer none)\/(C=.pointer ad/\A=.pointer none))->(do eqGuard (if pos then .eql else .neq) t p q A C;binOp (if pos then .eql else .neq) t A C:Sem Value).run P w=.ok (.bool r) w:=by
  intro A C hAC
  have:=q8h (P:=P) hu ad hAC w
  rcases hAC with⟨rfl,rfl⟩|⟨rfl,rfl⟩<;>cases pos<;>simp[eqGuard,binOp,this,hr2]
 rcases hpq with⟨rfl,rfl⟩|⟨rfl,rfl⟩
 ·have:=hrun _ (.pointer none) (.inl ⟨he,rfl⟩)
  simp only[execOp,ho,Act.eval]at this he ⊢
  rw[he]at this ⊢
  simp only[Sem.run_bind]at this ⊢
  rw[this];rfl
 ·have:=hrun (.pointer none) _ (.inr ⟨he,rfl⟩)
  simp only[execOp,ho,Act.eval]at this he ⊢
  rw[he]at this ⊢
  simp only[Sem.run_bind]at this ⊢
  rw[this];rfl
theorem q8i {t:TypeId} {ms:Array (String×TypeId)} {a b:Value} (hu:P.underlying t=some (.interface ms)) (r:Bool) (hr:(a=.nilIface/\b=.nilIface/\r=true)\/(∃ tp v,((a=.iface tp v/\b=.nilIface)\/(b=.iface tp v/\a=.nilIface))/\r=false)) (w:World):(Op.equal t a b).run P w=.ok r w:=by
 show(Op.equalIn (9999+1) t a b).run P w=.ok r w
 generalize 9999=d
 rcases hr with⟨rfl,rfl,rfl⟩|⟨tp,v,⟨rfl,rfl⟩|⟨rfl,rfl⟩,rfl⟩<;>simp[Op.equalIn,run_underlying hu]
theorem q8j {t u:TypeId} {ms:Array (String×TypeId)} {pos:Bool} {x p q:Operand} {a:AV} {r:Bool} (h:B0 w0 B κ X μ st tm w) (hg:Gl Γ w X) (ho:o.op=.binOp (if pos then .eql else .neq) t p q u) (hpq:(p=x/\q=.const .nilIface)\/(q=x/\p=.const .nilIface))
  (kx:A9 x=true) (hu:P.underlying t=some (.interface ms)) (hx:ev Γ st.env x=some a) (hr:(a=.t .ifc/\r=!pos)\/(a=.t (.v .nilIface)/\r=pos)):Ad P w0 B κ X o (.t (.v (.bool r))) st tm w ds:=by
 refine Ad.same h (v:=.bool r) ?_ (.t _ _ (.v _))
 have har:=Ah (ds:=ds) h hg hx kx
 obtain⟨ad,he,hr2⟩:∃ ad:Value,Act.eval ⟨tm,ds⟩ x=ad/\((ad=.nilIface/\r=pos)\/(∃ tp v,ad=.iface tp v)/\r=!pos):=by
  rcases hr with⟨rfl,rfl⟩|⟨rfl,rfl⟩
  ·have ht:=har.t_inv
   generalize Act.eval ⟨tm,ds⟩ x=vv at ht
   cases ht with
   | ifc tp v=>exact⟨_,rfl,.inr ⟨⟨_,_,rfl⟩,rfl⟩⟩
  ·exact⟨_,har.t_inv.v_inv,.inl ⟨rfl,rfl⟩⟩
 have hrun:∀ A C:Value,((A=ad/\C=.nilIface/\q=.const .nilIface)\/(C=ad/\A=.nilIface/\p=.const .nilIface))->(do eqGuard (if pos then .eql else .neq) t p q A C;binOp (if pos then .eql else .neq) t A C:Sem Value).run P w=.ok (.bool r) w:=by
  intro A C hAC
  have hq:(Op.equal t A C).run P w=.ok (r==pos) w:=by
   refine q8i hu _ ?_ w
   rcases hAC with⟨rfl,rfl,_⟩|⟨rfl,rfl,_⟩<;>rcases hr2 with⟨rfl,hpos⟩|⟨⟨tp,v,rfl⟩,hpos⟩<;>rw[hpos]
   ·exact .inl ⟨rfl,rfl,by simp⟩
   ·exact .inr ⟨tp,v,.inl ⟨rfl,rfl⟩,by cases pos<;>rfl⟩
   ·exact .inl ⟨rfl,rfl,by simp⟩
   ·exact .inr ⟨tp,v,.inr ⟨rfl,rfl⟩,by cases pos<;>rfl⟩
  rcases hAC with⟨rfl,rfl,hk⟩|⟨rfl,rfl,hk⟩<;>rcases hr2 with⟨rfl,hpos⟩|⟨⟨tp,v,rfl⟩,hpos⟩<;>subst hk<;>rw[hpos]at hq ⊢<;>cases pos<;>simp[eqGuard,binOp]<;>simp[hq]
 rcases hpq with⟨rfl,rfl⟩|⟨rfl,rfl⟩
 ·have:=hrun _ .nilIface (.inl ⟨he,rfl,rfl⟩)
  simp only[execOp,ho,Act.eval]at this he ⊢
  simp only[Sem.run_bind]at this ⊢
  rw[this];rfl
 ·have:=hrun .nilIface _ (.inr ⟨he,rfl,rfl⟩)
  simp only[execOp,ho,Act.eval]at this he ⊢
  simp only[Sem.run_bind]at this ⊢
  rw[this];rfl
end
end Go.Lg
namespace Go.Lg
open Go
section
variable {P:Program} {Γ:Tables} {w0:World} {B:Nat} {κ:Be} {X:Nat->Prop} {μ:Be} {st:St} {tm:Array Value} {w w':World} {ds:List Deferred} {o:Oper}
def Xr (w:World) (X:Nat->Prop) (μ:Be) (sh:Nat->Option Sh) (s:Nat) (es:List (List AV)) (vs:List (List Value)):Prop:=es.length=vs.length/\(∀ v∈vs,v.length=s)/\(∀ e∈es,e.length=s/\Aw e=true)/\∀ (i:Nat) (e:List AV) (v:List Value),es[i]? = some e->vs[i]? = some v->Gf w X μ sh e v
theorem Xr.mono {Y:Nat->Prop} {μ':Be} {sh sh':Nat->Option Sh} (hs:Same X w w') (hxy:∀ b,X b->Y b) (hsh:∀ id q,sh id=some q->sh' id=some q/\μ' id=μ id) {s:Nat} {es:List (List AV)} {vs:List (List Value)} (h:Xr w X μ sh s es vs):Xr w' Y μ' sh' s es vs :=
 ⟨h.1,h.2.1,h.2.2.1,fun i e v h1 h2=>⟨(h.2.2.2 i e v h1 h2).1,fun k a x ha hx=>((h.2.2.2 i e v h1 h2).2 k a x ha hx).mono hs hxy hsh⟩⟩
theorem Xr.append {sh:Nat->Option Sh} {s:Nat} {es fs:List (List AV)} {vs us:List (List Value)} (h:Xr w X μ sh s es vs) (g:Xr w X μ sh s fs us):Xr w X μ sh s (es++fs) (vs++us):=by
 refine⟨by simp[h.1,g.1],fun v hv=>?_,fun e he=>?_,fun i e v he hv=>?_⟩
 ·rcases List.mem_append.1 hv with hv|hv
  ·exact h.2.1 v hv
  ·exact g.2.1 v hv
 ·rcases List.mem_append.1 he with he|he
  ·exact h.2.2.1 e he
  ·exact g.2.2.1 e he
 ·by_cases hi:i<es.length
  ·rw[List.getElem?_append_left hi]at he
   rw[List.getElem?_append_left (by rw[<- h.1];exact hi)]at hv
   exact h.2.2.2 i e v he hv
  ·rw[List.getElem?_append_right (by omega)]at he
   rw[List.getElem?_append_right (by rw[<- h.1];omega),<- h.1]at hv
   exact g.2.2.2 _ e v he hv
theorem qCT {sh:Nat->Option Sh} {s:Nat} {es:List (List AV)} {vs:List (List Value)} (h:Xr w X μ sh s es vs) (n:Nat):Xr w X μ sh s (es.take n) (vs.take n):=by
 refine⟨by simp[h.1],fun v hv=>h.2.1 v (List.mem_of_mem_take hv),fun e he=>h.2.2.1 e (List.mem_of_mem_take he),fun i e v he hv=>?_⟩
 rw[List.getElem?_take]at he hv
 split at he
 ·rename_i hi;rw[if_pos hi]at hv;exact h.2.2.2 i e v he hv
 ·cases he
theorem q70 {id:Nat} {s:Nat} {es:List (List AV)} {vs:List (List Value)} (h:Xr w X μ st.sh s es vs):Xr w X μ (st.kill id).sh s (es.map fun e=>e.map (Ae id)) vs:=by
 have hsh:∀ i q,i≠id->st.sh i=some q->(st.kill id).sh i=some q:=fun i q hi hq=>by rw[q0V,if_neg hi];exact hq
 refine⟨by simp[h.1],h.2.1,fun e he=>?_,fun i e v he hv=>?_⟩
 ·obtain⟨f,hf,rfl⟩:=List.mem_map.1 he
  have:=h.2.2.1 f hf
  refine⟨by simp[this.1],List.all_eq_true.2 fun a ha=>?_⟩
  obtain⟨b,hb,rfl⟩:=List.mem_map.1 ha
  exact Zd (List.all_eq_true.1 this.2 b hb)
 ·simp only[List.getElem?_map,Option.map_eq_some_iff]at he
  obtain⟨f,hf,rfl⟩:=he
  have:=h.2.2.2 i f v hf hv
  refine⟨by simp[this.1],fun k a x ha hx=>?_⟩
  simp only[List.getElem?_map,Option.map_eq_some_iff]at ha
  obtain⟨b,hb,rfl⟩:=ha
  exact(this.2 k b x hb hx).kill hsh
theorem qCU {sh:Nat->Option Sh} {s:Nat} {es:List (List AV)} {vs:List (List Value)} (h:Xr w X μ sh s es vs) {arr:Array Value} {rest:List Value} (ha:arr.toList=vs.flatten++rest) {i k:Nat} (hi:i<es.length) (hk:k<s) :
  ∃ v x,vs[i]? = some v/\v[k]? = some x/\arr[i*s+k]? = some x:=by
 have hi':i<vs.length:=by rw[<- h.1];exact hi
 have hv:vs[i]? = some vs[i]:=by simp[hi']
 have hl:=h.2.1 vs[i] (List.getElem_mem hi')
 have hx:vs[i][k]? = some (vs[i][k]'(by omega)):=by simp[hl,hk]
 refine⟨_,_,hv,hx,?_⟩
 have hf:=Nc h.2.1 i k hk
 rw[hv]at hf
 simp only[Option.bind_some,hx]at hf
 have:arr.toList[i*s+k]? = some (vs[i][k]'(by omega)):=by
  rw[ha,List.getElem?_append_left (List.getElem?_eq_some_iff.1 hf).1,hf]
 simpa using this
theorem qDL {e:List AV} (h:Aw e=true) {k:Nat} {a:AV} (ha:e[k]? = some a):a.one=true:=List.all_eq_true.1 h a (List.mem_of_getElem? ha)
theorem qA6 {sh:Nat->Option Sh} {id s b:Nat} {es:List (List AV)} {vs:List (List Value)} (h:Xr w X μ sh s es vs) {arr:Array Value} {ty:TypeId} {rest:List Value} (hm:μ id=some (b,arr.size)) (hb:w.heap[b]? = some (.cells arr ty (0,0)))
  (ha:arr.toList=vs.flatten++rest):Bv w X μ sh id (.rs ty s es):=by
 refine⟨fun i e he=>⟨(h.2.2.1 e (List.mem_of_getElem? he)).1,fun k t ht=>qDL (h.2.2.1 e (List.mem_of_getElem? he)).2 ht⟩,.inr ⟨b,arr,hm,hb,?_,fun i k e t x he ht hx=>?_⟩⟩
 ·have:=congrArg List.length ha
  simp only[List.length_append,Az h.2.1,Array.length_toList,<- h.1]at this;omega
 ·have hi:=(List.getElem?_eq_some_iff.1 he).1
  have hk:k<s:=by rw[<- (h.2.2.1 e (List.mem_of_getElem? he)).1];exact(List.getElem?_eq_some_iff.1 ht).1
  obtain⟨v,y,hv,hy,hg⟩:=qCU h ha hi hk
  rw[hg]at hx;cases hx
  exact(h.2.2.2 i e v he hv).2 k t _ ht hy
theorem q43 {id ty s:Nat} {es:List (List AV)} {sh:Nat->Option Sh} (h:Bv w X μ sh id (.rs ty s es)) (hpos:0<s) {g m:Nat} (hm:μ id=some (g,m)) :
  ∃ arr rest vs,w.heap[g]? = some (.cells arr ty (0,0))/\arr.size=m/\Xr w X μ sh s es vs/\arr.toList=vs.flatten++rest:=by
 obtain⟨hw,hcase⟩:=h
 rcases hcase with⟨_,hm0⟩|⟨g',arr,hm',hg,hle,hr⟩
 ·rw[hm]at hm0;cases hm0
 rw[hm]at hm';cases hm'
 have hels:Xr w X μ sh s es ((List.range es.length).map fun i=>(arr.toList.drop (i*s)).take s):=by
  refine⟨by simp,fun v hv=>?_,fun e hme=>?_,fun i e v he hv=>?_⟩
  ·obtain⟨i,hi,rfl⟩:=List.mem_map.1 hv
   simp at hi
   have:=Iz (s:=s) hi
   simp;omega
  ·obtain⟨i,hi,rfl⟩:=List.getElem_of_mem hme
   have:=hw i _ (List.getElem?_eq_getElem hi)
   exact⟨this.1,List.all_eq_true.2 fun t ht=>by obtain⟨k,hk,rfl⟩:=List.getElem_of_mem ht;exact this.2 k _ (List.getElem?_eq_getElem hk)⟩
  ·have hi:=(List.getElem?_eq_some_iff.1 he).1
   simp[hi]at hv;subst hv
   have hf:=Iz (s:=s) hi
   refine⟨by simp[(hw i e he).1];omega,fun k t y ht hy=>?_⟩
   rw[List.getElem?_take]at hy
   split at hy
   ·rw[List.getElem?_drop]at hy;exact hr i k e t y he ht (by simpa using hy)
   ·cases hy
 refine⟨arr,arr.toList.drop (es.length*s),_,hg,rfl,hels,?_⟩
 have hfl:((List.range es.length).map fun i=>(arr.toList.drop (i*s)).take s).flatten=arr.toList.take (es.length*s):=by
  have hlen:=Az hels.2.1
  rw[List.length_map,List.length_range]at hlen
  apply List.ext_getElem?
  intro j
  by_cases hj:j<es.length*s
  ·have hi:j / s<es.length:=by rw[Nat.div_lt_iff_lt_mul hpos];exact hj
   have hk:j % s<s:=Nat.mod_lt _ hpos
   have hjk:j / s*s+j % s=j:=by rw[Nat.mul_comm];exact Nat.div_add_mod j s
   have hf:=Nc hels.2.1 (j / s) (j % s) hk
   rw[hjk]at hf
   rw[hf,List.getElem?_take,if_pos hj]
   simp only[List.getElem?_map,List.getElem?_range hi,Option.map_some,Option.bind_some,List.getElem?_take,hk,↓reduceIte,List.getElem?_drop,hjk]
  ·rw[List.getElem?_eq_none (by omega),List.getElem?_eq_none (by simp;omega)]
 rw[hfl,List.take_append_drop]
theorem qCV {sh:Nat->Option Sh} {s:Nat} {es:List (List AV)} {vs:List (List Value)} (h:Xr w X μ sh s es vs):∀ v∈vs,∀ u∈v,u.oneCell'=true:=by
 intro v hv u hu
 obtain⟨i,hi,rfl⟩:=List.getElem_of_mem hv
 have hi':i<es.length:=by rw[h.1];exact hi
 exact(h.2.2.2 i es[i] vs[i] (by simp[hi']) (by simp[hi])).ones (h.2.2.1 _ (List.getElem_mem hi')).2 u hu
theorem q8k {sh:Nat->Option Sh} (ρ:Operand->Value) {s:Nat}:∀ {xs:List Operand} {as:List AV},Gf w X μ sh as (xs.map ρ)->(∀ a∈as,a.cells.length=s/\Aw a.cells=true) ->
  Xr w X μ sh s (as.map AV.cells) (xs.map fun x=>(ρ x).cells.toList)
 | [],as,h,h1=>by
  have:as=[]:=List.eq_nil_of_length_eq_zero (by simpa using h.1)
  subst this
  exact⟨rfl,by simp,by simp,by simp⟩
 | x::xs,[],h,h1=>absurd h.1 (by simp)
 | x::xs,a::as,h,h1=>by
  obtain⟨y,ys,hy,ha,hs⟩:=h.cons_inv
  simp only[List.map_cons,List.cons.injEq]at hy
  obtain⟨rfl,rfl⟩:=hy
  have ih:=q8k ρ hs (fun e hm=>h1 e (by simp[hm]))
  have h1e:=h1 a (by simp)
  have hr:=ha.cells h1e.2
  have hlen:=hr.1
  have:Xr w X μ sh s [a.cells] [(ρ x).cells.toList]:=⟨rfl,by simp;simp at hlen;omega,by simpa using h1e,fun i e v he hv=>by
   cases i with
   | zero=>simp at he hv;subst he;subst hv;exact hr
   | succ i=>simp at he⟩
  exact this.append ih
theorem qHc {t ty s n d:Nat} {ps:Array (Nat×Operand)} {xs:List Operand} {zs:List Value} {as:List AV} (h:B0 w0 B κ X μ st tm w) (hg:Gl Γ w X) (hop:o.op=.buildSlice t n ps) (kx:xs.all A9=true)
  (hu:Ub P t=some ty) (hz:Ic P ty=some s) (hn:n=xs.length) (ho:K4 0 ps.toList xs=true) (hzo:Br P ty=some zs) (hzl:zs.length=s) (hs:0<s) (hbig:n*s<=16777216)
  (hx:Ip Γ st.env xs=some as) (h1:∀ a∈as,a.cells.length=s/\Aw a.cells=true) (hd:A2 st.hp d=none) (hdb:d<1000000) :
  Ad P w0 B κ X o (.ls d 0 as.length none) ⟨st.env,(d,.rs ty s (as.map AV.cells))::st.hp⟩ tm w ds:=by
 have hr:=Ft (ds:=ds) h hg hx kx
 have hels:=q8k (Act.eval ⟨tm,ds⟩) hr h1
 have hlen:as.length=n:=by rw[hn,Ry hx,List.length_map]
 have hsz0:∀ x∈xs,(Act.eval ⟨tm,ds⟩ x).cells.size=s:=fun x hx=>by
  have:=hels.2.1 _ (List.mem_map.2 ⟨x,hx,rfl⟩);simpa using this
 have hrun:=q7q (P:=P) (Act.eval ⟨tm,ds⟩) hu hz hn ho hzo hzl hs hbig hsz0 w
 have hns:n<=16777216:=by have:=Nat.le_mul_of_pos_right n hs;omega
 have hsz:(xs.flatMap fun x=>(Act.eval ⟨tm,ds⟩ x).cells.toList).length=n*s:=by
  have:=Az hels.2.1
  rw[List.length_map]at this
  rw[hn,<- this];simp[List.flatMap]
 refine Ad.region h (arr:=(xs.flatMap fun x=>(Act.eval ⟨tm,ds⟩ x).cells.toList).toArray) (ty:=ty) (v:=.slice (some ⟨w.heap.size,0,none⟩) as.length n) w.drawn hd hdb ?_ ?_ ?_
 ·simp only[execOp,hop,Sem.run_bind,hrun,hlen];rfl
 ·have hsd:st.sh d=none:=St.sh_none.2 hd
  have hels':=hels.mono (Dn h.xlt w.drawn (.cells (xs.flatMap fun x=>(Act.eval ⟨tm,ds⟩ x).cells.toList).toArray ty)) (Y:=X) (fun _ hb=>hb) (μ':=μ.set d (some (w.heap.size,(xs.flatMap fun x=>(Act.eval ⟨tm,ds⟩ x).cells.toList).toArray.size))) (sh':=St.sh ⟨st.env,(d,.rs ty s (as.map AV.cells))::st.hp⟩) (fun id q hq=>by
   have hne:id≠d:=by intro e;subst e;rw[hsd]at hq;cases hq
   refine⟨?_,by simp[Be.set,hne]⟩
   simp only[St.sh,A2,if_neg (Ne.symm hne)];exact hq)
  exact qA6 hels' (by simp only[Be.set,↓reduceIte]) (Gw w w.drawn _) (rest:=[]) (by simp[List.flatMap])
 ·refine .ls d 0 as.length s as.length w.heap.size _ n none (by simp[St.sh,A2,Aj.sh]) (by simp only[Be.set,↓reduceIte];rfl) (by omega) (by omega) (Hj (by omega)) ?_ (fun _=>?_) (fun q hq=>by cases hq) _ (fun _=>by simp)
  ·simp[hsz]
  ·simp[hsz]
theorem qHd {t ty s d id ix len n tx:Nat} (he:Cd P t ty s) {b x:Operand} {es news:List (List AV)} (h:B0 w0 B κ X μ st tm w) (hg:Gl Γ w X) (ho:o.op=.call { callee:=.builtin .append,args:=#[b,x],argTypes:=#[t,t] }) (kb:A9 b=true) (kx:A9 x=true)
  (hx:ev Γ st.env x=some (.ls ix 0 n none)) (hlx:A2 st.hp ix=some (.rs tx s news)) (hn:n=news.length) (hne:news≠[]) (hb:ev Γ st.env b=some (.ls id 0 len none)) (hl:A2 st.hp id=some (.rs ty s es)) (hbig:len+news.length<=2147483648)
  (hd:A2 (st.kill id).hp d=none) (hdb:d<1000000) :
  Ad P w0 B κ X o (.ls d 0 (es.take len++news).length none) ⟨(st.kill id).env,(d,.rs ty s ((es.take len++news).map fun e=>e.map (Ae id)))::(st.kill id).hp⟩ tm w ds:=by
 have hrb:=Ah (ds:=ds) h hg hb kb
 have hrx:=Ah (ds:=ds) h hg hx kx
 have hreg:=h.reg id _ hl
 have hid:st.sh id≠none:=by simp[By hl]
 have hkill:=h.kill id
 have hmp:0<news.length:=by cases news with
  | nil=>exact absurd rfl hne
  | cons _ _=>simp
 have hsd:(st.kill id).sh d=none:=St.sh_none.2 hd
 have hshd:∀ (μ':Be) (l:Option (Nat×Nat)) (r:Aj) (i:Nat) (q:Sh),(st.kill id).sh i=some q->St.sh ⟨(st.kill id).env,(d,r)::(st.kill id).hp⟩ i=some q/\μ'.set d l i=μ' i:=fun μ' l r i q hq=>by
  have hne:i≠d:=by intro e;subst e;rw[hsd]at hq;cases hq
  refine⟨?_,by simp[Be.set,hne]⟩
  simp only[St.sh,A2,if_neg (Ne.symm hne)];exact hq
 have hlenK:∀ (l:List (List AV)),(l.map fun e=>e.map (Ae id)).length=l.length:=fun l=>by simp
 -- what is appended
 obtain⟨s3,n3,hs3,hcx⟩:=hrx.ls_inv
 rw[By hlx]at hs3
 simp only[Aj.sh,Option.some.injEq,Sh.sl.injEq]at hs3
 obtain⟨rfl,rfl⟩:=hs3
 rcases hcx with⟨_,_,_,h0,_⟩|⟨gx,mx,c2,ax,hmx,hvx,_,_,_,_,_,_,hax⟩
 ·omega
 have hax:ax=⟨gx,0,none⟩:=by have:=hax (.inr rfl);simpa using this
 subst hax
 rw[hn]at hvx
 obtain⟨arrx,restx,vs,hheapx,_,hels,harrx⟩:=q43 (h.reg ix _ hlx) he.pos hmx
 have hlx':=Az hels.2.1
 have hcell:∀ (j:Nat) (u:Value),vs.flatten[j]? = some u->w.cell? ⟨gx,0+j,none⟩=some u:=fun j u hu=>by
  rw[cell_of_row _ _ _ _ _ _ hheapx,Nat.zero_add]
  have:arrx.toList[j]? = some u:=by rw[harrx,List.getElem?_append_left (List.getElem?_eq_some_iff.1 hu).1,hu]
  simpa using this
 -- where new memory is made
 have new:∀ {us:List (List Value)} {nc:Nat} {arr:Array Value} {rest:List Value},Xr w X μ st.sh s (es.take len++news) (us++vs) ->
   (Builtin.append_ #[t,t] o.type #[Act.eval ⟨tm,ds⟩ b,Act.eval ⟨tm,ds⟩ x]).run P w=.ok (.slice (some ⟨w.heap.size,0,none⟩) (es.take len++news).length nc) (World.alloc { w with drawn:=w.drawn+1 } (.cells arr ty)) ->
   arr.toList=(us++vs).flatten++rest->arr.size=nc*s->(es.take len++news).length<=nc->nc<=maxLen ->
   Ad P w0 B κ X o (.ls d 0 (es.take len++news).length none) ⟨(st.kill id).env,(d,.rs ty s ((es.take len++news).map fun e=>e.map (Ae id)))::(st.kill id).hp⟩ tm w ds:=by
  intro us nc arr rest hE hrun ha hsz hle hmax
  refine Ad.region hkill (w.drawn+1) hd hdb (Ey ho hrun) ?_ ?_
  ·exact qA6 ((q70 hE).mono (Dn h.xlt (w.drawn+1) (.cells arr ty)) (fun _ hb=>hb) (hshd μ _ _)) (by simp only[Be.set,↓reduceIte]) (Gw w _ _) ha
  ·exact .ls d 0 (es.take len++news).length s (es.take len++news).length w.heap.size _ nc none (by simp only[St.sh,A2,if_true,Option.map_some,Aj.sh,hlenK]) (by simp only[Be.set,↓reduceIte];rfl) (by omega) hle hmax (by simp[hsz]) (fun _=>by simp[hsz]) (fun q hq=>by cases hq) _ (fun _=>by simp)
 obtain⟨s2,n2,hs2,hcase⟩:=hrb.ls_inv
 rw[By hl]at hs2
 simp only[Aj.sh,Option.some.injEq,Sh.sl.injEq]at hs2
 obtain⟨rfl,rfl⟩:=hs2
 rcases hcase with⟨hm,⟨ab,hvb⟩,_,rfl,_⟩|⟨g,m,cb,ad,hm,hvb,hle,hlc,hcm,hfit,hfull,_,had⟩
 ·-- it lies nowhere
  obtain⟨nc,arr,rest,hrun,ha,hsz,hle2,hmax⟩:=q0W (P:=P) (w:=w) he o.type (ab:=ab) (n:=0) (m:=news.length) (c:=c2) (a:=⟨gx,0,none⟩) (olds:=[]) (news:=vs.flatten)
   (fun _=>rfl) (by simp) (fun b' e j v hv=>by simp at hv) hmp (by rw[hlx',hels.1]) (fun j v hv=>by rw[Addr.add_lit];exact hcell j v hv) hbig
  rw[<- hvb,<- hvx,Nat.zero_add]at hrun
  rw[Nat.zero_add]at hle2
  refine new (us:=[]) (rest:=rest) ?_ ?_ (by rw[ha];rfl) hsz ?_ hmax
  ·simp only[List.take_zero,List.nil_append];exact hels
  ·simpa using hrun
  ·simpa using hle2
 ·have hadg:ad=⟨g,0,none⟩:=by have:=had (.inr rfl);simpa using this
  subst hadg
  simp only[Nat.zero_add]at hle hfit hfull
  have hfull:=hfull trivial
  obtain⟨arr,rest,us,hheap,hsz,helsr,harr⟩:=q43 hreg he.pos hm
  have helst:=qCT helsr len
  have hlt:(es.take len).length=len:=by simp;omega
  have hlb:((us.take len).flatten).length=len*s:=by rw[Az helst.2.1,<- helst.1,hlt]
  have hus:(us.take len).flatten=arr.toList.take (len*s):=by
   have h2:us.flatten=(us.take len).flatten++(us.drop len).flatten:=by rw[<- List.flatten_append,List.take_append_drop]
   rw[harr,h2,List.append_assoc,List.take_append_of_le_length (by omega)]
   exact(List.take_of_length_le (by omega)).symm
  have hcells:∀ (j:Nat) (v:Value),(us.take len).flatten[j]? = some v->w.cell? ⟨g,0+j,none⟩=some v:=fun j v hv=>by
   rw[cell_of_row _ _ _ _ _ _ hheap,Nat.zero_add]
   rw[hus,List.getElem?_take]at hv
   split at hv
   ·simpa using hv
   ·cases hv
  have hels2:=helst.append hels
  have hlen2:len+news.length=(es.take len++news).length:=by rw[List.length_append,hlt]
  by_cases hroom:len+news.length<=cb
  ·-- in place: the world's block g holds the new row
   have hfit2:len*s+vs.flatten.length<=arr.size:=by
    rw[hlx',<- hels.1,<- Nat.add_mul,hsz,<- hfull];exact Nat.mul_le_mul_right _ hroom
   have hrun:=q8X (P:=P) (w:=w) he o.type (n:=len) (m:=news.length) (cb:=cb) (c:=c2) (a:=⟨gx,0,none⟩) (news:=vs.flatten) hheap (by rw[hlx',hels.1]) (fun u hu=>by
    obtain⟨v,hv,hu⟩:=List.mem_flatten.1 hu;exact qCV hels v hv u hu) (fun j v hv=>by rw[Addr.add_lit];exact hcell j v hv) hroom hfit2
   rw[<- hvb,<- hvx]at hrun
   have hsz':((arr.toList.take (len*s)++vs.flatten++arr.toList.drop (len*s+vs.flatten.length)).toArray).size=arr.size:=Rz rfl hfit2
   have harr':((arr.toList.take (len*s)++vs.flatten++arr.toList.drop (len*s+vs.flatten.length)).toArray).toList=(us.take len++vs).flatten++arr.toList.drop (len*s+vs.flatten.length):=by rw[List.flatten_append,hus]
   generalize (arr.toList.take (len*s)++vs.flatten++arr.toList.drop (len*s+vs.flatten.length)).toArray=arr' at hrun hsz' harr'
   obtain⟨hgX,hgs,hgB⟩:=h.loc id g m hid hm
   have hnol:∀ id' n,(st.kill id).sh id' ≠ none->μ id' ≠ some (g,n):=fun id' n hi e=>by
    rw[q0V]at hi
    split at hi
    ·exact hi rfl
    ·rename_i hne2;exact hne2 (h.inj id' id g n m hi hid e hm)
   have hheap':=setRow_heap w g arr arr' ty _ hheap
   obtain⟨hsim,hs⟩:=hkill.free (X':=X) hgX hnol hgB hgs (w.setRow g arr') rfl rfl rfl (by simp) (fun k hk=>setRow_other w g k _ hk) (fun _ hx=>hx) (fun _ hx=>.inl hx)
   refine⟨_,_,_,_,X,Ey ho hrun,.inl rfl,hsim.addReg hd hdb (.rs ty s ((es.take len++news).map fun e=>e.map (Ae id))) (some (g,m)) (fun g' n' e=>?_) ?_,?_,fun _ hx=>hx,hs,fun _ hx=>.inl hx⟩
   ·cases e;exact⟨hgX,by simpa using hgs,hgB,fun id' n' hi=>hnol id' n' hi⟩
   ·exact qA6 ((q70 hels2).mono hs (fun _ hx=>hx) (hshd μ _ _)) (by simp only[Be.set,↓reduceIte,hsz',hsz]) hheap' harr'
   ·rw[hlen2]
    exact .ls d 0 (es.take len++news).length s (es.take len++news).length g m cb none (by simp only[St.sh,A2,if_true,Option.map_some,Aj.sh,hlenK]) (by simp only[Be.set,↓reduceIte]) (by omega) (by omega) hcm (by simpa using hfit) (fun _=>by simpa using hfull) (fun q hq=>by cases hq) _ (fun _=>by simp)
  ·-- in new memory
   obtain⟨i,z,hi,his,hiz,hzs,hby⟩:=he.info
   subst his
   have hbytes:(len+news.length)*i.bytes<=140737488355328:=by
    exact Nat.le_trans (Nat.mul_le_mul_left _ hby) (by omega)
   have h63:((len+news.length:Nat):Int)<=9223372036854775807:=by omega
   have hr:=run_append_grow (P:=P) w t o.type ty i z (B9 he.sl) hi hiz ⟨g,0,none⟩ len cb (us.take len).flatten hlb (fun j v hv=>by rw[Addr.add_lit];exact hcells j v hv) ⟨gx,0,none⟩ news.length c2 vs.flatten (by rw[hlx',hels.1])
    (fun j v hv=>by rw[Addr.add_lit];exact hcell j v hv) (by omega) (by omega) (growslice_fits (by omega) hbytes)
   have hge:=grownCap_ge w (len+news.length) cb ty
   rw[<- hvb,<- hvx]at hr
   have harr2:((us.take len).flatten.toArray++vs.flatten.toArray++Builtin.zeroCells z.cells (grownCap w (len+news.length) cb ty-(len+news.length))).toList=(us.take len++vs).flatten++(Builtin.zeroCells z.cells (grownCap w (len+news.length) cb ty-(len+news.length))).toList:=by
    simp
   have hsz2:((us.take len).flatten.toArray++vs.flatten.toArray++Builtin.zeroCells z.cells (grownCap w (len+news.length) cb ty-(len+news.length))).size=grownCap w (len+news.length) cb ty*i.size:=by
    simp only[Array.size_append,List.size_toArray,size_zeroCells,hzs,hlb,hlx',<- hels.1,<- Nat.add_mul]
    congr 1;omega
   have hmax:grownCap w (len+news.length) cb ty<=maxLen:=grownCap_le_maxLen w _ cb ty (Hj hbig)
   generalize grownCap w (len+news.length) cb ty=nc at hr hge harr2 hsz2 hmax
   generalize (us.take len).flatten.toArray++vs.flatten.toArray++Builtin.zeroCells z.cells (nc-(len+news.length))=arr2 at hr harr2 hsz2
   rw[hlen2]at hr hge
   exact new hels2 hr harr2 hsz2 hge hmax
theorem qA7 (s:ByteArray):Els w X 1 (Q2 s) ((Lib.strCells s).map fun v=>[v]):=by
 refine⟨by simp[Q2,Lib.strCells],by simp,fun e he=>?_,fun i e v he hv=>?_⟩
 ·obtain⟨b,_,rfl⟩:=List.mem_map.1 he
  exact⟨rfl,rfl⟩
 ·simp only[Q2,Lib.strCells,List.getElem?_map,List.map_map,Option.map_eq_some_iff]at he hv
  obtain⟨b,hb,rfl⟩:=he
  obtain⟨b',hb',rfl⟩:=hv
  rw[hb]at hb';cases hb'
  exact Ds.cons (.v _) (Ds.nil _ _)
theorem q4k (s:ByteArray):((Lib.strCells s).map fun v=>[v]).flatten=Lib.strCells s:=by
 generalize Lib.strCells s=l
 induction l with
 | nil=>rfl
 | cons a l ih=>simp[ih]
theorem q71 {b x:Operand} {t u:TypeId} (ho:o.op=.call { callee:=.builtin .append,args:=#[b,x],argTypes:=#[t,u] }) {v:Value} {w':World}
  (h:(Builtin.append_ #[t,u] o.type #[Act.eval ⟨tm,ds⟩ b,Act.eval ⟨tm,ds⟩ x]).run P w=.ok v w'):(execOp (Act.eval ⟨tm,ds⟩) o).run P w=.ok (.value v) w':=by
 simp[execOp,ho,resolve,invoke,builtin,h]
theorem Zf (s:ByteArray):(Q2 s).length=s.size:=by
 simp only[Q2,List.length_map,Array.length_toList];rfl
theorem q55 {b x:Operand} {t u ty d:TypeId} {st:St} (h:B0 w0 B κ X μ st tm w) (ho:o.op=.call { callee:=.builtin .append,args:=#[b,x],argTypes:=#[t,u] }) {es:List (List T)} {vs:List (List Value)} (hels:Els w X 1 es vs)
  {nc:Nat} {arr:Array Value} {rest:List Value} (hr:(Builtin.append_ #[t,u] o.type #[Act.eval ⟨tm,ds⟩ b,Act.eval ⟨tm,ds⟩ x]).run P w=.ok (.slice (some ⟨w.heap.size,0,none⟩) es.length nc) (World.alloc { w with drawn:=w.drawn+1 } (.cells arr ty)))
  (ha:arr.toList=vs.flatten++rest) (hsz:arr.size=nc) (hle:es.length<=nc) (hmax:nc<=maxLen) (hd:A2 st.hp d=none) (hdb:d<1000000):Ad P w0 B κ X o (.ls d 0 es.length none) ⟨st.env,(d,.sl ty 1 es)::st.hp⟩ tm w ds:=by
 refine Ad.region h (w.drawn+1) hd hdb (q71 ho hr) ?_ ?_
 ·exact Zb (hels.mono (Dn h.xlt (w.drawn+1) (.cells arr ty)) (Y:=X) (fun _ hb=>hb)) (by simp only[Be.set,↓reduceIte]) (Gw w _ _) ha
 ·exact .ls d 0 es.length 1 es.length w.heap.size _ nc none (by rw[Lt];rfl) (by simp only[Be.set,↓reduceIte];rfl) (by omega) hle hmax (by simp[hsz]) (fun _=>by simp[hsz]) (fun q hq=>by cases hq) _ (fun _=>by simp)
theorem q56 {t ty u:TypeId} (he:Cd P t ty 1 1) (hu:P.underlying u=some .string) (yt:TypeId) {ab:Option Addr} {n cb:Nat} {olds:List Value} (s:ByteArray) (hs:0<s.size) (hab:ab=none->n=0/\cb=0) (hl:olds.length=n) (ho:∀ b,ab=some b->∀ (j:Nat) (v:Value),olds[j]? = some v->w.cell? (b.add j)=some v)
  (hg:cb<n+s.size) (hb:n+s.size<=140737488355328) :
  ∃ nc arr rest,(Builtin.append_ #[t,u] yt #[.slice ab n cb,.string s]).run P w=.ok (.slice (some ⟨w.heap.size,0,none⟩) (n+s.size) nc) (World.alloc { w with drawn:=w.drawn+1 } (.cells arr ty)) /\
   arr.toList=olds++Lib.strCells s++rest/\arr.size=nc/\n+s.size<=nc/\nc<=maxLen:=by
 obtain⟨i,z,hi,his,hiz,hzs,hby⟩:=he.info
 have hmax:n+s.size<=maxLen:=by unfold maxLen;omega
 cases ab with
 | none =>
  obtain⟨rfl,rfl⟩:=hab rfl
  have h0:olds=[]:=List.eq_nil_of_length_eq_zero hl
  subst h0
  have hr:=run_append_nil_string (P:=P) w t u yt ty i z (B9 he.sl) hu hi hiz s hs (by omega) (Nat.le_trans (Nat.mul_le_mul_left _ hby) (by omega))
  have hge:=grownCap_ge w s.size 0 ty
  refine⟨grownCap w s.size 0 ty,s.data.map (fun b=>Value.int .u8 b.toNat)++Builtin.zeroCells z.cells (grownCap w s.size 0 ty-s.size),(Builtin.zeroCells z.cells (grownCap w s.size 0 ty-s.size)).toList,by rw[Nat.zero_add];exact hr,by simp[Lib.strCells],?_,by omega,grownCap_le_maxLen w s.size 0 ty (by omega)⟩
  have hss:s.data.size=s.size:=rfl
  simp only[Array.size_append,Array.size_map,size_zeroCells,hzs,Nat.mul_one,hss]
  omega
 | some b =>
  have hr:=Lib.run_append_grow_string (P:=P) w t u yt ty i z (B9 he.sl) hu hi hiz b n cb olds (by rw[his,Nat.mul_one];exact hl) (ho b rfl) s hg (by omega) (growslice_fits (by omega) (Nat.le_trans (Nat.mul_le_mul_left _ hby) (by omega)))
  have hge:=grownCap_ge w (n+s.size) cb ty
  refine⟨grownCap w (n+s.size) cb ty,olds.toArray++(Lib.strCells s).toArray++Builtin.zeroCells z.cells (grownCap w (n+s.size) cb ty-(n+s.size)),(Builtin.zeroCells z.cells (grownCap w (n+s.size) cb ty-(n+s.size))).toList,hr,by simp,?_,hge,grownCap_le_maxLen w (n+s.size) cb ty hmax⟩
  simp only[Array.size_append,List.size_toArray,size_zeroCells,hzs,hl,Lib.strCells_length,Nat.mul_one]
  omega
theorem qFS {t ty u d:TypeId} (he:Cd P t ty 1 1) (hu:q0m P u=true) {b x:Operand} {s:ByteArray} {nl:Option Bool} (h:B0 w0 B κ X μ st tm w) (hg:Gl Γ w X) (ho:o.op=.call { callee:=.builtin .append,args:=#[b,x],argTypes:=#[t,u] }) (kb:A9 b=true) (kx:A9 x=true)
  (hx:ev Γ st.env x=some (.t (.v (.string s)))) (hs:0<s.size) (hb:ev Γ st.env b=some (.t (.sl [] (some 0) nl))) (hbig:s.size<=140737488355328) (hd:A2 st.hp d=none) (hdb:d<1000000) :
  Ad P w0 B κ X o (.ls d 0 (Q2 s).length none) ⟨st.env,(d,.sl ty 1 (Q2 s))::st.hp⟩ tm w ds:=by
 have hrb:=Ah (ds:=ds) h hg hb kb
 have hvx:=(Ah (ds:=ds) h hg hx kx).t_inv.v_inv
 obtain⟨ab,c1,hvb,hc1,_⟩:=hrb.t_inv.sl_val
 have hc1:=hc1 0 rfl
 subst hc1
 obtain⟨nc,arr,rest,hrun,ha,hsz,hle,hmax⟩:=q56 (P:=P) (w:=w) he (Ik hu) o.type (ab:=ab) (n:=0) (cb:=0) (olds:=[]) s hs (fun _=>⟨rfl,rfl⟩) rfl (fun b' e j v hv=>by simp at hv) (by omega) (by omega)
 rw[Nat.zero_add]at hrun hle
 have hvb':Act.eval ⟨tm,ds⟩ b=.slice ab 0 0:=hvb
 rw[<- hvb',<- hvx,<- Zf s]at hrun
 exact q55 h ho (qA7 s) hrun (by rw[ha,q4k];rfl) hsz (by rw[Zf];exact hle) hmax hd hdb
theorem qHe {t ty u d id len:Nat} (he:Cd P t ty 1 1) (hu:q0m P u=true) {b x:Operand} {s:ByteArray} {es:List (List T)} (h:B0 w0 B κ X μ st tm w) (hg:Gl Γ w X) (ho:o.op=.call { callee:=.builtin .append,args:=#[b,x],argTypes:=#[t,u] }) (kb:A9 b=true) (kx:A9 x=true)
  (hx:ev Γ st.env x=some (.t (.v (.string s)))) (hs:0<s.size) (hb:ev Γ st.env b=some (.ls id 0 len none)) (hl:A2 st.hp id=some (.sl ty 1 es)) (hbig:len+s.size<=140737488355328) (hd:A2 (st.kill id).hp d=none) (hdb:d<1000000) :
  Ad P w0 B κ X o (.ls d 0 (es.take len++Q2 s).length none) ⟨(st.kill id).env,(d,.sl ty 1 (es.take len++Q2 s))::(st.kill id).hp⟩ tm w ds:=by
 have hrb:=Ah (ds:=ds) h hg hb kb
 have hvx:=(Ah (ds:=ds) h hg hx kx).t_inv.v_inv
 have hreg:=h.reg id _ hl
 have hid:st.sh id≠none:=by simp[By hl]
 have hkill:=h.kill id
 have hsl:=Zf s
 obtain⟨s2,n2,hs2,hcase⟩:=hrb.ls_inv
 rw[By hl]at hs2
 simp only[Aj.sh,Option.some.injEq,Sh.sl.injEq]at hs2
 obtain⟨rfl,rfl⟩:=hs2
 rcases hcase with⟨hm,⟨ab,hvb⟩,_,rfl,_⟩|⟨g,m,cb,ad,hm,hvb,hle,hlc,hcm,hfit,hfull,_,had⟩
 ·-- it lies nowhere
  obtain⟨nc,arr,rest,hrun,ha,hsz,hle,hmax⟩:=q56 (P:=P) (w:=w) he (Ik hu) o.type (ab:=ab) (n:=0) (cb:=0) (olds:=[]) s hs (fun _=>⟨rfl,rfl⟩) rfl (fun b' e j v hv=>by simp at hv) (by omega) (by omega)
  rw[Nat.zero_add]at hrun hle
  rw[<- hvb,<- hvx,<- hsl]at hrun
  simp only[List.take_zero,List.nil_append]
  exact q55 hkill ho (qA7 s) hrun (by rw[ha,q4k];rfl) hsz (by rw[hsl];exact hle) hmax hd hdb
 ·have hadg:ad=⟨g,0,none⟩:=by have:=had (.inr rfl);simpa using this
  subst hadg
  simp only[Nat.zero_add,Nat.mul_one]at hle hfit hfull
  have hfull:=hfull trivial
  obtain⟨arr,rest,us,hheap,hsz,helsr,harr⟩:=Xm hreg Nat.one_pos hm
  have helst:=Nh helsr len
  have hlt:(es.take len).length=len:=by simp;omega
  have hlb:((us.take len).flatten).length=len:=by rw[Az helst.2.1,<- helst.1,hlt,Nat.mul_one]
  have hus:(us.take len).flatten=arr.toList.take len:=by
   have h2:us.flatten=(us.take len).flatten++(us.drop len).flatten:=by rw[<- List.flatten_append,List.take_append_drop]
   rw[harr,h2,List.append_assoc,List.take_append_of_le_length (by omega)]
   exact(List.take_of_length_le (by omega)).symm
  have hcells:∀ (j:Nat) (v:Value),(us.take len).flatten[j]? = some v->w.cell? ⟨g,0+j,none⟩=some v:=fun j v hv=>by
   rw[cell_of_row _ _ _ _ _ _ hheap,Nat.zero_add]
   rw[hus,List.getElem?_take]at hv
   split at hv
   ·simpa using hv
   ·cases hv
  have hels2:=helst.append (qA7 (w:=w) (X:=X) s)
  have hlen2:len+s.size=(es.take len++Q2 s).length:=by rw[List.length_append,hlt,hsl]
  by_cases hroom:len+s.size<=cb
  ·obtain⟨i,z,hi,his,hiz,hzs,hby⟩:=he.info
   have hfit2:len+s.size<=arr.size:=by omega
   have hrun:=Lib.run_append_room_string (P:=P) w t u o.type ty i (B9 he.sl) (Ik hu) hi his g len cb arr hheap s hroom hfit2
   rw[<- hvb,<- hvx]at hrun
   have hsz':(arr.toList.take len++Lib.strCells s++arr.toList.drop (len+s.size)).toArray.size=arr.size:=Rz (Lib.strCells_length s) hfit2
   have harr':((arr.toList.take len++Lib.strCells s++arr.toList.drop (len+s.size)).toArray).toList=(us.take len++(Lib.strCells s).map fun v=>[v]).flatten++arr.toList.drop (len+s.size):=by rw[List.flatten_append,hus,q4k]
   generalize (arr.toList.take len++Lib.strCells s++arr.toList.drop (len+s.size)).toArray=arr' at hrun hsz' harr'
   obtain⟨hgX,hgs,hgB⟩:=h.loc id g m hid hm
   have hnol:∀ id' n,(st.kill id).sh id' ≠ none->μ id' ≠ some (g,n):=fun id' n hi e=>by
    rw[q0V]at hi
    split at hi
    ·exact hi rfl
    ·rename_i hne2;exact hne2 (h.inj id' id g n m hi hid e hm)
   have hheap':=setRow_heap w g arr arr' ty _ hheap
   obtain⟨hsim,hs⟩:=hkill.free (X':=X) hgX hnol hgB hgs (w.setRow g arr') rfl rfl rfl (by simp) (fun k hk=>setRow_other w g k _ hk) (fun _ hx=>hx) (fun _ hx=>.inl hx)
   refine⟨_,_,_,_,X,q71 ho hrun,.inl rfl,hsim.addReg hd hdb (.sl ty 1 (es.take len++Q2 s)) (some (g,m)) (fun g' n' e=>?_) ?_,?_,fun _ hx=>hx,hs,fun _ hx=>.inl hx⟩
   ·cases e;exact⟨hgX,by simpa using hgs,hgB,fun id' n' hi=>hnol id' n' hi⟩
   ·exact Zb (hels2.mono hs (fun _ hx=>hx)) (by simp only[Be.set,↓reduceIte,hsz',hsz]) hheap' harr'
   ·rw[hlen2]
    exact .ls d 0 _ 1 _ g m cb none (by rw[Lt];rfl) (by simp only[Be.set,↓reduceIte]) (by omega) (by omega) hcm (by simpa using hfit) (fun _=>by simpa using hfull) (fun q hq=>by cases hq) _ (fun _=>by simp)
  ·obtain⟨nc,arr2,rest2,hrun,ha,hsz2,hle2,hmax⟩:=q56 (P:=P) (w:=w) he (Ik hu) o.type (ab:=some ⟨g,0,none⟩) (n:=len) (cb:=cb) (olds:=(us.take len).flatten) s hs (fun e=>by cases e) hlb (fun b' e j v hv=>by cases e;rw[Addr.add_lit];exact hcells j v hv) (by omega) hbig
   rw[<- hvb,<- hvx,hlen2]at hrun
   rw[hlen2]at hle2
   exact q55 hkill ho hels2 hrun (by rw[ha,List.flatten_append,q4k]) hsz2 hle2 hmax hd hdb
theorem q8l {x:Operand} {t:TypeId} (ho:o.op=.call { callee:=.builtin .clear,args:=#[x],argTypes:=#[t] }) {v:Value} {w':World}
  (h:(Builtin.clear_ #[t] o.type #[Act.eval ⟨tm,ds⟩ x]).run P w=.ok v w'):(execOp (Act.eval ⟨tm,ds⟩) o).run P w=.ok (.value v) w':=by
 simp[execOp,ho,resolve,invoke,builtin,h]
theorem q57 {zs:List Value} {s:Nat} (hs:zs.length=s) (hp:0<s) (c:Nat):(Builtin.zeroCells zs.toArray c).toList=(List.replicate c zs).flatten:=by
 have:=q1O hs hp c
 rw[<- this]
 simp[Builtin.zeroCells,hs]
theorem qKK {t ty ty2 s id off len:Nat} {cap:Option Nat} {x:Operand} {zs:List Value} {es:List (List T)} (hsl:Ub P t=some ty) (hsz:Ic P ty=some s) (hpos:0<s) (hzo:Br P ty=some zs) (hzl:zs.length=s) (hc1:Hi zs=true) (h:B0 w0 B κ X μ st tm w) (hg:Gl Γ w X)
  (ho:o.op=.call { callee:=.builtin .clear,args:=#[x],argTypes:=#[t] }) (kx:A9 x=true) (hx:ev Γ st.env x=some (.ls id off len cap)) (hl:A2 st.hp id=some (.sl ty2 s es)) :
  Ad P w0 B κ X o (.t (.tup [])) ⟨st.env,Bm id (.sl ty2 s (es.take off++List.replicate len (zs.map Ar)++es.drop (off+len))) st.hp⟩ tm w ds:=by
 have hrb:=Ah (ds:=ds) h hg hx kx
 have hreg:=h.reg id _ hl
 have hid:st.sh id≠none:=by simp[By hl]
 have htup:AR w X μ st.sh (.t (.tup [])) (.tuple #[]):=.t _ _ (TR.mk_tup (Ds.nil _ _))
 obtain⟨s2,n2,hs2,hcase⟩:=hrb.ls_inv
 rw[By hl]at hs2
 simp only[Aj.sh,Option.some.injEq,Sh.sl.injEq]at hs2
 obtain⟨rfl,rfl⟩:=hs2
 -- nothing is cleared
 have zero:∀ (ab:Option Addr) (cb:Nat),Act.eval ⟨tm,ds⟩ x=.slice ab len cb->len=0->Ad P w0 B κ X o (.t (.tup [])) ⟨st.env,Bm id (.sl ty2 s (es.take off++List.replicate len (zs.map Ar)++es.drop (off+len))) st.hp⟩ tm w ds:=by
  intro ab cb hv h0
  have hrun:(Builtin.clear_ #[t] o.type #[Act.eval ⟨tm,ds⟩ x]).run P w=.ok (.tuple #[]) w:=by
   rw[hv,h0]
   cases ab<;>simp[Builtin.clear_,run_underlying (B9 hsl)]
  rw[h0,List.replicate_zero,List.append_nil,Nat.add_zero,List.take_append_drop,q38 hl]
  exact Ad.same h (q8l ho hrun) htup
 rcases hcase with⟨hm,⟨ab,hvb⟩,_,rfl,_⟩|⟨g,m,cb,ad,hm,hvb,hle,hlc,hcm,hfit,hfull,_,had⟩
 ·exact zero ab 0 hvb rfl
 ·by_cases h0:len=0
  ·exact zero (some ad) cb hvb h0
  ·have hadg:=had (.inl (by omega))
   subst hadg
   obtain⟨z,hzv,hzc⟩:=Za (P:=P) hzo w
   obtain⟨arr,rest,us,hheap,hsza,helsr,harr⟩:=Xm hreg hpos hm
   have hels:Els w X s (List.replicate len (zs.map Ar)) (List.replicate len zs):=by
    refine⟨by simp,fun v hv=>by rw[List.eq_of_mem_replicate hv];exact hzl,fun e hme=>by rw[List.eq_of_mem_replicate hme];exact⟨by simp[hzl],Jg hc1⟩,fun i e v he' hv=>?_⟩
    rw[List.eq_of_mem_replicate (List.mem_of_getElem? he'),List.eq_of_mem_replicate (List.mem_of_getElem? hv)]
    exact Oz zs
   have hfl:(List.replicate len zs).flatten.length=len*s:=by rw[Az hels.2.1];simp
   have h1:∀ u∈(List.replicate len zs).flatten,u.oneCell'=true:=fun u hu=>by
    obtain⟨v,hv,hu⟩:=List.mem_flatten.1 hu
    rw[List.eq_of_mem_replicate hv]at hu
    exact List.all_eq_true.1 hc1 u hu
   have hlu:us.flatten.length=es.length*s:=by rw[Az helsr.2.1,helsr.1]
   have hofit:off*s+(List.replicate len zs).flatten.length<=arr.size:=by
    have hA:=congrArg List.length harr
    simp only[Array.length_toList,List.length_append]at hA
    rw[hfl,<- Nat.add_mul]
    have:(off+len)*s<=es.length*s:=Nat.mul_le_mul_right _ (by omega)
    omega
   have hst:=run_storeCells_at P g (off*s) ty2 (List.replicate len zs).flatten 0 arr w hheap (by simpa using hofit) h1
   simp only[Nat.add_zero]at hst
   have hzf:=q57 hzl hpos len
   have hrun:(Builtin.clear_ #[t] o.type #[Act.eval ⟨tm,ds⟩ x]).run P w=.ok (.tuple #[]) (w.setRow g (arr.toList.take (off*s)++(List.replicate len zs).flatten++arr.toList.drop (off*s+(List.replicate len zs).flatten.length)).toArray):=by
    rw[hvb]
    obtain⟨k,rfl⟩:∃ k,len=k+1:=⟨len-1,by omega⟩
    simp[Builtin.clear_,run_underlying (B9 hsl),hzv,hzc,hzf,hst]
   have huf:∀ k,us.flatten.take (k*s)=(us.take k).flatten:=fun k=>by
    by_cases hk:k<=us.length
    ·have e:us.flatten=(us.take k).flatten++(us.drop k).flatten:=by rw[<- List.flatten_append,List.take_append_drop]
     have hl2:(us.take k).flatten.length=k*s:=by rw[Az (Nh helsr k).2.1];simp;rw[Nat.min_eq_left hk]
     rw[e,List.take_append_of_le_length (by omega),List.take_of_length_le (by omega)]
    ·rw[List.take_of_length_le (by rw[Az helsr.2.1];exact Nat.mul_le_mul_right _ (by omega)),List.take_of_length_le (by omega)]
   have hud:us.flatten.drop ((off+len)*s)=(us.drop (off+len)).flatten:=by
    have e:us.flatten=(us.take (off+len)).flatten++(us.drop (off+len)).flatten:=by rw[<- List.flatten_append,List.take_append_drop]
    have hl2:(us.take (off+len)).flatten.length=(off+len)*s:=by rw[Az (Nh helsr (off+len)).2.1];simp;rw[Nat.min_eq_left (by rw[<- helsr.1];omega)]
    rw[e,List.drop_append_of_le_length (by omega),List.drop_of_length_le (by omega),List.nil_append]
   have hon:(off+len)*s<=es.length*s:=Nat.mul_le_mul_right _ (by omega)
   have hoo:off*s<=es.length*s:=Nat.mul_le_mul_right _ (by omega)
   have hta:arr.toList.take (off*s)=(us.take off).flatten:=by
    rw[harr,List.take_append_of_le_length (by omega),huf]
   have hda:arr.toList.drop (off*s+(List.replicate len zs).flatten.length)=(us.drop (off+len)).flatten++rest:=by
    rw[hfl,<- Nat.add_mul,harr,List.drop_append_of_le_length (by omega),hud]
   have hsz2:(arr.toList.take (off*s)++(List.replicate len zs).flatten++arr.toList.drop (off*s+(List.replicate len zs).flatten.length)).toArray.size=arr.size:=Rz rfl hofit
   have hsh:(Aj.sl ty2 s (es.take off++List.replicate len (zs.map Ar)++es.drop (off+len))).sh=(Aj.sl ty2 s es).sh:=by
    simp only[Aj.sh,List.length_append,List.length_take,List.length_drop,List.length_replicate]
    rw[show min off es.length+len+(es.length-(off+len))=es.length by rw[Nat.min_eq_left (by omega)];omega]
   obtain⟨hsim,hs'⟩:=h.setReg hl hsh hm (w':=w.setRow g (arr.toList.take (off*s)++(List.replicate len zs).flatten++arr.toList.drop (off*s+(List.replicate len zs).flatten.length)).toArray) rfl rfl rfl (by simp) (fun j hj=>setRow_other w g j _ hj) (fun hs'=>by
    refine q52 (rest:=rest) (by rw[hsz2,hsza];exact hm) (setRow_heap w g arr _ ty2 _ hheap) ((((Nh helsr off).append hels).append (q8d helsr (off+len))).mono hs' fun _ hx=>hx) ?_
    simp only[List.flatten_append]
    rw[hta,hda,List.append_assoc,List.append_assoc,List.append_assoc])
   exact⟨_,.tuple #[],_,μ,X,q8l ho hrun,.inl rfl,hsim,.t _ _ (TR.mk_tup (Ds.nil _ _)),fun _ hx=>hx,hs',fun _ hx=>.inl hx⟩
end
end Go.Lg
namespace Go.Lg
open Go
section
variable {P:Program} {Γ:Tables} {w0:World} {B:Nat} {κ:Be} {X:Nat->Prop} {μ:Be} {st:St} {tm:Array Value} {w:World} {ds:List Deferred} {o:Oper}
theorem D6 {α:Type} [DecidableEq α] {a:Option α} {b:α} (h:(a==some b)=true):a=some b:=by simpa using h
theorem J0 {c:Call} {b:Builtin} {ys:List Operand} {ts:List TypeId} (h1:c.callee=.builtin b) (h2:c.args.toList=ys) (h3:c.argTypes.toList=ts):c={ callee:=.builtin b,args:=ys.toArray,argTypes:=ts.toArray }:=by
 cases c with
 | mk cc ca ct=>simp at h1 h2 h3;subst h1;subst h2;subst h3;simp
theorem qCW {k:Nat} {x:Operand} {c:Prop} {r:AV} {st1:St} {d:Nat} (h:B0 w0 B κ X μ st tm w) (hg:Gl Γ w X) (hchk:Iy P (.len k x) o.op=true) (hk:A9 x=true) (hs:A7 Γ d (.len k x) st=some (c,r,st1)) (hc:c):Ad P w0 B κ X o r st1 tm w ds:=by
 generalize hop:o.op=op at hchk
 simp only[Iy]at hchk
 split at hchk
 case h_2=>cases hchk
 split at hchk
 case h_2=>cases hchk
 rename_i cc _ _ _ y t e1 e2 e3
 simp only[Bool.and_eq_true]at hchk
 have:=A8 hchk.1;subst this
 have he:=J0 e1 e2 e3
 subst he
 simp only[A7,Option.bind_eq_some_iff]at hs
 obtain⟨a,ha,hs⟩:=hs
 split at hs
 case isFalse=>cases hs
 rename_i hlk
 simp only[Option.map_eq_some_iff,Prod.mk.injEq]at hs
 obtain⟨n,hn,_,rfl,rfl⟩:=hs
 refine qK6 h hg hop hk ha ?_ hn
 have h2:=hchk.2
 unfold qCH at hlk
 split at hlk
 ·simp only[Option.isSome_iff_exists]at h2
  obtain⟨e,he⟩:=h2
  rw[B9 he];rfl
 ·simp only[Option.isSome_iff_exists]at h2
  obtain⟨e,he⟩:=h2
  rw[B9 he];rfl
 ·simp only[Option.isSome_iff_exists]at h2
  obtain⟨e,he⟩:=h2
  rw[B9 he];rfl
 ·rw[Ik h2];rfl
 ·simp only[Option.isSome_iff_exists]at h2
  obtain⟨e,he⟩:=h2
  rw[Ep (k:=e.1) (e:=e.2) he];rfl
 ·simp only[Option.isSome_iff_exists]at h2
  obtain⟨e,he⟩:=h2
  rw[Ep (k:=e.1) (e:=e.2) he];rfl
 ·cases hlk
set_option maxHeartbeats 1000000 in
/-- The operation without the demand that what it reads leads to a variable. -/
def q1R:B6->Option B6
 | .mvP x=>some (.mv x)
 | .nckP x=>some (.nck x)
 | .fadP off x=>some (.fadr off x)
 | .ldP n x=>some (.load n false x)
 | .iaR _ s x i=>some (.iadr s x i)
 | .stF _ _ a x=>some (.store 1 a x)
 | _=>none
theorem qCX {a:AV} (h:a.one=true):a.cells=[a]:=by
 cases a with
 | t x=>cases x<;>first|rfl|simp[AV.one,T.one]at h
 | ag=>simp[AV.one]at h
 | _=>rfl
theorem qBN {α:Type} {a:α}:∀ {l:List α} {k:Nat},k+1<=l.length->l.take k++[a]++l.drop (k+1)=l.set k a
 | [],k,h=>by simp at h
 | x::l,0,h=>rfl
 | x::l,k+1,h=>by
  have:=qBN (a:=a) (l:=l) (k:=k) (by simpa using h)
  simpa using this
theorem qDM {io io':B6} {d:Nat} {c:Prop} {r:AV} {st1:St} (hb:q1R io=some io') (hs:A7 Γ d io st=some (c,r,st1)) (hc:c):∃ c',A7 Γ d io' st=some (c',r,st1)/\c':=by
 unfold q1R at hb
 split at hb<;>simp only[Option.some.injEq,reduceCtorEq]at hb<;>subst hb
 ·rename_i x
  simp only[A7,Option.bind_eq_some_iff,Option.map_eq_some_iff,Prod.mk.injEq]at hs ⊢
  obtain⟨a,ha,hs⟩:=hs
  split at hs
  ·simp only[Option.some.injEq,Prod.mk.injEq]at hs
   obtain⟨rfl,rfl,rfl⟩:=hs
   exact⟨True,⟨a,ha,rfl,rfl,rfl⟩,trivial⟩
  ·cases hs
 ·simp only[A7]at hs ⊢
  split at hs
  ·rename_i ha
   split at hs
   ·simp only[Option.some.injEq,Prod.mk.injEq]at hs
    obtain⟨rfl,rfl,rfl⟩:=hs
    exact⟨True,by rw[ha],trivial⟩
   ·cases hs
  ·cases hs
 ·simp only[A7]at hs ⊢
  split at hs
  ·rename_i ha
   split at hs
   ·simp only[Option.some.injEq,Prod.mk.injEq]at hs
    obtain⟨rfl,rfl,rfl⟩:=hs
    exact⟨True,by rw[ha],trivial⟩
   ·cases hs
  ·cases hs
 ·simp only[A7]at hs ⊢
  split at hs
  ·rename_i ha
   split at hs
   ·rename_i cs hl
    split at hs
    ·simp only[Option.some.injEq,Prod.mk.injEq]at hs
     obtain⟨rfl,rfl,rfl⟩:=hs
     exact⟨_,by rw[ha];simp only[hl];rfl,hc⟩
    ·cases hs
   ·cases hs
  ·cases hs
 ·rename_i id0 s x i
  simp only[A7]at hs ⊢
  split at hs
  ·rename_i j off len cap k n e1 e2
   split at hs
   ·split at hs
    ·rename_i hl
     simp only[Option.some.injEq,Prod.mk.injEq]at hs
     obtain⟨rfl,rfl,rfl⟩:=hs
     exact⟨_,by rw[e1,e2];simp only[hl],hc⟩
    ·rename_i hl
     simp only[Option.some.injEq,Prod.mk.injEq]at hs
     obtain⟨rfl,rfl,rfl⟩:=hs
     exact⟨_,by rw[e1,e2];simp only[hl],hc⟩
    ·cases hs
   ·cases hs
  ·cases hs
 ·rename_i id0 f a x
  simp only[A7,Option.bind_eq_some_iff]at hs ⊢
  obtain⟨v,hv,hs⟩:=hs
  split at hs
  ·rename_i j i k ha
   split at hs
   ·rename_i hjk
    obtain⟨rfl,rfl⟩:=hjk
    split at hs
    ·rename_i ty s es hl
     simp only[Option.some.injEq,Prod.mk.injEq]at hs
     obtain⟨rfl,rfl,rfl⟩:=hs
     obtain⟨c1,c2,c3,c4⟩:=hc
     have hcell:=qCX c3
     have e:(if k=0/\1=s then v.cells else(es.getD i []).take k++v.cells++(es.getD i []).drop (k+1))=(es.getD i []).set k v:=by
      rw[hcell]
      split
      ·rename_i h0
       obtain⟨rfl,rfl⟩:=h0
       generalize es.getD i []=row at *
       match row,c4 with
       | [y],_=>rfl
      ·exact qBN (by omega)
     refine⟨i<es.length/\k+1<=s/\v.cells.length=1/\Aw v.cells=true,⟨v,hv,?_⟩,c1,c2,by rw[hcell];rfl,by rw[hcell];simp[Aw,c3]⟩
     simp only[ha,hl,e]
    ·cases hs
   ·cases hs
  ·cases hs
theorem P1 {io:B6} {d:Nat} {c:Prop} {r:AV} {st1:St} (hnt:∀ ty s b x,io ≠ .appT ty s b x) (hns:∀ id n a x,io ≠ .stR id n a x) (hnl:∀ id n g a,io ≠ .ldR id n g a) (hn4:∀ n g a,io ≠ .ldT n g a) (hn5:∀ kt zv ok m k,io ≠ .lkT kt zv ok m k) (hn6:q1R io=none) (h:B0 w0 B κ X μ st tm w) (hg:Gl Γ w X) (hchk:Iy P io o.op=true) (hok:io.opds.all A9=true) (hd:d<1000000) (hs:A7 Γ d io st=some (c,r,st1)) (hc:c):Ad P w0 B κ X o r st1 tm w ds:=by
 cases io with
 | mv x =>
  have hk:A9 x=true:=by simpa[B6.opds]using hok
  generalize hop:o.op=op at hchk
  simp only[A7,Option.map_eq_some_iff,Prod.mk.injEq]at hs
  obtain⟨a,ha,_,rfl,rfl⟩:=hs
  simp only[Iy]at hchk
  split at hchk
  ·have:=A8 hchk;subst this
   exact qK3 h hg (.inl hop) ha hk
  ·have:=A8 hchk;subst this
   exact qK3 h hg (.inr hop) ha hk
  ·cases hchk
 | pick c1 a b =>
  generalize hop:o.op=op at hchk
  simp only[Iy]at hchk
  split at hchk
  case h_2=>cases hchk
  simp only[Bool.and_eq_true]at hchk
  obtain⟨⟨h1,h2⟩,h3⟩:=hchk
  have:=A8 h1;subst this
  have:=A8 h2;subst this
  have:=A8 h3;subst this
  simp only[B6.opds,List.all_cons,Bool.and_eq_true]at hok
  simp only[A7]at hs
  split at hs
  ·rename_i p va vb e1 e2 e3
   simp only[Option.some.injEq,Prod.mk.injEq]at hs
   obtain⟨_,rfl,rfl⟩:=hs
   exact qHR h hg hop e1 e2 e3 hok.1 hok.2.1 hok.2.2.1
  ·cases hs
 | alloc fz zs =>
  generalize hop:o.op=op at hchk
  simp only[Iy]at hchk
  split at hchk
  case h_2=>cases hchk
  simp only[Bool.and_eq_true]at hchk
  obtain⟨h1,h2⟩:=hchk
  rename_i t
  have hz:Br P t=some zs:=by
   split at h1
   ·rename_i z hz;rw[hz,K3 h1]
   ·cases h1
  simp only[A7]at hs
  split at hs<;>simp only[Option.some.injEq,Prod.mk.injEq]at hs<;>obtain⟨rfl,rfl,rfl⟩:=hs
  ·exact q9v h hop hz h2
  ·exact qFM h hop hz h2 hc hd
 | allocR ty zs =>
  generalize hop:o.op=op at hchk
  simp only[Iy]at hchk
  split at hchk
  case h_2=>cases hchk
  simp only[Bool.and_eq_true,beq_iff_eq]at hchk
  obtain⟨⟨h1,h2⟩,h3⟩:=hchk
  rename_i t
  subst h3
  have hz:Br P t=some zs:=by
   split at h1
   ·rename_i z hz;rw[hz,K3 h1]
   ·cases h1
  simp only[A7,Option.some.injEq,Prod.mk.injEq]at hs
  obtain⟨rfl,rfl,rfl⟩:=hs
  exact qDF h hop hz h2 hc hd
 | box fz x =>
  have hk:A9 x=true:=by simpa[B6.opds]using hok
  generalize hop:o.op=op at hchk
  simp only[Iy]at hchk
  split at hchk
  case h_2=>cases hchk
  have:=A8 hchk;subst this
  simp only[A7,Option.bind_eq_some_iff]at hs
  obtain⟨a,ha,hs⟩:=hs
  split at hs
  ·simp only[Option.map_eq_some_iff,Prod.mk.injEq]at hs
   obtain⟨ts,hts,rfl,rfl,rfl⟩:=hs
   exact qDD h hg hop hk ha hts hc
  ·simp only[Option.some.injEq,Prod.mk.injEq]at hs
   obtain⟨rfl,rfl,rfl⟩:=hs
   exact qKB h hg hop hk ha hc.2 hc.1 hd
 | build qs =>
  generalize hop:o.op=op at hchk
  simp only[Iy]at hchk
  split at hchk
  case h_2=>cases hchk
  split at hchk
  ·rename_i fs zs hf hz
   simp only[A7,Option.map_eq_some_iff,Prod.mk.injEq]at hs
   obtain⟨as,ha,rfl,rfl,rfl⟩:=hs
   exact qFN h hg hop hok hf hz hchk ha hc.1 hc.2
  ·rename_i zs hf hz
   simp only[A7,Option.map_eq_some_iff,Prod.mk.injEq]at hs
   obtain⟨as,ha,rfl,rfl,rfl⟩:=hs
   simp only[Bool.or_eq_true,Bool.and_eq_true]at hchk
   rcases hchk with hchk|hchk
   ·exact q8U h hg hop hok hchk.1.1 hchk.1.2 hz hchk.2 ha hc.1 hc.2
   ·exact q7p h hg hop hok hchk hz ha hc.1 hc.2
  ·cases hchk
 | bsl fz ty s xs =>
  generalize hop:o.op=op at hchk
  simp only[Iy]at hchk
  split at hchk
  case h_2=>cases hchk
  rename_i t n ps
  simp only[Bool.and_eq_true,decide_eq_true_eq]at hchk
  obtain⟨⟨⟨⟨⟨⟨⟨h1,h2⟩,h3⟩,h4⟩,h5⟩,h6⟩,h7⟩,h8⟩:=hchk
  have h4:n=xs.length:=by simpa using h4
  obtain⟨zs,hz,hzl⟩:∃ zs,Br P ty=some zs/\zs.length=s:=by
   split at h8
   ·rename_i z hz;exact⟨z,hz,by simpa using h8⟩
   ·cases h8
  simp only[A7,Option.bind_eq_some_iff,Option.map_eq_some_iff]at hs
  obtain⟨as,ha,es,hes,hs⟩:=hs
  split at hs<;>simp only[Prod.mk.injEq]at hs<;>obtain⟨rfl,rfl,rfl⟩:=hs
  ·exact qDG h hg hop hok (D6 h1) (D6 h2) h4 h5 hz hzl h3 h7 ha hes hc
  ·exact qKC h hg hop hok (D6 h1) (D6 h2) h4 h5 hz hzl h3 h7 ha hes hc.2 hc.1 hd
 | bslA ty s xs =>
  generalize hop:o.op=op at hchk
  simp only[Iy]at hchk
  split at hchk
  case h_2=>cases hchk
  rename_i t n ps
  simp only[Bool.and_eq_true,decide_eq_true_eq]at hchk
  obtain⟨⟨⟨⟨⟨⟨⟨h1,h2⟩,h3⟩,h4⟩,h5⟩,h6⟩,h7⟩,h8⟩:=hchk
  have h4:n=xs.length:=by simpa using h4
  obtain⟨zs,hz,hzl⟩:∃ zs,Br P ty=some zs/\zs.length=s:=by
   split at h8
   ·rename_i z hz;exact⟨z,hz,by simpa using h8⟩
   ·cases h8
  simp only[A7,Option.map_eq_some_iff,Prod.mk.injEq]at hs
  obtain⟨as,ha,rfl,rfl,rfl⟩:=hs
  exact qHc h hg hop hok (D6 h1) (D6 h2) h4 h5 hz hzl h3 h7 ha hc.2 hc.1 hd
 | appS ty b x =>
  generalize hop:o.op=op' at hchk
  simp only[Iy]at hchk
  split at hchk
  case h_2=>cases hchk
  split at hchk
  case h_2=>cases hchk
  rename_i cc _ _ _ b' x' t u e1 e2 e3
  simp only[Bool.and_eq_true,decide_eq_true_eq]at hchk
  obtain⟨⟨⟨⟨⟨⟨h1,h2⟩,h3⟩,h4⟩,h5⟩,h7⟩,h8⟩:=hchk
  have:=A8 h1;subst this
  have:=A8 h2;subst this
  have hce:=J0 e1 e2 e3
  subst hce
  have hel:Cd P t ty 1 1:=by
   refine⟨D6 h4,D6 h5,Nat.one_pos,?_,?_⟩
   ·split at h7
    ·rename_i z hz;exact⟨z,hz,by simpa using h7⟩
    ·cases h7
   ·split at h8
    ·rename_i n hn;exact⟨n,hn,by simpa using h8⟩
    ·cases h8
  simp only[B6.opds,List.all_cons,Bool.and_eq_true]at hok
  simp only[A7]at hs
  split at hs
  ·rename_i s0 id len hx hb
   split at hs
   ·rename_i t2 q es hl
    simp only[Option.some.injEq,Prod.mk.injEq]at hs
    obtain⟨rfl,rfl,rfl⟩:=hs
    obtain⟨rfl,rfl,c1,c2,c3⟩:=hc
    exact qHe hel h3 h hg hop hok.1 hok.2.1 hx c1 hb hl c2 c3 hd
   ·cases hs
  ·rename_i s0 nl hx hb
   simp only[Option.some.injEq,Prod.mk.injEq]at hs
   obtain⟨rfl,rfl,rfl⟩:=hs
   obtain⟨c1,c2,c3⟩:=hc
   exact qFS hel h3 h hg hop hok.1 hok.2.1 hx c1 hb c2 c3 hd
  ·cases hs
 | appA ty s b x =>
  generalize hop:o.op=op' at hchk
  simp only[Iy]at hchk
  split at hchk
  case h_2=>cases hchk
  split at hchk
  case h_2=>cases hchk
  rename_i cc _ _ _ b' x' t t' e1 e2 e3
  simp only[Bool.and_eq_true,decide_eq_true_eq]at hchk
  obtain⟨⟨⟨⟨⟨⟨⟨h1,h2⟩,h3⟩,h4⟩,h5⟩,h6⟩,h7⟩,h8⟩:=hchk
  have:=A8 h1;subst this
  have:=A8 h2;subst this
  have:t=t':=by simpa using h3
  subst this
  have hce:=J0 e1 e2 e3
  subst hce
  have hel:Cd P t ty s:=by
   refine⟨D6 h4,D6 h5,h6,?_,?_⟩
   ·split at h7
    ·rename_i z hz;exact⟨z,hz,by simpa using h7⟩
    ·cases h7
   ·split at h8
    ·rename_i n hn;exact⟨n,hn,by simpa using h8⟩
    ·cases h8
  simp only[B6.opds,List.all_cons,Bool.and_eq_true]at hok
  simp only[A7]at hs
  split at hs
  case h_2=>cases hs
  rename_i ix n id len hax ha
  split at hs
  case h_2=>cases hs
  rename_i tx q news t2 q' es hlx hl
  simp only[Option.some.injEq,Prod.mk.injEq]at hs
  obtain⟨rfl,rfl,rfl⟩:=hs
  obtain⟨rfl,cn,cne,rfl,rfl,cb,cd⟩:=hc
  exact qHd (d:=d) hel h hg hop hok.1 hok.2.1 hax hlx cn cne ha hl cb cd hd
 | load n g a =>
  have hk:A9 a=true:=by simpa[B6.opds]using hok
  generalize hop:o.op=op at hchk
  simp only[Iy]at hchk
  split at hchk
  case h_2=>cases hchk
  simp only[Bool.and_eq_true]at hchk
  obtain⟨⟨⟨h1,h2⟩,h3⟩,h4⟩:=hchk
  have:=A8 h1;subst this
  simp only[A7]at hs
  split at hs
  ·rename_i cs k e1
   simp only[Option.some.injEq,Prod.mk.injEq]at hs
   obtain⟨rfl,rfl,rfl⟩:=hs
   exact qCL h hg hop e1 hk (D6 h2) (D6 h3) h4 hc
  ·rename_i id i k e1
   split at hs
   ·rename_i ty s es hl
    simp only[Option.some.injEq,Prod.mk.injEq]at hs
    obtain⟨rfl,rfl,rfl⟩:=hs
    exact qCN h hg hop e1 hk (D6 h2) (D6 h3) h4 hl hc.1 hc.2
   ·rename_i ty s es hl
    simp only[Option.some.injEq,Prod.mk.injEq]at hs
    obtain⟨rfl,rfl,rfl⟩:=hs
    exact q6q h hg hop e1 hk (D6 h2) (D6 h3) h4 hl rfl (h.reg _ _ hl) hc.1 hc.2
   ·rename_i cs hl
    simp only[Option.some.injEq,Prod.mk.injEq]at hs
    obtain⟨rfl,rfl,rfl⟩:=hs
    exact qCM h hg hop e1 hk (D6 h2) (D6 h3) h4 hl hc.2
   ·cases hs
  ·cases hs
 | store n a x =>
  generalize hop:o.op=op at hchk
  simp only[Iy]at hchk
  split at hchk
  case h_2=>cases hchk
  simp only[Bool.and_eq_true]at hchk
  obtain⟨⟨h1,h2⟩,h3⟩:=hchk
  have:=A8 h1;subst this
  have:=A8 h2;subst this
  simp only[B6.opds,List.all_cons,Bool.and_eq_true]at hok
  simp only[A7,Option.bind_eq_some_iff]at hs
  obtain⟨v,hv,hs⟩:=hs
  split at hs
  ·rename_i id i k e1
   split at hs
   ·rename_i ty s es hl
    simp only[Option.map_eq_some_iff,Prod.mk.injEq]at hs
    obtain⟨ts,hts,rfl,rfl,rfl⟩:=hs
    obtain⟨c1,c2,c3,c4⟩:=hc
    exact q9y h hg hop hok.1 hok.2.1 (D6 h3) e1 hv hl c1 c2 hts c3 c4
   ·rename_i ty s es hl
    simp only[Option.some.injEq,Prod.mk.injEq]at hs
    obtain⟨rfl,rfl,rfl⟩:=hs
    obtain⟨c1,c2,c3,c4⟩:=hc
    exact q9z h hg hop hok.1 hok.2.1 (D6 h3) e1 hv hl c1 c2 c3 c4
   ·rename_i cs hl
    simp only[Option.some.injEq,Prod.mk.injEq]at hs
    obtain⟨rfl,rfl,rfl⟩:=hs
    obtain⟨rfl,c2,c3,c4⟩:=hc
    exact q9x h hg hop hok.1 hok.2.1 (D6 h3) e1 hv hl c2 c3 c4 (.inr trivial)
   ·cases hs
  ·cases hs
 | fadr off a =>
  have hk:A9 a=true:=by simpa[B6.opds]using hok
  generalize hop:o.op=op at hchk
  simp only[Iy]at hchk
  split at hchk
  case h_2=>cases hchk
  simp only[Bool.and_eq_true]at hchk
  obtain⟨h1,h2⟩:=hchk
  have:=A8 h1;subst this
  split at h2
  case h_2=>cases h2
  rename_i fs hu
  split at h2
  case h_2=>cases h2
  rename_i f hf
  simp only[Bool.and_eq_true,beq_iff_eq]at h2
  obtain⟨h3,h4⟩:=h2
  obtain⟨s,hz,hp⟩:∃ s,Ic P f.type=some s/\0<s:=by
   split at h4
   ·rename_i s hz;exact⟨s,hz,by simpa using h4⟩
   ·cases h4
  simp only[A7]at hs
  split at hs
  ·rename_i cs k e1
   simp only[Option.some.injEq,Prod.mk.injEq]at hs
   obtain⟨_,rfl,rfl⟩:=hs
   exact qHS h hg hop hk hu hf h3 hz hp e1
  ·rename_i id j k e1
   simp only[Option.some.injEq,Prod.mk.injEq]at hs
   obtain⟨_,rfl,rfl⟩:=hs
   exact qCO h hg hop hk hu hf h3 hz hp e1
  ·cases hs
 | fld off n g x =>
  have hk:A9 x=true:=by simpa[B6.opds]using hok
  generalize hop:o.op=op at hchk
  simp only[Iy]at hchk
  split at hchk
  case h_2=>cases hchk
  simp only[Bool.and_eq_true]at hchk
  obtain⟨h1,h2⟩:=hchk
  have:=A8 h1;subst this
  split at h2
  case h_2=>cases h2
  rename_i fs hu
  split at h2
  case h_2=>cases h2
  rename_i f hf
  simp only[Bool.and_eq_true]at h2
  obtain⟨⟨⟨h3,h4⟩,h5⟩,h6⟩:=h2
  simp only[A7,Option.bind_eq_some_iff]at hs
  obtain⟨a,ha,hs⟩:=hs
  split at hs
  ·simp only[Option.some.injEq,Prod.mk.injEq]at hs
   obtain⟨rfl,rfl,rfl⟩:=hs
   exact qDA h hg hop hk hu hf (by simpa using h3) (D6 h4) (D6 h5) h6 ha hc
  ·simp only[Option.some.injEq,Prod.mk.injEq]at hs
   obtain⟨rfl,rfl,rfl⟩:=hs
   exact qFL h hg hop hk hu hf (by simpa using h3) (D6 h4) (D6 h5) h6 ha hc
  ·cases hs
 | iadr s x i =>
  generalize hop:o.op=op at hchk
  simp only[Iy]at hchk
  split at hchk
  case h_2=>cases hchk
  simp only[Bool.and_eq_true]at hchk
  obtain⟨⟨h1,h2⟩,h3⟩:=hchk
  have:=A8 h1;subst this
  have:=A8 h2;subst this
  simp only[B6.opds,List.all_cons,Bool.and_eq_true]at hok
  split at h3
  case h_2=>cases h3
  rename_i e he
  simp only[A7]at hs
  split at hs
  ·rename_i es cap nl k n e1 e2
   simp only[Option.some.injEq,Prod.mk.injEq]at hs
   obtain⟨rfl,rfl,rfl⟩:=hs
   exact qDB h hg hop hok.1 hok.2.1 he (D6 h3) e1 e2 hc.1 hc.2.1 hc.2.2
  ·rename_i id off len cap k n e1 e2
   split at hs
   ·rename_i ty q es hl
    simp only[Option.some.injEq,Prod.mk.injEq]at hs
    obtain⟨rfl,rfl,rfl⟩:=hs
    exact q6s h hg hop hok.1 hok.2.1 he (D6 h3) e1 (By hl) hc.1 e2 hc.2.1 hc.2.2
   ·rename_i ty q es hl
    simp only[Option.some.injEq,Prod.mk.injEq]at hs
    obtain⟨rfl,rfl,rfl⟩:=hs
    exact q6s h hg hop hok.1 hok.2.1 he (D6 h3) e1 (By hl) hc.1 e2 hc.2.1 hc.2.2
   ·cases hs
  ·rename_i id m k n e1 e2
   split at hs
   ·rename_i cs hl
    simp only[Option.some.injEq,Prod.mk.injEq]at hs
    obtain⟨rfl,rfl,rfl⟩:=hs
    exact qCS h hg hop hok.1 hok.2.1 he (D6 h3) e1 hl hc.1 e2 hc.2.1 hc.2.2
   ·cases hs
  ·cases hs
 | iadT s x i =>
  generalize hop:o.op=op at hchk
  simp only[Iy]at hchk
  split at hchk
  case h_2=>cases hchk
  simp only[Bool.and_eq_true]at hchk
  obtain⟨⟨h1,h2⟩,h3⟩:=hchk
  have:=A8 h1;subst this
  have:=A8 h2;subst this
  simp only[B6.opds,List.all_cons,Bool.and_eq_true]at hok
  split at h3
  case h_2=>cases h3
  rename_i e he
  simp only[A7]at hs
  split at hs
  ·rename_i es cap nl k n e1 e2
   simp only[Option.some.injEq,Prod.mk.injEq]at hs
   obtain⟨rfl,rfl,rfl⟩:=hs
   exact qDB h hg hop hok.1 hok.2.1 he (D6 h3) e1 e2 hc.1 hc.2.1 hc.2.2
  ·cases hs
 | iadrA len s x i =>
  generalize hop:o.op=op at hchk
  simp only[Iy]at hchk
  split at hchk
  case h_2=>cases hchk
  simp only[Bool.and_eq_true]at hchk
  obtain⟨⟨h1,h2⟩,h3⟩:=hchk
  have:=A8 h1;subst this
  have:=A8 h2;subst this
  simp only[B6.opds,List.all_cons,Bool.and_eq_true]at hok
  split at h3
  case h_2=>cases h3
  rename_i n e he
  simp only[Bool.and_eq_true]at h3
  obtain⟨h4,h3⟩:=h3
  have:n=len:=by simpa using h4
  subst this
  simp only[A7]at hs
  split at hs
  ·rename_i cs k kk n e1 e2
   simp only[Option.some.injEq,Prod.mk.injEq]at hs
   obtain⟨rfl,rfl,rfl⟩:=hs
   exact q9r h hg hop hok.1 hok.2.1 he (D6 h3) e1 e2 hc.1 hc.2
  ·rename_i id jj k kk n e1 e2
   simp only[Option.some.injEq,Prod.mk.injEq]at hs
   obtain⟨rfl,rfl,rfl⟩:=hs
   exact q9s h hg hop hok.1 hok.2.1 he (D6 h3) e1 e2 hc.1 hc.2
  ·cases hs
 | idxS x i =>
  generalize hop:o.op=op at hchk
  simp only[Iy]at hchk
  split at hchk
  case h_2=>cases hchk
  simp only[Bool.and_eq_true]at hchk
  obtain⟨⟨h1,h2⟩,h3⟩:=hchk
  have:=A8 h1;subst this
  have:=A8 h2;subst this
  simp only[B6.opds,List.all_cons,Bool.and_eq_true]at hok
  simp only[A7]at hs
  split at hs
  ·rename_i s k n e1 e2
   simp only[Option.some.injEq,Prod.mk.injEq]at hs
   obtain⟨rfl,rfl,rfl⟩:=hs
   exact qHT h hg hop hok.1 hok.2.1 h3 e1 e2 hc.1 hc.2
  ·cases hs
 | idxA len s g x i =>
  generalize hop:o.op=op at hchk
  simp only[Iy]at hchk
  split at hchk
  case h_2=>cases hchk
  simp only[Bool.and_eq_true]at hchk
  obtain⟨⟨h1,h2⟩,h3⟩:=hchk
  have:=A8 h1;subst this
  have:=A8 h2;subst this
  simp only[B6.opds,List.all_cons,Bool.and_eq_true]at hok
  split at h3
  case h_2=>cases h3
  rename_i n e he
  simp only[Bool.and_eq_true]at h3
  obtain⟨⟨⟨h4,h5⟩,h6⟩,h7⟩:=h3
  have:n=len:=by simpa using h4
  subst this
  simp only[A7]at hs
  split at hs
  ·rename_i ts k nn e1 e2
   simp only[Option.some.injEq,Prod.mk.injEq]at hs
   obtain⟨rfl,rfl,rfl⟩:=hs
   exact qDC h hg hop hok.1 hok.2.1 he (D6 h5) (D6 h6) h7 e1 e2 hc.1 hc.2.1 hc.2.2
  ·rename_i cs k nn e1 e2
   simp only[Option.some.injEq,Prod.mk.injEq]at hs
   obtain⟨rfl,rfl,rfl⟩:=hs
   exact qCP h hg hop hok.1 hok.2.1 he (D6 h5) (D6 h6) h7 e1 e2 hc.1 hc.2.1 hc.2.2
  ·cases hs
 | bin op x y =>
  generalize hop:o.op=op' at hchk
  simp only[Iy]at hchk
  split at hchk
  case h_2=>cases hchk
  simp only[Bool.and_eq_true,decide_eq_true_eq]at hchk
  obtain⟨⟨rfl,h1⟩,h2⟩:=hchk
  have:=A8 h1;subst this
  have:=A8 h2;subst this
  simp only[B6.opds,List.all_cons,Bool.and_eq_true]at hok
  simp only[A7]at hs
  split at hs
  ·rename_i a b e1 e2
   simp only[Option.map_eq_some_iff,Prod.mk.injEq]at hs
   obtain⟨⟨c',r'⟩,hb,rfl,rfl,rfl⟩:=hs
   exact qK4 h hg hop e1 e2 hok.1 hok.2.1 hb hc
  ·cases hs
 | isNil pos x =>
  have hk:A9 x=true:=by simpa[B6.opds]using hok
  generalize hop:o.op=op' at hchk
  simp only[Iy]at hchk
  split at hchk
  case h_2=>cases hchk
  simp only[Bool.and_eq_true,decide_eq_true_eq,Bool.or_eq_true,Option.isSome_iff_exists]at hchk
  obtain⟨⟨rfl,e,he⟩,hpq⟩:=hchk
  rename_i t p q u
  have hpq':(p=x/\q=.const (.slice none 0 0))\/(q=x/\p=.const (.slice none 0 0)):=by
   rcases hpq with⟨h1,h2⟩|⟨h1,h2⟩
   ·exact .inl ⟨(A8 h1).symm,(A8 h2).symm⟩
   ·exact .inr ⟨(A8 h1).symm,(A8 h2).symm⟩
  simp only[A7]at hs
  split at hs
  ·rename_i es cap nl e1
   split at hs
   ·rename_i b
    simp only[Option.some.injEq,Prod.mk.injEq]at hs
    obtain⟨_,rfl,rfl⟩:=hs
    exact qBJ h hg hop hpq' hk he e1 (.inl ⟨b,rfl,rfl⟩)
   ·simp only[Option.some.injEq,Prod.mk.injEq]at hs
    obtain⟨rfl,rfl,rfl⟩:=hs
    exact qBJ h hg hop hpq' hk he e1 (.inr ⟨hc,rfl⟩)
  ·cases hs
 | eqg pos ks x y =>
  generalize hop:o.op=op' at hchk
  simp only[Iy]at hchk
  split at hchk
  case h_2=>cases hchk
  simp only[Bool.and_eq_true,decide_eq_true_eq,Bool.not_eq_true']at hchk
  obtain⟨⟨⟨⟨⟨⟨rfl,h0⟩,h1⟩,h2⟩,h3⟩,h4⟩,h5⟩:=hchk
  have:=A8 h4;subst this
  have:=A8 h5;subst this
  simp only[B6.opds,List.all_cons,Bool.and_eq_true]at hok
  simp only[A7,Option.bind_eq_some_iff,Option.map_eq_some_iff,Prod.mk.injEq]at hs
  obtain⟨as,⟨a,e1,f1⟩,bs,⟨b,e2,f2⟩,rfl,rfl,rfl⟩:=hs
  exact qKJ h hg hop h0 h1 h2 h3 hok.1 hok.2.1 e1 e2 f1 f2 hc.1 hc.2
 | eqb pos x y =>
  generalize hop:o.op=op' at hchk
  simp only[Iy]at hchk
  split at hchk
  case h_2=>cases hchk
  simp only[Bool.and_eq_true,decide_eq_true_eq]at hchk
  obtain⟨⟨⟨rfl,h0⟩,h1⟩,h2⟩:=hchk
  have:=A8 h1;subst this
  have:=A8 h2;subst this
  simp only[B6.opds,List.all_cons,Bool.and_eq_true]at hok
  split at h0
  case h_2=>cases h0
  rename_i hu
  simp only[A7]at hs
  split at hs
  ·rename_i a b e1 e2
   simp only[Option.some.injEq,Prod.mk.injEq]at hs
   obtain⟨_,rfl,rfl⟩:=hs
   exact qK7 h hg hop hu hok.1 hok.2.1 e1 e2
  ·cases hs
 | un op x =>
  have hk:A9 x=true:=by simpa[B6.opds]using hok
  generalize hop:o.op=op' at hchk
  simp only[Iy]at hchk
  split at hchk
  case h_2=>cases hchk
  simp only[Bool.and_eq_true,decide_eq_true_eq]at hchk
  obtain⟨rfl,h1⟩:=hchk
  have:=A8 h1;subst this
  simp only[A7]at hs
  split at hs
  ·rename_i a e1
   simp only[Option.map_eq_some_iff,Prod.mk.injEq]at hs
   obtain⟨r',hb,_,rfl,rfl⟩:=hs
   exact qME h hg hop e1 hk hb
  ·cases hs
 | conv k x =>
  have hk:A9 x=true:=by simpa[B6.opds]using hok
  generalize hop:o.op=op' at hchk
  simp only[Iy]at hchk
  split at hchk
  case h_2=>cases hchk
  simp only[Bool.and_eq_true]at hchk
  obtain⟨⟨h1,h2⟩,h3⟩:=hchk
  have:=A8 h1;subst this
  simp only[A7]at hs
  split at hs
  ·rename_i k' n e1
   simp only[Option.some.injEq,Prod.mk.injEq]at hs
   obtain⟨_,rfl,rfl⟩:=hs
   exact qHU h hg hop e1 hk h2 (D6 h3)
  ·cases hs
 | bytesStr x =>
  have hk:A9 x=true:=by simpa[B6.opds]using hok
  generalize hop:o.op=op' at hchk
  simp only[Iy]at hchk
  split at hchk
  case h_2=>cases hchk
  simp only[Bool.and_eq_true]at hchk
  obtain⟨⟨h1,h2⟩,h3⟩:=hchk
  have:=A8 h1;subst this
  split at h2
  case h_2=>cases h2
  rename_i e he
  simp only[A7,Option.bind_eq_some_iff,Option.map_eq_some_iff,Prod.mk.injEq]at hs
  obtain⟨es,⟨a,ha,hes⟩,bs,hb,_,rfl,rfl⟩:=hs
  exact qA5 h hg hop hk he (D6 h2) h3 ha hes hb
 | runeStr x =>
  have hk:A9 x=true:=by simpa[B6.opds]using hok
  generalize hop:o.op=op' at hchk
  simp only[Iy]at hchk
  split at hchk
  case h_2=>cases hchk
  simp only[Bool.and_eq_true,Option.isSome_iff_exists]at hchk
  obtain⟨⟨h1,k,h2⟩,h3⟩:=hchk
  have:=A8 h1;subst this
  simp only[A7]at hs
  split at hs
  ·rename_i k' n e1
   simp only[Option.some.injEq,Prod.mk.injEq]at hs
   obtain⟨_,rfl,rfl⟩:=hs
   exact qHV h hg hop e1 hk h2 h3
  ·cases hs
 | len k x=>exact qCW h hg hchk (by simpa[B6.opds]using hok) hs hc
 | cap x =>
  have hk:A9 x=true:=by simpa[B6.opds]using hok
  generalize hop:o.op=op' at hchk
  simp only[Iy]at hchk
  split at hchk
  case h_2=>cases hchk
  split at hchk
  case h_2=>cases hchk
  rename_i cc _ _ _ y t e1 e2 e3
  simp only[Bool.and_eq_true,Option.isSome_iff_exists]at hchk
  obtain⟨h1,e,he⟩:=hchk
  have:=A8 h1;subst this
  have hce:=J0 e1 e2 e3
  subst hce
  simp only[A7]at hs
  split at hs
  ·rename_i es cc nl e4
   simp only[Option.some.injEq,Prod.mk.injEq]at hs
   obtain⟨_,rfl,rfl⟩:=hs
   exact qGb h hg hop hk he e4 (.inl ⟨es,nl,rfl⟩)
  ·rename_i id off len cc e4
   simp only[Option.some.injEq,Prod.mk.injEq]at hs
   obtain⟨_,rfl,rfl⟩:=hs
   exact qGb h hg hop hk he e4 (.inr ⟨id,off,len,rfl⟩)
  ·cases hs
 | mmx mx xs =>
  generalize hop:o.op=op' at hchk
  simp only[Iy]at hchk
  split at hchk
  case h_2=>cases hchk
  rename_i cc
  simp only[A7,Option.bind_eq_some_iff,Option.map_eq_some_iff,Prod.mk.injEq]at hs
  obtain⟨as,ha,r',hr,rfl,rfl,rfl⟩:=hs
  split at hchk
  ·rename_i e1
   simp only[Bool.and_eq_true]at hchk
   obtain⟨rfl,h1⟩:=hchk
   have:=Ib h1;subst this
   have hce:=J0 (ts:=cc.argTypes.toList) e1 rfl rfl
   rw[hce]at hop
   exact qK9 h hg hop hok ha hr hc
  ·rename_i e1
   simp only[Bool.and_eq_true,Bool.not_eq_true']at hchk
   obtain⟨rfl,h1⟩:=hchk
   have:=Ib h1;subst this
   have hce:=J0 (ts:=cc.argTypes.toList) e1 rfl rfl
   rw[hce]at hop
   exact qK8 h hg hop hok ha hr hc
  ·cases hchk
 | app fz ty s b x =>
  generalize hop:o.op=op' at hchk
  simp only[Iy]at hchk
  split at hchk
  case h_2=>cases hchk
  split at hchk
  case h_2=>cases hchk
  rename_i cc _ _ _ b' x' t t' e1 e2 e3
  simp only[Bool.and_eq_true,decide_eq_true_eq]at hchk
  obtain⟨⟨⟨⟨⟨⟨⟨h1,h2⟩,h3⟩,h4⟩,h5⟩,h6⟩,h7⟩,h8⟩:=hchk
  have:=A8 h1;subst this
  have:=A8 h2;subst this
  have:t=t':=by simpa using h3
  subst this
  have hce:=J0 e1 e2 e3
  subst hce
  have hel:Cd P t ty s:=by
   refine⟨D6 h4,D6 h5,h6,?_,?_⟩
   ·split at h7
    ·rename_i z hz;exact⟨z,hz,by simpa using h7⟩
    ·cases h7
   ·split at h8
    ·rename_i n hn;exact⟨n,hn,by simpa using h8⟩
    ·cases h8
  simp only[B6.opds,List.all_cons,Bool.and_eq_true]at hok
  simp only[A7,Option.bind_eq_some_iff]at hs
  obtain⟨news,⟨ax,hax,hnews⟩,a,ha,hs⟩:=hs
  split at hs
  ·rename_i es c1 nl
   split at hs<;>simp only[Option.some.injEq,Prod.mk.injEq]at hs<;>obtain⟨rfl,rfl,rfl⟩:=hs
   ·rename_i hfz
    obtain⟨cw,cw2,cc,cb,cz⟩:=hc
    exact(q4z (d:=d) hel h hg hop hok.1 hok.2.1 hax hnews cw ha cw2 cc cb cz).1 hfz
   ·rename_i hfz
    obtain⟨⟨cw,cw2,cc,cb,cz⟩,cd⟩:=hc
    exact(q4z (d:=d) hel h hg hop hok.1 hok.2.1 hax hnews cw ha cw2 cc cb cz).2 (by simpa using hfz) cd hd
  ·rename_i id off len c1
   split at hs
   case h_2=>cases hs
   rename_i ty2 q es hl
   split at hs<;>simp only[Option.some.injEq,Prod.mk.injEq]at hs<;>obtain⟨rfl,rfl,rfl⟩:=hs
   ·obtain⟨cw,rfl,rfl,cc,cb,cz⟩:=hc
    exact(q6w (d:=d) hel h hg hop hok.1 hok.2.1 hax hnews cw ha hl cc cb cz).1
   ·obtain⟨⟨cw,rfl,rfl,cc,cb,cz⟩,cd⟩:=hc
    exact(q6w (d:=d) hel h hg hop hok.1 hok.2.1 hax hnews cw ha hl cc cb cz).2 cd hd
  ·rename_i id len
   split at hs
   case h_2=>cases hs
   rename_i ty2 q es hl
   split at hs<;>simp only[Option.some.injEq,Prod.mk.injEq]at hs<;>obtain⟨rfl,rfl,rfl⟩:=hs
   ·obtain⟨cw,rfl,rfl,cb⟩:=hc
    exact(q8Y (d:=d) hel h hg hop hok.1 hok.2.1 hax hnews cw ha hl cb).1
   ·obtain⟨⟨cw,rfl,rfl,cb⟩,cd⟩:=hc
    exact(q8Y (d:=d) hel h hg hop hok.1 hok.2.1 hax hnews cw ha hl cb).2 cd hd
  ·cases hs
 | appN ty s x =>
  generalize hop:o.op=op' at hchk
  simp only[Iy]at hchk
  split at hchk
  case h_2=>cases hchk
  split at hchk
  case h_2=>cases hchk
  rename_i cc _ _ _ b' x' t t' e1 e2 e3
  simp only[Bool.and_eq_true,decide_eq_true_eq]at hchk
  obtain⟨⟨⟨⟨⟨⟨⟨h1,h2⟩,h3⟩,h4⟩,h5⟩,h6⟩,h7⟩,h8⟩:=hchk
  have:=A8 h1;subst this
  have:=A8 h2;subst this
  have:t=t':=by simpa using h3
  subst this
  have hce:=J0 e1 e2 e3
  subst hce
  have hel:Cd P t ty s:=by
   refine⟨D6 h4,D6 h5,h6,?_,?_⟩
   ·split at h7
    ·rename_i z hz;exact⟨z,hz,by simpa using h7⟩
    ·cases h7
   ·split at h8
    ·rename_i n hn;exact⟨n,hn,by simpa using h8⟩
    ·cases h8
  have hk:A9 x=true:=by simpa[B6.opds]using hok
  simp only[A7]at hs
  split at hs
  case h_2=>cases hs
  rename_i es c1 nl e4
  simp only[Option.some.injEq,Prod.mk.injEq]at hs
  obtain⟨rfl,rfl,rfl⟩:=hs
  obtain⟨cd,cw,cb⟩:=hc
  exact(q4z (d:=d) (fz:=false) hel h hg hop rfl hk e4 rfl cw (show ev Γ st.env (.const (.slice none 0 0))=some (.t (.sl [] (some 0) (some true))) from rfl) (fun e he=>by cases he) rfl (by simpa using cb) (.inr (.inr rfl))).2 rfl cd hd
 | appB b x =>
  generalize hop:o.op=op' at hchk
  simp only[Iy]at hchk
  split at hchk
  case h_2=>cases hchk
  split at hchk
  case h_2=>cases hchk
  rename_i cc _ _ _ b' x' t t' e1 e2 e3
  simp only[Bool.and_eq_true]at hchk
  obtain⟨⟨⟨h1,h2⟩,h3⟩,h4⟩:=hchk
  have:=A8 h1;subst this
  have:=A8 h2;subst this
  have:t=t':=by simpa using h3
  subst this
  have hce:=J0 e1 e2 e3
  subst hce
  split at h4
  case h_2=>cases h4
  rename_i ty hty
  simp only[Bool.and_eq_true]at h4
  obtain⟨⟨h5,h7⟩,h8⟩:=h4
  have hel:Cd P t ty 1 1:=by
   refine⟨hty,D6 h5,Nat.one_pos,?_,?_⟩
   ·split at h7
    ·rename_i z hz;exact⟨z,hz,by simpa using h7⟩
    ·cases h7
   ·split at h8
    ·rename_i n hn;exact⟨n,hn,by simpa using h8⟩
    ·cases h8
  simp only[B6.opds,List.all_cons,Bool.and_eq_true]at hok
  simp only[A7,Option.bind_eq_some_iff]at hs
  obtain⟨news,⟨ax,hax,hnews⟩,hs⟩:=hs
  split at hs
  ·rename_i es q nl hb
   simp only[Option.some.injEq,Prod.mk.injEq]at hs
   obtain⟨rfl,rfl,rfl⟩:=hs
   obtain⟨cw,cw2,cc,cb⟩:=hc
   exact qHY hel h hg hop hok.1 hok.2.1 hax hnews cw hb cw2 cc cb
  ·cases hs
 | appR fz ii ty b x =>
  generalize hop:o.op=op' at hchk
  simp only[Iy]at hchk
  split at hchk
  case h_2=>cases hchk
  split at hchk
  case h_2=>cases hchk
  rename_i cc _ _ _ b' x' t t' e1 e2 e3
  simp only[Bool.and_eq_true]at hchk
  obtain⟨⟨⟨⟨⟨⟨h1,h2⟩,h3⟩,h4⟩,h5⟩,h7⟩,h8⟩:=hchk
  have:=A8 h1;subst this
  have:=A8 h2;subst this
  have:t=t':=by simpa using h3
  subst this
  have hce:=J0 e1 e2 e3
  subst hce
  have hel:Cd P t ty 1 1:=by
   refine⟨D6 h4,D6 h5,Nat.one_pos,?_,?_⟩
   ·split at h7
    ·rename_i z hz;exact⟨z,hz,by simpa using h7⟩
    ·cases h7
   ·split at h8
    ·rename_i n hn;exact⟨n,hn,by simpa using h8⟩
    ·cases h8
  simp only[B6.opds,List.all_cons,Bool.and_eq_true]at hok
  simp only[A7]at hs
  split at hs
  case h_2=>cases hs
  rename_i news _ _ id len hax hb
  split at hs
  case h_2=>cases hs
  rename_i t0 q es hl
  cases fz with
  | true =>
   simp only[if_true,Option.some.injEq,Prod.mk.injEq]at hs
   obtain⟨rfl,rfl,rfl⟩:=hs
   obtain⟨rfl,cw,rfl,rfl,cb⟩:=hc
   exact(q34 (d:=d) hel h hg hop hok.1 hok.2.1 hax rfl cw hb hl (by omega) (by unfold maxLen;omega)).1
  | false =>
   simp only[Bool.false_eq_true,if_false,Option.some.injEq,Prod.mk.injEq]at hs
   obtain⟨rfl,rfl,rfl⟩:=hs
   obtain⟨⟨rfl,cw,rfl,rfl,cb⟩,hd0⟩:=hc
   exact(q34 hel h hg hop hok.1 hok.2.1 hax rfl cw hb hl (by omega) (by unfold maxLen;omega)).2 hd0 hd
 | appZ ty s zs b n =>
  generalize hop:o.op=op' at hchk
  simp only[Iy]at hchk
  split at hchk
  case h_2=>cases hchk
  split at hchk
  case h_2=>cases hchk
  rename_i cc _ _ _ b' n' t t' e1 e2 e3
  simp only[Bool.and_eq_true,decide_eq_true_eq]at hchk
  obtain⟨⟨⟨⟨⟨⟨⟨⟨h1,h2⟩,h3⟩,h4⟩,h5⟩,h6⟩,h7⟩,h8⟩,h9⟩:=hchk
  have:=A8 h1;subst this
  have:=A8 h2;subst this
  have hce:=J0 e1 e2 e3
  subst hce
  simp only[B6.opds,List.all_cons,Bool.and_eq_true]at hok
  obtain⟨hz,hzl⟩:Br P ty=some zs/\zs.length=s:=by
   split at h6
   ·rename_i z hz
    simp only[Bool.and_eq_true]at h6
    have:=K3 h6.1;subst this
    exact⟨hz,by simpa using h6.2⟩
   ·cases h6
  have hel:Cd P t ty s:=by
   refine⟨D6 h3,D6 h4,h5,⟨zs,hz,hzl⟩,?_⟩
   split at h8
   ·rename_i n hn;exact⟨n,hn,by simpa using h8⟩
   ·cases h8
  obtain⟨ki,hki⟩:=Option.isSome_iff_exists.1 h9
  simp only[A7]at hs
  split at hs
  ·rename_i es q nl k m f1 f2
   simp only[Option.some.injEq,Prod.mk.injEq]at hs
   obtain⟨rfl,rfl,rfl⟩:=hs
   exact qHZ hel hz h7 hki h hg hop hok.1 hok.2.1 f1 f2 hc.2.1 hc.2.2.1.1 hc.2.2.1.2 hc.2.2.2 hc.1 hd
  ·cases hs
 | clr s zs x =>
  generalize hop:o.op=op' at hchk
  simp only[Iy]at hchk
  split at hchk
  case h_2=>cases hchk
  split at hchk
  case h_2=>cases hchk
  rename_i cc _ _ _ x' t e1 e2 e3
  simp only[Bool.and_eq_true,decide_eq_true_eq]at hchk
  obtain⟨⟨⟨h1,h2⟩,h3⟩,h4⟩:=hchk
  have:=A8 h1;subst this
  have hce:=J0 e1 e2 e3
  subst hce
  have hk:A9 x=true:=by simpa[B6.opds]using hok
  split at h2
  case h_2=>cases h2
  rename_i ty hty
  simp only[Bool.and_eq_true]at h2
  obtain⟨h5,h6⟩:=h2
  split at h6
  case h_2=>cases h6
  rename_i z hz
  simp only[Bool.and_eq_true]at h6
  have hzz:=K3 h6.1
  subst hzz
  simp only[A7]at hs
  split at hs
  case h_2=>cases hs
  rename_i id off len cap f1
  split at hs
  case h_2=>cases hs
  rename_i ty2 q es f2
  simp only[Option.some.injEq,Prod.mk.injEq]at hs
  obtain⟨rfl,rfl,rfl⟩:=hs
  subst hc
  exact qKK hty (D6 h5) h3 hz (by simpa using h6.2) h4 h hg hop hk f1 f2
 | cpy s x y =>
  generalize hop:o.op=op' at hchk
  simp only[Iy]at hchk
  split at hchk
  case h_2=>cases hchk
  split at hchk
  case h_2=>cases hchk
  rename_i cc _ _ _ x' y' t t' e1 e2 e3
  simp only[Bool.and_eq_true,decide_eq_true_eq]at hchk
  obtain⟨⟨⟨h1,h2⟩,h3⟩,h4⟩:=hchk
  have:=A8 h1;subst this
  have:=A8 h2;subst this
  have hce:=J0 e1 e2 e3
  subst hce
  simp only[B6.opds,List.all_cons,Bool.and_eq_true]at hok
  obtain⟨ty,hsl,hsz⟩:∃ ty,Ub P t=some ty/\Ic P ty=some s:=by
   split at h3
   ·rename_i ty hty;exact⟨ty,hty,D6 h3⟩
   ·cases h3
  simp only[A7]at hs
  split at hs
  case h_2=>cases hs
  rename_i id off len cap f1
  split at hs
  case h_2=>cases hs
  rename_i ty2 q es f2
  obtain⟨news,hn,he⟩:=Option.map_eq_some_iff.1 hs
  simp only[Prod.mk.injEq]at he
  obtain⟨rfl,rfl,rfl⟩:=he
  obtain⟨ay,fy,fe⟩:=Option.bind_eq_some_iff.1 hn
  obtain⟨rfl,hw⟩:=hc
  exact qKI hsl hsz h4 h hg hop hok.1 hok.2.1 f1 f2 fy fe hw
 | slice s x lo hi mx =>
  generalize hop:o.op=op' at hchk
  simp only[Iy]at hchk
  split at hchk
  case h_2=>cases hchk
  rename_i t x' lo' hi' mx'
  simp only[Bool.and_eq_true]at hchk
  obtain⟨⟨⟨⟨⟨h1,h2⟩,h3⟩,h4⟩,h5⟩,h6⟩:=hchk
  have:=A8 h1;subst this
  have:=q4r h2;subst this
  have:=q4r h3;subst this
  have:=q4r h4;subst this
  simp only[B6.opds,List.all_append,Bool.and_eq_true]at hok
  obtain⟨⟨⟨k1,k2⟩,k3⟩,k4⟩:=hok
  have k1:A9 x=true:=by simpa using k1
  simp only[A7,Option.bind_eq_some_iff]at hs
  obtain⟨a,ha,hs⟩:=hs
  split at hs
  ·-- a string
   rename_i b
   simp only[Option.bind_eq_some_iff,Option.map_eq_some_iff,Prod.mk.injEq]at hs
   obtain⟨l,hl,hh,hhh,rfl,rfl,rfl⟩:=hs
   obtain⟨rfl,c1,c2,c3,c4⟩:=hc
   simp only[beq_self_eq_true,↓reduceIte,Bool.and_eq_true,Option.isNone_iff_eq_none]at h6
   obtain⟨hst,rfl⟩:=h6
   exact q8a h hg hop k1 hst ha (Lr h hg hl c1 k2) (Lr h hg hhh c2 k3) c3 c4
  ·-- an immutable slice
   rename_i es cap nl
   simp only[Option.bind_eq_some_iff]at hs
   obtain⟨l,hl,hh,hhh,hs⟩:=hs
   split at hs
   ·simp only[Option.some.injEq,Prod.mk.injEq]at hs
    obtain⟨rfl,rfl,rfl⟩:=hs
    obtain⟨c0,cw,c1,c2,c3,c4⟩:=hc
    have hs0:(s==0)=false:=by simpa using c0
    simp only[hs0,Bool.false_eq_true,↓reduceIte]at h6
    split at h6
    case h_2=>cases h6
    rename_i e he
    exact qA3 h hg hop k1 he (D6 h6) ha cw (Lr h hg hl c1 k2) (Lr h hg hhh c2 k3) c3 c4
   ·rename_i m0
    simp only[Option.map_eq_some_iff,Prod.mk.injEq]at hs
    obtain⟨m,hm,rfl,rfl,rfl⟩:=hs
    obtain⟨c0,cw,c1,c2,c2',c3,c4,c5⟩:=hc
    have hs0:(s==0)=false:=by simpa using c0
    simp only[hs0,Bool.false_eq_true,↓reduceIte]at h6
    split at h6
    case h_2=>cases h6
    rename_i e he
    have hhi:hi.isSome=true:=by simpa using h5
    obtain⟨hi,rfl⟩:=Option.isSome_iff_exists.1 hhi
    exact q8b h hg hop k1 he (D6 h6) ha cw (Lr h hg hl c1 k2) (Lr h hg hhh c2 k3) (Lr h hg hm c2' k4) c3 c4 c5
  ·-- a part of a region
   rename_i id off len cap
   simp only[Option.bind_eq_some_iff]at hs
   obtain⟨l,hl,hh,hhh,hs⟩:=hs
   split at hs
   case h_2=>cases hs
   rename_i ty q es hlk
   split at hs
   ·simp only[Option.some.injEq,Prod.mk.injEq]at hs
    obtain⟨rfl,rfl,rfl⟩:=hs
    obtain⟨c0,cq,c1,c2,c3,c4⟩:=hc
    have hs0:(s==0)=false:=by simpa using c0
    simp only[hs0,Bool.false_eq_true,↓reduceIte]at h6
    split at h6
    case h_2=>cases h6
    rename_i e he
    exact qA4 h hg hop k1 he (D6 h6) ha hlk cq (Lr h hg hl c1 k2) (Lr h hg hhh c2 k3) c3 c4
   ·rename_i m0
    simp only[Option.map_eq_some_iff,Prod.mk.injEq]at hs
    obtain⟨m,hm,rfl,rfl,rfl⟩:=hs
    obtain⟨c0,cq,c1,c2,c2',c3,c4,c5⟩:=hc
    have hs0:(s==0)=false:=by simpa using c0
    simp only[hs0,Bool.false_eq_true,↓reduceIte]at h6
    split at h6
    case h_2=>cases h6
    rename_i e he
    have hhi:hi.isSome=true:=by simpa using h5
    obtain⟨hi,rfl⟩:=Option.isSome_iff_exists.1 hhi
    exact q8c h hg hop k1 he (D6 h6) ha hlk cq (Lr h hg hl c1 k2) (Lr h hg hhh c2 k3) (Lr h hg hm c2' k4) c3 c4 c5
  ·cases hs
 | mk ty s zs l c1 =>
  generalize hop:o.op=op' at hchk
  simp only[Iy]at hchk
  split at hchk
  case h_2=>cases hchk
  rename_i t l' c'
  simp only[Bool.and_eq_true,decide_eq_true_eq]at hchk
  obtain⟨⟨⟨⟨⟨⟨⟨h1,h2⟩,h3⟩,h4⟩,h5⟩,h6⟩,h7⟩,h8⟩:=hchk
  have:=A8 h1;subst this
  have:=A8 h2;subst this
  simp only[B6.opds,List.all_cons,Bool.and_eq_true]at hok
  obtain⟨hz,hzl⟩:Br P ty=some zs/\zs.length=s:=by
   split at h6
   ·rename_i z hz
    simp only[Bool.and_eq_true]at h6
    have:=K3 h6.1;subst this
    exact⟨hz,by simpa using h6.2⟩
   ·cases h6
  have hel:Cd P t ty s:=by
   refine⟨D6 h3,D6 h4,h5,⟨zs,hz,hzl⟩,?_⟩
   split at h8
   ·rename_i n hn;exact⟨n,hn,by simpa using h8⟩
   ·cases h8
  simp only[A7]at hs
  split at hs
  ·rename_i k n k2 m e1 e2
   simp only[Option.some.injEq,Prod.mk.injEq]at hs
   obtain⟨rfl,rfl,rfl⟩:=hs
   exact qMF hel hz h7 h hg hop hok.1 hok.2.1 e1 e2 hc.2.1 hc.2.2.1 hc.2.2.2 hc.1 hd
  ·cases hs
 | mkE ty s zs l c1 =>
  generalize hop:o.op=op' at hchk
  simp only[Iy]at hchk
  split at hchk
  case h_2=>cases hchk
  rename_i t l' c'
  simp only[Bool.and_eq_true,decide_eq_true_eq]at hchk
  obtain⟨⟨⟨⟨⟨⟨⟨h1,h2⟩,h3⟩,h4⟩,h5⟩,h6⟩,h7⟩,h8⟩:=hchk
  have:=A8 h1;subst this
  have:=A8 h2;subst this
  simp only[B6.opds,List.all_cons,Bool.and_eq_true]at hok
  obtain⟨hz,hzl⟩:Br P ty=some zs/\zs.length=s:=by
   split at h6
   ·rename_i z hz
    simp only[Bool.and_eq_true]at h6
    have:=K3 h6.1;subst this
    exact⟨hz,by simpa using h6.2⟩
   ·cases h6
  have hel:Cd P t ty s:=by
   refine⟨D6 h3,D6 h4,h5,⟨zs,hz,hzl⟩,?_⟩
   split at h8
   ·rename_i n hn;exact⟨n,hn,by simpa using h8⟩
   ·cases h8
  simp only[A7]at hs
  split at hs
  ·rename_i k n k2 m e1 e2
   simp only[Option.some.injEq,Prod.mk.injEq]at hs
   obtain⟨rfl,rfl,rfl⟩:=hs
   exact qKD hel hz h7 h hg hop hok.1 hok.2.1 e1 e2 hc.2.1 hc.2.2.1 hc.2.2.2 hc.1 hd
  ·cases hs
 | mkf f xs =>
  generalize hop:o.op=op' at hchk
  simp only[Iy]at hchk
  split at hchk
  case h_2=>cases hchk
  rename_i f' first caps
  simp only[Bool.and_eq_true]at hchk
  obtain⟨⟨⟨h1,h2⟩,h3⟩,h4⟩:=hchk
  have h4:f<1000000000:=by simpa using h4
  have:f=f':=by simpa using h1
  subst this
  have hf:first=#[]:=by simpa using h2
  subst hf
  have:=Ib h3;subst this
  simp only[A7,Option.map_eq_some_iff,Prod.mk.injEq]at hs
  obtain⟨as,ha,_,rfl,rfl⟩:=hs
  exact qKA h4 h hg (by rw[hop];simp[B6.opds]) hok ha
 | mkfB f xs =>
  generalize hop:o.op=op' at hchk
  simp only[Iy]at hchk
  split at hchk
  case h_2=>cases hchk
  rename_i f' first caps
  simp only[Bool.and_eq_true]at hchk
  obtain⟨⟨h1,h2⟩,h3⟩:=hchk
  have:f=f':=by simpa using h1
  subst this
  have hf:caps=#[]:=by simpa using h2
  subst hf
  have:=Ib h3;subst this
  simp only[A7,Option.map_eq_some_iff,Prod.mk.injEq]at hs
  obtain⟨as,ha,_,rfl,rfl⟩:=hs
  exact qHX h hg (by rw[hop];simp[B6.opds]) hok ha
 | ext x i =>
  have hk:A9 x=true:=by simpa[B6.opds]using hok
  generalize hop:o.op=op' at hchk
  simp only[Iy]at hchk
  split at hchk
  case h_2=>cases hchk
  simp only[Bool.and_eq_true]at hchk
  have:=A8 hchk.1;subst this
  rename_i y j
  have:i=j:=by simpa using hchk.2
  subst this
  simp only[A7]at hs
  split at hs
  ·rename_i vs e1
   simp only[Option.map_eq_some_iff,Prod.mk.injEq]at hs
   obtain⟨t,ht,_,rfl,rfl⟩:=hs
   exact qK5 h hg hop e1 hk ht
  ·rename_i vs e1
   simp only[Option.map_eq_some_iff,Prod.mk.injEq]at hs
   obtain⟨t,ht,_,rfl,rfl⟩:=hs
   exact qHW h hg hop e1 hk ht
  ·cases hs
 | nck x =>
  have hk:A9 x=true:=by simpa[B6.opds]using hok
  generalize hop:o.op=op' at hchk
  simp only[Iy]at hchk
  split at hchk
  case h_2=>cases hchk
  have:=A8 hchk;subst this
  simp only[A7]at hs
  split at hs<;>first|(cases hs;done)|skip
  ·rename_i cs k e1
   simp only[Option.some.injEq,Prod.mk.injEq]at hs
   obtain⟨_,rfl,rfl⟩:=hs
   exact qBH h hg hop e1 hk (.inl ⟨_,_,rfl⟩)
  ·rename_i id i k e1
   simp only[Option.some.injEq,Prod.mk.injEq]at hs
   obtain⟨_,rfl,rfl⟩:=hs
   exact qBH h hg hop e1 hk (.inr (.inl ⟨_,_,_,rfl⟩))
  ·rename_i f cs e1
   simp only[Option.some.injEq,Prod.mk.injEq]at hs
   obtain⟨_,rfl,rfl⟩:=hs
   exact qBH h hg hop e1 hk (.inr (.inr (.inl ⟨_,_,rfl⟩)))
  ·rename_i f cs e1
   simp only[Option.some.injEq,Prod.mk.injEq]at hs
   obtain⟨_,rfl,rfl⟩:=hs
   exact qBH h hg hop e1 hk (.inr (.inr (.inr ⟨_,_,rfl⟩)))
 | mkmap =>
  generalize hop:o.op=op' at hchk
  simp only[Iy]at hchk
  split at hchk
  case h_2=>cases hchk
  simp only[Bool.and_eq_true,Option.isNone_iff_eq_none]at hchk
  obtain⟨rfl,_⟩:=hchk
  simp only[A7,Option.some.injEq,Prod.mk.injEq]at hs
  obtain⟨rfl,rfl,rfl⟩:=hs
  exact qFQ h hop hc hd
 | mkB ty zs l c1 =>
  generalize hop:o.op=op' at hchk
  simp only[Iy]at hchk
  split at hchk
  case h_2=>cases hchk
  rename_i t l' c'
  simp only[Bool.and_eq_true,decide_eq_true_eq]at hchk
  obtain⟨⟨⟨⟨⟨⟨h1,h2⟩,h3⟩,h4⟩,h6⟩,h7⟩,h8⟩:=hchk
  have:=A8 h1;subst this
  have:=A8 h2;subst this
  simp only[B6.opds,List.all_cons,Bool.and_eq_true]at hok
  obtain⟨hz,hzl⟩:Br P ty=some zs/\zs.length=1:=by
   split at h6
   ·rename_i z hz
    simp only[Bool.and_eq_true]at h6
    have:=K3 h6.1;subst this
    exact⟨hz,by simpa using h6.2⟩
   ·cases h6
  have hel:Cd P t ty 1:=by
   refine⟨D6 h3,D6 h4,Nat.zero_lt_one,⟨zs,hz,hzl⟩,?_⟩
   split at h8
   ·rename_i n hn;exact⟨n,hn,by simpa using h8⟩
   ·cases h8
  simp only[A7]at hs
  split at hs
  ·rename_i k n k2 m e1 e2
   simp only[Option.some.injEq,Prod.mk.injEq]at hs
   obtain⟨rfl,rfl,rfl⟩:=hs
   exact qKF hel hz h7 h hg hop hok.1 hok.2.1 e1 e2 hc.2.1 hc.2.2.1 hc.2.2.2 hc.1 hd
  ·cases hs
 | rng x =>
  have hk:A9 x=true:=by simpa[B6.opds]using hok
  generalize hop:o.op=op' at hchk
  simp only[Iy]at hchk
  split at hchk
  case h_2=>cases hchk
  simp only[Bool.and_eq_true]at hchk
  have:=A8 hchk.1;subst this
  simp only[A7]at hs
  split at hs
  ·rename_i s e1
   simp only[Option.some.injEq,Prod.mk.injEq]at hs
   obtain⟨rfl,rfl,rfl⟩:=hs
   exact qKG h hg hop hk hchk.2 e1 hc hd
  ·cases hs
 | nxt x =>
  have hk:A9 x=true:=by simpa[B6.opds]using hok
  generalize hop:o.op=op' at hchk
  simp only[Iy]at hchk
  split at hchk
  case h_2=>cases hchk
  simp only[Bool.and_eq_true]at hchk
  have:=A8 hchk.1;subst this
  rw[hchk.2]at hop
  simp only[A7]at hs
  split at hs
  case h_2=>cases hs
  rename_i id e1
  split at hs
  case h_2=>cases hs
  rename_i s pos hl
  obtain⟨g1,g2⟩:=qKH (ds:=ds) h hg hop hk e1 hl
  split at hs<;>rename_i hp<;>simp only[Option.some.injEq,Prod.mk.injEq]at hs<;>obtain⟨_,rfl,rfl⟩:=hs
  ·exact g1 hp
  ·exact g2 hp
 | lkup kt zv ok m k =>
  generalize hop:o.op=op' at hchk
  simp only[Iy]at hchk
  split at hchk
  case h_2=>cases hchk
  simp only[Bool.and_eq_true]at hchk
  obtain⟨⟨⟨h1,h2⟩,h3⟩,h4⟩:=hchk
  have:=A8 h1;subst this
  have:=A8 h2;subst this
  rename_i t ok'
  have:ok=ok':=by simpa using h3
  subst this
  split at h4
  case h_2=>cases h4
  rename_i q e hm
  simp only[Bool.and_eq_true]at h4
  obtain⟨⟨h5,h6⟩,h7⟩:=h4
  have hz:(P.info? e).bind (·.zero)=some zv:=by
   split at h6
   ·rename_i z hz;rw[hz,q7n h6]
   ·cases h6
  simp only[B6.opds,List.all_cons,Bool.and_eq_true]at hok
  simp only[A7]at hs
  split at hs
  case h_2=>cases hs
  rename_i kv e1
  split at hs
  ·rename_i es e2
   simp only[Option.some.injEq,Prod.mk.injEq]at hs
   obtain⟨rfl,rfl,rfl⟩:=hs
   exact qDI h hg hop hok.1 hok.2.1 hm h5 hz h7 e1 e2 (.inl rfl) hc.1 hc.2
  ·rename_i id e2
   split at hs
   ·rename_i es hl
    simp only[Option.some.injEq,Prod.mk.injEq]at hs
    obtain⟨rfl,rfl,rfl⟩:=hs
    exact qDI h hg hop hok.1 hok.2.1 hm h5 hz h7 e1 e2 (.inr ⟨id,rfl,hl⟩) hc.1 hc.2
   ·cases hs
  ·cases hs
 | mup kt m k x =>
  generalize hop:o.op=op' at hchk
  simp only[Iy]at hchk
  split at hchk
  case h_2=>cases hchk
  simp only[Bool.and_eq_true]at hchk
  obtain⟨⟨⟨h1,h2⟩,h3⟩,h4⟩:=hchk
  have:=A8 h1;subst this
  have:=A8 h2;subst this
  have:=A8 h3;subst this
  split at h4
  case h_2=>cases h4
  rename_i q e hm
  simp only[B6.opds,List.all_cons,Bool.and_eq_true]at hok
  simp only[A7]at hs
  split at hs
  case h_2=>cases hs
  rename_i kv id e1 e2
  split at hs
  case h_2=>cases hs
  rename_i es hl
  simp only[Option.map_eq_some_iff,Option.bind_eq_some_iff,Prod.mk.injEq]at hs
  obtain⟨y,⟨a,ha,hy⟩,rfl,rfl,rfl⟩:=hs
  exact qKE h hg hop hok.1 hok.2.1 hok.2.2.1 hm h4 e1 e2 hl ha hy hc.1 hc.2
 | lkupA kt zv m k =>
  generalize hop:o.op=op' at hchk
  simp only[Iy]at hchk
  split at hchk
  case h_2=>cases hchk
  simp only[Bool.and_eq_true]at hchk
  obtain⟨⟨⟨h1,h2⟩,h3⟩,h4⟩:=hchk
  have:=A8 h1;subst this
  have:=A8 h2;subst this
  rename_i t ok'
  have:ok'=false:=by simpa using h3
  subst this
  split at h4
  case h_2=>cases h4
  rename_i q e hm
  simp only[Bool.and_eq_true]at h4
  obtain⟨⟨h5,h6⟩,h7⟩:=h4
  have hz:(P.info? e).bind (·.zero)=some zv:=by
   split at h6
   ·rename_i z hz;rw[hz,q7n h6]
   ·cases h6
  simp only[B6.opds,List.all_cons,Bool.and_eq_true]at hok
  simp only[A7]at hs
  split at hs
  case h_2=>cases hs
  rename_i kv id e1 e2
  split at hs
  case h_2=>cases hs
  rename_i es hl
  simp only[Option.some.injEq,Prod.mk.injEq]at hs
  obtain⟨rfl,rfl,rfl⟩:=hs
  exact qFR h hg hop hok.1 hok.2.1 hm h5 hz h7 e1 e2 hl hc.1 hc.2
 | mupA kt m k x =>
  generalize hop:o.op=op' at hchk
  simp only[Iy]at hchk
  split at hchk
  case h_2=>cases hchk
  simp only[Bool.and_eq_true]at hchk
  obtain⟨⟨⟨h1,h2⟩,h3⟩,h4⟩:=hchk
  have:=A8 h1;subst this
  have:=A8 h2;subst this
  have:=A8 h3;subst this
  split at h4
  case h_2=>cases h4
  rename_i q e hm
  simp only[B6.opds,List.all_cons,Bool.and_eq_true]at hok
  simp only[A7]at hs
  split at hs
  case h_2=>cases hs
  rename_i kv id e1 e2
  split at hs
  case h_2=>cases hs
  rename_i es hl
  simp only[Option.map_eq_some_iff,Prod.mk.injEq]at hs
  obtain⟨a,ha,rfl,rfl,rfl⟩:=hs
  exact qHa h hg hop hok.1 hok.2.1 hok.2.2.1 hm h4 e1 e2 hl ha hc.1 hc.2
 | mdel kt m k =>
  generalize hop:o.op=op' at hchk
  simp only[Iy]at hchk
  split at hchk
  case h_2=>cases hchk
  split at hchk
  case h_2=>cases hchk
  rename_i cc _ _ _ x' y' t t' e1 e2 e3
  simp only[Bool.and_eq_true]at hchk
  obtain⟨⟨h1,h2⟩,h3⟩:=hchk
  have:=A8 h1;subst this
  have:=A8 h2;subst this
  have hce:=J0 e1 e2 e3
  subst hce
  simp only[B6.opds,List.all_cons,Bool.and_eq_true]at hok
  split at h3
  case h_2=>cases h3
  rename_i q e hm
  simp only[A7]at hs
  split at hs
  case h_2=>cases hs
  rename_i kv id f1 f2
  split at hs
  case h_2=>cases hs
  rename_i es hl
  simp only[Option.some.injEq,Prod.mk.injEq]at hs
  obtain⟨rfl,rfl,rfl⟩:=hs
  exact qHb h hg hop hok.1 hok.2.1 hm h3 f1 f2 hl hc.1 hc.2
 | isNilP pos x =>
  have hk:A9 x=true:=by simpa[B6.opds]using hok
  generalize hop:o.op=op' at hchk
  simp only[Iy]at hchk
  split at hchk
  case h_2=>cases hchk
  simp only[Bool.and_eq_true,decide_eq_true_eq,Bool.or_eq_true]at hchk
  obtain⟨⟨rfl,hpq⟩,he⟩:=hchk
  rename_i t p q u
  have hpq':(p=x/\q=.const (.pointer none))\/(q=x/\p=.const (.pointer none)):=by
   rcases hpq with⟨h1,h2⟩|⟨h1,h2⟩
   ·exact .inl ⟨(A8 h1).symm,(A8 h2).symm⟩
   ·exact .inr ⟨(A8 h1).symm,(A8 h2).symm⟩
  split at he
  case h_2=>cases he
  rename_i e hu
  simp only[A7]at hs
  split at hs
  ·rename_i i j k e1
   simp only[Option.some.injEq,Prod.mk.injEq]at hs
   obtain⟨_,rfl,rfl⟩:=hs
   exact q54 h hg hop hpq' hk hu e1 (.inl ⟨⟨_,_,_,rfl⟩,rfl⟩)
  ·rename_i cs k e1
   simp only[Option.some.injEq,Prod.mk.injEq]at hs
   obtain⟨_,rfl,rfl⟩:=hs
   exact q54 h hg hop hpq' hk hu e1 (.inr (.inl ⟨⟨_,_,rfl⟩,rfl⟩))
  ·rename_i e1
   simp only[Option.some.injEq,Prod.mk.injEq]at hs
   obtain⟨_,rfl,rfl⟩:=hs
   exact q54 h hg hop hpq' hk hu e1 (.inr (.inr ⟨rfl,rfl⟩))
  ·cases hs
 | isNilI pos x =>
  have hk:A9 x=true:=by simpa[B6.opds]using hok
  generalize hop:o.op=op' at hchk
  simp only[Iy]at hchk
  split at hchk
  case h_2=>cases hchk
  simp only[Bool.and_eq_true,decide_eq_true_eq,Bool.or_eq_true]at hchk
  obtain⟨⟨rfl,hpq⟩,he⟩:=hchk
  rename_i t p q u
  have hpq':(p=x/\q=.const .nilIface)\/(q=x/\p=.const .nilIface):=by
   rcases hpq with⟨h1,h2⟩|⟨h1,h2⟩
   ·exact .inl ⟨(A8 h1).symm,(A8 h2).symm⟩
   ·exact .inr ⟨(A8 h1).symm,(A8 h2).symm⟩
  split at he
  case h_2=>cases he
  rename_i e hu
  simp only[A7]at hs
  split at hs
  ·rename_i e1
   simp only[Option.some.injEq,Prod.mk.injEq]at hs
   obtain⟨_,rfl,rfl⟩:=hs
   exact q8j h hg hop hpq' hk hu e1 (.inl ⟨rfl,rfl⟩)
  ·rename_i e1
   simp only[Option.some.injEq,Prod.mk.injEq]at hs
   obtain⟨_,rfl,rfl⟩:=hs
   exact q8j h hg hop hpq' hk hu e1 (.inr ⟨rfl,rfl⟩)
  ·cases hs
 | mvP x=>cases hn6
 | iaR id s x i=>cases hn6
 | stF id f a x=>cases hn6
 | nckP x=>cases hn6
 | fadP off x=>cases hn6
 | ldP n x=>cases hn6
 | appT ty s b x=>exact absurd rfl (hnt ty s b x)
 | stR id n a x=>exact absurd rfl (hns id n a x)
 | ldR id n g a=>exact absurd rfl (hnl id n g a)
 | ldT n g a=>exact absurd rfl (hn4 n g a)
 | lkT kt zv ok m k=>exact absurd rfl (hn5 kt zv ok m k)
 | hcall f xs rs base=>simp[A7]at hs
 | hcallv x xs rs base=>simp[A7]at hs
 | hcallW f xs base=>simp[A7]at hs
 | hcallvW x xs base=>simp[A7]at hs
 | hcallB x xs base=>simp[A7]at hs
 | ncall f xs base=>simp[A7]at hs
 | callT f xs=>simp[A7]at hs
 | rcall f xs rs=>simp[A7]at hs
 | call f xs=>simp[A7]at hs
 | callv x xs=>simp[A7]at hs
theorem q58 {io:B6} {d:Nat} {c:Prop} {r:AV} {st1:St} (h:B0 w0 B κ X μ st tm w) (hg:Gl Γ w X) (hn6:q1R io=none) (hchk:Iy P io o.op=true) (hok:io.opds.all A9=true) (hd:d<1000000) (hs:A7 Γ d io st=some (c,r,st1)) (hc:c):Ad P w0 B κ X o r st1 tm w ds:=by
 by_cases ht:∃ ty s b x,io=.appT ty s b x
 ·obtain⟨ty,s,b,x,rfl⟩:=ht
  simp only[A7,Option.bind_eq_some_iff]at hs
  obtain⟨news,⟨a,ha,hn⟩,hs⟩:=hs
  split at hs
  ·rename_i es q nl hb
   simp only[Option.some.injEq,Prod.mk.injEq]at hs
   obtain⟨rfl,rfl,rfl⟩:=hs
   obtain⟨h1,h2,h3,h4⟩:=hc
   refine P1 (io:=.app true ty s b x) (c:=Gk s news/\Gk s es/\q=es.length/\es.length+news.length<=2147483648/\(true=true\/news≠[]\/es=[])) (by simp) (by simp) (by simp) (by simp) (by simp) rfl h hg hchk hok hd ?_ ⟨h1,h2,h3,h4,.inl rfl⟩
   simp[A7,ha,hn,hb]
  ·cases hs
 ·by_cases ht2:∃ id n a x,io=.stR id n a x
  ·obtain⟨id,n,a,x,rfl⟩:=ht2
   simp only[A7]at hs
   split at hs
   ·exact P1 (io:=.store n a x) (by simp) (by simp) (by simp) (by simp) (by simp) rfl h hg hchk hok hd (by simp only[A7];exact hs) hc
   ·cases hs
  ·by_cases ht3:∃ id n g a,io=.ldR id n g a
   ·obtain⟨id,n,g,a,rfl⟩:=ht3
    simp only[A7]at hs
    split at hs
    ·exact P1 (io:=.load n g a) (by simp) (by simp) (by simp) (by simp) (by simp) rfl h hg hchk hok hd (by simp only[A7];exact hs) hc
    ·cases hs
   ·by_cases ht4:∃ n g a,io=.ldT n g a
    ·obtain⟨n,g,a,rfl⟩:=ht4
     simp only[A7]at hs
     split at hs
     ·rename_i ha
      exact P1 (io:=.load n g a) (by simp) (by simp) (by simp) (by simp) (by simp) rfl h hg hchk hok hd (by simp only[A7,ha];exact hs) hc
     ·cases hs
    ·by_cases ht5:∃ kt zv ok m k,io=.lkT kt zv ok m k
     ·obtain⟨kt,zv,ok,m,k,rfl⟩:=ht5
      simp only[A7]at hs
      split at hs
      ·rename_i hk hm
       exact P1 (io:=.lkup kt zv ok m k) (by simp) (by simp) (by simp) (by simp) (by simp) rfl h hg hchk hok hd (by simp only[A7,hk,hm];exact hs) hc
      ·cases hs
     ·exact P1 (fun ty s b x e=>ht ⟨ty,s,b,x,e⟩) (fun id n a x e=>ht2 ⟨id,n,a,x,e⟩) (fun id n g a e=>ht3 ⟨id,n,g,a,e⟩) (fun n g a e=>ht4 ⟨n,g,a,e⟩) (fun kt zv ok m k e=>ht5 ⟨kt,zv,ok,m,k,e⟩) hn6 h hg hchk hok hd hs hc
theorem qCY {io:B6} {d:Nat} {c:Prop} {r:AV} {st1:St} (h:B0 w0 B κ X μ st tm w) (hg:Gl Γ w X) (hchk:Iy P io o.op=true) (hok:io.opds.all A9=true) (hd:d<1000000) (hs:A7 Γ d io st=some (c,r,st1)) (hc:c):Ad P w0 B κ X o r st1 tm w ds:=by
 cases hb:q1R io with
 | none=>exact q58 h hg hb hchk hok hd hs hc
 | some io' =>
  obtain⟨c',hs',hc'⟩:=qDM hb hs hc
  have h2:Iy P io' o.op=true/\io'.opds.all A9=true/\q1R io'=none:=by
   unfold q1R at hb
   split at hb<;>simp only[Option.some.injEq,reduceCtorEq]at hb<;>subst hb<;>exact⟨hchk,hok,rfl⟩
  exact q58 h hg h2.2.2 h2.1 h2.2.1 hd hs' hc'
end
end Go.Lg
namespace Go.Lg
open Go
def Vh (P:Program) (f:FuncId) (vs:Array Value) (w:World) (R:Value->World->Prop):Prop :=
 ((callFunc f vs).run P w=.ok (.enter f vs) w/\Calls P f vs w fun e w'=>∃ v,e=.returned v/\R v w')\/∃ v,(callFunc f vs).run P w=.ok (.value v) w/\R v w
theorem Vh.mono {P:Program} {f:FuncId} {vs:Array Value} {w:World} {R R':Value->World->Prop} (h:Vh P f vs w R) (hr:∀ v w',R v w'->R' v w'):Vh P f vs w R':=by
 rcases h with⟨h1,h2⟩|⟨v,h1,h2⟩
 ·exact .inl ⟨h1,h2.mono fun e w' ⟨v,he,hR⟩=>⟨v,he,hr v w' hR⟩⟩
 ·exact .inr ⟨v,h1,hr v w h2⟩
def An (P:Program) (Γ:Tables) (f:FuncId) (args:List T) (res:T):Prop :=
 ∀ (w:World) (X:Nat->Prop) (vs:List Value),Gl Γ w X->(∀ b,X b->b<w.heap.size)->Ds w X args vs ->
  Vh P f vs.toArray w fun v w'=>RowKit.Below w.heap.size w w'/\TR w' (fun b=>X b\/(w.heap.size<=b/\b<w'.heap.size)) res v
def A6 (P:Program) (Γ:Tables) (f:FuncId) (args:List T) (res:T):Prop :=
 ∀ (w:World) (X:Nat->Prop) (vs:List Value),Gl Γ w X->(∀ b,X b->b<w.heap.size)->Ds w X args vs ->
  Vh P f vs.toArray w fun v w'=>RowKit.Below w.heap.size w w'/\TR w' (fun b=>w.heap.size<=b/\b<w'.heap.size) res v
theorem A6.pure {P:Program} {Γ:Tables} {f:FuncId} {args:List T} {res:T} (h:A6 P Γ f args res):An P Γ f args res :=
 fun w X vs hg hx hr=>(h w X vs hg hx hr).mono fun v w' ⟨hb,ht⟩=>⟨hb,ht.mono (fun _ _=>rfl) (fun _ hb=>.inr hb)⟩
def Ui:T->Bool
 | .v _=>true
 | .sl [] _ _=>true
 | .ifc=>true
 | _=>false
def Df:T->Bool
 | .tup vs=>vs.all Ui
 | .agg vs=>vs.all Ui
 | t=>Ui t
theorem q8m {w:World} {X Y:Nat->Prop} {t:T} {x:Value} (h:TR w X t x) (hf:Ui t=true):TR w Y t x:=by
 cases h with
 | v x=>exact .v x
 | nil cap nl a c hc hn hz=>exact .nil cap nl a c hc hn hz
 | sl es cap nl s b off c f hcell hlen hrel hone hx hle hc hn =>
  cases es with
  | nil=>exact .nil cap nl _ c hc (fun q hq=>by rw[hn q hq];rfl) (fun e=>by cases e)
  | cons e es=>simp[Ui]at hf
 | agg=>simp[Ui]at hf
 | tup=>simp[Ui]at hf
 | ip=>simp[Ui]at hf
 | fn=>simp[Ui]at hf
 | mpnil=>simp[Ui]at hf
 | mp=>simp[Ui]at hf
 | pin=>simp[Ui]at hf
 | ifc tp x=>exact .ifc tp x
theorem q59 {w:World} {X Y:Nat->Prop} {t:T} {x:Value} (h:TR w X t x) (hf:Df t=true):TR w Y t x:=by
 have one:∀ {ts:List T} {xs:List Value},ts.all Ui=true->Ds w X ts xs->Ds w Y ts xs:=by
  intro ts xs h1 h2
  exact⟨h2.1,fun k t x ht hx=>q8m (h2.2 k t x ht hx) (List.all_eq_true.1 h1 t (List.mem_of_getElem? ht))⟩
 cases t with
 | tup vs=>obtain⟨xs,rfl,hr⟩:=h.tup_inv;exact TR.mk_tup (one hf hr)
 | agg vs=>obtain⟨xs,rfl,h1,hr⟩:=h.agg_inv;exact TR.mk_agg h1 (one hf hr)
 | _=>exact q8m h hf
structure RO where
 dst:Option Nat
 op:B6
 guard:Option (Nat×Bool):=none
 rid:Option Nat:=none
def RO.d (ro:RO):Nat:=match ro.rid with
 | some r=>r
 | none=>ro.dst.getD 0
def St.put (st:St) (d:Option Nat) (a:AV):St:=match d with
 | some d=>⟨(d,a)::st.env,st.hp⟩
 | none=>st
def q7t (st:St) (μ:Be) (b:Nat):Prop:=∃ id n,st.sh id≠none/\μ id=some (b,n)
section
variable {P:Program} {Γ:Tables} {w0:World} {B:Nat} {κ:Be} {X:Nat->Prop} {μ:Be} {st:St} {tm:Array Value} {w:World} {ds:List Deferred} {o:Oper}
theorem Lu {Y:Nat->Prop} {f:AV->Option T}:∀ {cs:List AV} {xs:List Value} {ts:List T},Gf w X μ st.sh cs xs->(∀ c∈cs,∀ t x,AR w X μ st.sh c x->f c=some t->TR w Y t x)->Ac (cs.map f)=some ts->Ds w Y ts xs
 | [],xs,ts,h,hf,ho=>by
  simp only[List.map_nil,Ac,Option.some.injEq]at ho
  subst ho;rw[h.nil_inv];exact Ds.nil _ _
 | c::cs,xs,ts,h,hf,ho=>by
  obtain⟨x,ys,rfl,hx,hs⟩:=h.cons_inv
  simp only[List.map_cons]at ho
  cases hc:f c with
  | none=>rw[hc]at ho;simp[Ac]at ho
  | some t =>
   rw[hc]at ho
   simp only[Ac,Option.map_eq_some_iff]at ho
   obtain⟨ts',ho',rfl⟩:=ho
   exact Ds.cons (hf c (by simp) t x hx hc) (Lu hs (fun c hm=>hf c (by simp[hm])) ho')
theorem q72:∀ {n:Nat} {hp:List (Nat×Aj)} {a:AV} {t:T},a.one=true->Aq hp n a=some t->t.one=true:=by
 intro n hp a t h1 h
 cases a with
 | t x=>cases n<;>simp only[Aq,Option.some.injEq]at h<;>subst h<;>exact h1
 | ag cs=>simp[AV.one]at h1
 | un=>simp[AV.one]at h1
 | tu=>simp[AV.one]at h1
 | dead=>cases n<;>simp[Aq]at h
 | ls id off len cap =>
  cases n with
  | zero=>simp[Aq]at h
  | succ n =>
   simp only[Aq]at h
   split at h
   ·simp at h;subst h;rfl
   ·simp only[Option.map_eq_some_iff]at h;obtain⟨ts,_,rfl⟩:=h;rfl
   ·cases h
 | lp id i k =>
  cases n with
  | zero=>simp[Aq]at h
  | succ n =>
   simp only[Aq]at h
   split at h
   ·simp at h;subst h;rfl
   ·simp only[Option.map_eq_some_iff]at h;obtain⟨ts,_,rfl⟩:=h;rfl
   ·simp only[Option.map_eq_some_iff]at h;obtain⟨ts,_,rfl⟩:=h;rfl
   ·cases h
 | li id=>cases n<;>simp[Aq]at h
 | lb id m =>
  cases n with
  | zero=>simp[Aq]at h
  | succ n =>
   simp only[Aq]at h
   split at h
   ·simp only[Option.map_eq_some_iff]at h;obtain⟨ts,_,rfl⟩:=h;rfl
   ·cases h
 | lm id =>
  cases n with
  | zero=>simp[Aq]at h
  | succ n=>simp only[Aq]at h;split at h<;>simp at h;subst h;rfl
 | fn f cs =>
  cases n with
  | zero=>simp[Aq]at h
  | succ n =>
   simp only[Aq]at h
   split at h
   ·simp only[Option.map_eq_some_iff]at h;obtain⟨ts,_,rfl⟩:=h;rfl
   ·cases h
theorem N1 {n:Nat} {hp:List (Nat×Aj)}:∀ {cs:List AV} {ts:List T},Aw cs=true->Ac (cs.map (Aq hp n))=some ts->Bi ts=true
 | [],ts,h,ho=>by simp only[List.map_nil,Ac,Option.some.injEq]at ho;subst ho;rfl
 | c::cs,ts,h,ho=>by
  simp only[Aw,List.all_cons,Bool.and_eq_true]at h
  simp only[List.map_cons]at ho
  cases hc:Aq hp n c with
  | none=>rw[hc]at ho;simp[Ac]at ho
  | some t =>
   rw[hc]at ho
   simp only[Ac,Option.map_eq_some_iff]at ho
   obtain⟨ts',ho',rfl⟩:=ho
   simp only[Bi,List.all_cons,Bool.and_eq_true]
   exact⟨q72 h.1 hc,N1 h.2 ho'⟩
theorem qBO {Y:Nat->Prop} {id off len s n ty:Nat} {cap:Option Nat} {x:Value} {seg:List (List T)} (ha:AR w X μ st.sh (.ls id off len cap) x) (hs0:st.sh id=some (.sl s n)) (hlen:off+len<=n->seg.length=len)
  (hreg:(n=0/\μ id=none)\/∃ g arr,μ id=some (g,arr.size)/\w.heap[g]? = some (.cells arr ty (0,0))/\n*s<=arr.size/\∀ (i k:Nat) (e:List T) (t:T) (y:Value),seg[i]? = some e->e[k]? = some t->arr[(off+i)*s+k]? = some y->TR w Y t y)
  (hw:∀ e∈seg,e.length=s/\Bi e=true) (hY:∀ g m,μ id=some (g,m)->Y g):TR w Y (.sl seg cap none) x:=by
 obtain⟨s',n',hs,hcase⟩:=ha.ls_inv
 rw[hs0]at hs
 simp only[Option.some.injEq,Sh.sl.injEq]at hs
 obtain⟨rfl,rfl⟩:=hs
 have nil0:∀ q:List (List T),q.length=0->q=[]:=fun q h=>List.eq_nil_of_length_eq_zero h
 rcases hcase with⟨hm,⟨oa,rfl⟩,rfl,rfl,hc⟩|⟨g,m,c,ad,hm,rfl,hle,hlc,hcm,hfit,hfull,hcq,had⟩
 ·rw[nil0 seg (hlen (by omega))]
  exact .nil _ _ _ _ (fun q hq=>(hc q hq).symm) (fun b hb=>by cases hb) (fun _=>rfl)
 ·have hlen:=hlen hle
  by_cases h0:len=0
  ·subst h0
   rw[nil0 seg hlen]
   exact .nil _ _ _ _ hcq (fun b hb=>by cases hb) (fun e=>by cases e)
  ·rcases hreg with⟨_,hm0⟩|⟨g',arr,hm',hg,hle',hrel⟩
   ·rw[hm]at hm0;cases hm0
   rw[hm]at hm';cases hm'
   have:=TR.mk_sl (w:=w) (X:=Y) (es:=seg) (cap:=cap) (nl:=none) (s:=s) (b:=g) (off:=off*s) (c:=c) (f:=fun i k=>(arr[(off+i)*s+k]?).getD undef)
    (hY g _ hm) (by omega) hcq (fun q hq=>by cases hq) (fun e hme=>(hw e hme).1) (fun e hme=>(hw e hme).2)
    (fun i k hi hk=>by
     rw[hlen]at hi
     have hf:=Iz (s:=s) (i:=off+i) (len:=n) (by omega)
     have hin:(off+i)*s+k<arr.size:=by omega
     rw[cell_of_row _ _ _ _ _ _ hg,show off*s+i*s+k=(off+i)*s+k by rw[Nat.add_mul]]
     simp[hin])
    (fun i k e t he ht=>by
     have hi:=(List.getElem?_eq_some_iff.1 he).1
     rw[hlen]at hi
     have hk:k<s:=by rw[<- (hw e (List.mem_of_getElem? he)).1];exact(List.getElem?_eq_some_iff.1 ht).1
     have hf:=Iz (s:=s) (i:=off+i) (len:=n) (by omega)
     have hin:(off+i)*s+k<arr.size:=by omega
     have:=hrel i k e t arr[(off+i)*s+k] he ht (by simp[hin])
     simp only[hin,getElem?_pos,Option.getD_some]
     exact this)
   rw[hlen]at this
   rw[had (.inl (by omega))]
   exact this
theorem q73 {α:Type} {l:List (Option α)} {r:List α} (h:Ac l=some r) {i:Nat} {y:α} (hy:r[i]? = some y):l[i]? = some (some y):=by
 rw[Oy h];simp[hy]
theorem q5A (h:B0 w0 B κ X μ st tm w):∀ (n:Nat) {a:AV} {x:Value} {t:T},AR w X μ st.sh a x->Aq st.hp n a=some t->TR w (fun b=>X b\/q7t st μ b) t x:=by
 have hmono:∀ {t:T} {x:Value},TR w X t x->TR w (fun b=>X b\/q7t st μ b) t x:=fun ht=>ht.mono (fun _ _=>rfl) (fun _ hb=>.inl hb)
 intro n
 induction n with
 | zero =>
  intro a x t ha hr
  cases a<;>simp only[Aq,Option.some.injEq,reduceCtorEq]at hr
  subst hr;exact hmono ha.t_inv
 | succ n ih =>
  intro a x t ha hr
  cases a with
  | t y=>simp only[Aq,Option.some.injEq]at hr;subst hr;exact hmono ha.t_inv
  | ag cs =>
   simp only[Aq,Option.map_eq_some_iff]at hr
   obtain⟨ts,hts,rfl⟩:=hr
   obtain⟨xs,rfl,h1,hs⟩:=ha.ag_inv
   exact TR.mk_agg (N1 h1 hts) (Lu hs (fun c _ t x hc hf=>ih hc hf) hts)
  | fn f cs =>
   simp only[Aq]at hr
   split at hr
   case isFalse=>cases hr
   rename_i hlt
   simp only[Option.map_eq_some_iff]at hr
   obtain⟨ts,hts,rfl⟩:=hr
   cases ha with
   | fn f cs xs hlen hrel =>
    have:=Lu (w:=w) (μ:=μ) (st:=st) (X:=X) (cs:=cs) (xs:=xs) ⟨hlen,hrel⟩ (fun c _ t x hc hf=>ih hc hf) hts
    rw[q31 hlt]
    exact .fn f ts xs this.1 this.2
  | ls id off len cap =>
   simp only[Aq]at hr
   split at hr
   ·rename_i ty s es hl
    simp only[Option.some.injEq]at hr;subst hr
    obtain⟨hw,hcase⟩:=h.reg id _ hl
    have hmem:∀ e∈(es.drop off).take len,∃ i,es[i]? = some e:=fun e hme=>by
     obtain⟨i,hi,rfl⟩:=List.getElem_of_mem (List.mem_of_mem_drop (List.mem_of_mem_take hme))
     exact⟨i,List.getElem?_eq_getElem hi⟩
    refine qBO (ty:=ty) ha (By hl) (fun hle=>by simp;omega) (hcase.imp (fun⟨h1,h2⟩=>⟨by simp[h1],h2⟩) fun⟨g,arr,hm,hg,hle,hrel⟩=>⟨g,arr,hm,hg,hle,fun i k e t y he ht hy=>?_⟩)
     (fun e hme=>by
      obtain⟨i,hi⟩:=hmem e hme
      exact⟨(hw i e hi).1,List.all_eq_true.2 fun t ht=>by obtain⟨k,hk,rfl⟩:=List.getElem_of_mem ht;exact(hw i e hi).2 k _ (List.getElem?_eq_getElem hk)⟩)
     fun g m hm=>.inr ⟨id,_,by simp[By hl],hm⟩
    have hi:i<len:=by have:=(List.getElem?_eq_some_iff.1 he).1;simp at this;omega
    rw[List.getElem?_take,if_pos hi,List.getElem?_drop]at he
    exact hmono (hrel (off+i) k e t y he ht hy)
   ·rename_i ty s es hl
    simp only[Option.map_eq_some_iff]at hr
    obtain⟨tss,hts,rfl⟩:=hr
    obtain⟨hw,hcase⟩:=h.reg id _ hl
    have hat:∀ (i:Nat) (e:List T),tss[i]? = some e->∃ e0,es[off+i]? = some e0/\i<len/\Ac (e0.map (Aq st.hp n))=some e:=fun i e he=>by
     have:=q73 hts he
     simp only[List.getElem?_map,Option.map_eq_some_iff]at this
     obtain⟨e0,he0,h1⟩:=this
     have hi:i<len:=by have:=(List.getElem?_eq_some_iff.1 he0).1;simp at this;omega
     rw[List.getElem?_take,if_pos hi,List.getElem?_drop]at he0
     exact⟨e0,he0,hi,h1⟩
    have hlen:tss.length=((es.drop off).take len).length:=by have:=congrArg List.length (Oy hts);simpa using this.symm
    refine qBO (ty:=ty) ha (By hl) (fun(hle:off+len<=es.length)=>by rw[hlen];simp;omega) (hcase.imp (fun⟨h1,h2⟩=>⟨by simp[h1],h2⟩) fun⟨g,arr,hm,hg,hle,hrel⟩=>⟨g,arr,hm,hg,hle,fun i k e t y he ht hy=>?_⟩)
     (fun e hme=>by
      obtain⟨i,hi,rfl⟩:=List.getElem_of_mem hme
      obtain⟨e0,he0,_,h1⟩:=hat i _ (List.getElem?_eq_getElem hi)
      have hl0:e0.length=tss[i].length:=by have:=congrArg List.length (Oy h1);simpa using this
      exact⟨by rw[<- hl0];exact(hw _ e0 he0).1,N1 (List.all_eq_true.2 fun a ha=>by obtain⟨k,hk,rfl⟩:=List.getElem_of_mem ha;exact(hw _ e0 he0).2 k _ (List.getElem?_eq_getElem hk)) h1⟩)
     fun g m hm=>.inr ⟨id,_,by simp[By hl],hm⟩
    obtain⟨e0,he0,hi,h1⟩:=hat i e he
    have h2:=q73 h1 ht
    simp only[List.getElem?_map,Option.map_eq_some_iff]at h2
    obtain⟨a0,ha0,h3⟩:=h2
    exact ih (hrel (off+i) k e0 a0 y he0 ha0 hy) h3
   ·cases hr
  | lp id i k =>
   simp only[Aq]at hr
   obtain⟨g,m,hm,hp⟩:=ha.lp_inv
   split at hr
   ·rename_i ty s es hl
    simp only[Option.some.injEq]at hr;subst hr
    rcases hp with⟨s',n',hs,rfl⟩|⟨hs,_,_⟩
    case inr=>rw[By hl]at hs;cases hs
    rw[By hl]at hs
    simp only[Aj.sh,Option.some.injEq,Sh.sl.injEq]at hs
    obtain⟨rfl,rfl⟩:=hs
    have hx:X g\/q7t st μ g:=.inr ⟨id,_,by simp[By hl],hm⟩
    by_cases hi:i<es.length
    ·obtain⟨g',arr,hm',hheap,hle,hlen,h1,hrr⟩:=(h.reg id _ hl).elem hi
     rw[hm]at hm';cases hm'
     refine TR.mk_ip h1 (hrr.mono (fun _ _=>rfl) (fun _ hb=>.inl hb)) hx (fun j y hy=>?_)
     rw[cell_of_row _ _ _ _ _ _ hheap]
     rw[List.getElem?_take]at hy
     split at hy
     ·rw[List.getElem?_drop]at hy;simpa using hy
     ·cases hy
    ·have:es.getD i []=[]:=by simp[List.getD,hi]
     rw[this]
     exact TR.mk_ip rfl (Ds.nil _ _) hx (fun j y hy=>by simp at hy)
   ·rename_i ty s es hl
    simp only[Option.map_eq_some_iff]at hr
    obtain⟨ts,hts,rfl⟩:=hr
    rcases hp with⟨s',n',hs,rfl⟩|⟨hs,_,_⟩
    case inr=>rw[By hl]at hs;cases hs
    rw[By hl]at hs
    simp only[Aj.sh,Option.some.injEq,Sh.sl.injEq]at hs
    obtain⟨rfl,rfl⟩:=hs
    have hx:X g\/q7t st μ g:=.inr ⟨id,_,by simp[By hl],hm⟩
    by_cases hi:i<es.length
    ·obtain⟨g',arr,hm',hheap,hle,hlen,h1,hrr⟩:=(h.reg id _ hl).elemA hi
     rw[hm]at hm';cases hm'
     refine TR.mk_ip (N1 h1 hts) (Lu hrr (fun c _ t x hc hf=>ih hc hf) hts) hx (fun j y hy=>?_)
     rw[cell_of_row _ _ _ _ _ _ hheap]
     rw[List.getElem?_take]at hy
     split at hy
     ·rw[List.getElem?_drop]at hy;simpa using hy
     ·cases hy
    ·have:es.getD i []=[]:=by simp[List.getD,hi]
     rw[this]at hts
     simp only[List.map_nil,Ac,Option.some.injEq]at hts
     subst hts
     exact TR.mk_ip rfl (Ds.nil _ _) hx (fun j y hy=>by simp at hy)
   ·rename_i cs hl
    simp only[Option.map_eq_some_iff]at hr
    obtain⟨ts,hts,rfl⟩:=hr
    rcases hp with⟨s',n',hs,rfl⟩|⟨hs,rfl,rfl⟩
    ·rw[By hl]at hs;cases hs
    obtain⟨hone,g',arr,ty,hm',hheap,hsz,hrel⟩:=h.reg id _ hl
    rw[hm]at hm';cases hm'
    have hcs:Gf w X μ st.sh cs arr.toList:=⟨by simp[hsz],fun j a y h2 h3=>hrel j a y h2 (by simpa using h3)⟩
    have h1:Aw cs=true:=List.all_eq_true.2 fun t ht=>by obtain⟨j,hj,rfl⟩:=List.getElem_of_mem ht;exact hone j _ (List.getElem?_eq_getElem hj)
    have:=TR.mk_ip (w:=w) (X:=fun b=>X b\/q7t st μ b) (k:=k) (b:=g) (off:=0) (N1 h1 hts) (Lu hcs (fun c _ t x hc hf=>ih hc hf) hts) (.inr ⟨id,_,by simp[By hl],hm⟩) (fun j y hy=>by
     rw[cell_of_row _ _ _ _ _ _ hheap];simpa using hy)
    simpa using this
   ·cases hr
  | li id=>simp[Aq]at hr
  | lb id m =>
   simp only[Aq]at hr
   obtain⟨g,hsb,hm,hmx,rfl⟩:=ha.lb_inv
   split at hr
   ·rename_i cs hl
    simp only[Option.map_eq_some_iff]at hr
    obtain⟨ts,hts,rfl⟩:=hr
    obtain⟨hone,g',arr,ty,hm',hheap,hsz,hrel⟩:=h.reg id _ hl
    rw[hm]at hm';cases hm'
    have hcs:Gf w X μ st.sh cs arr.toList:=⟨by simp[hsz],fun j a y h2 h3=>hrel j a y h2 (by simpa using h3)⟩
    have h1:Aw cs=true:=List.all_eq_true.2 fun t ht=>by obtain⟨j,hj,rfl⟩:=List.getElem_of_mem ht;exact hone j _ (List.getElem?_eq_getElem hj)
    have h1t:=N1 h1 hts
    have hrt:=Lu hcs (fun c _ t x hc hf=>ih hc hf) hts
    have hlen:(ts.map fun t=>[t]).length=arr.size:=by have:=hrt.1;simpa using this
    by_cases h0:ts=[]
    ·subst h0
     have h00:arr.size=0:=by simpa using hlen.symm
     rw[h00]
     exact .nil _ _ _ _ (fun q hq=>by cases hq;rfl) (fun b hb=>by cases hb) (fun e=>by cases e)
    ·have:=TR.mk_sl (w:=w) (X:=fun b=>X b\/q7t st μ b) (es:=ts.map fun t=>[t]) (cap:=some arr.size) (nl:=none) (s:=1) (b:=g) (off:=0) (c:=arr.size) (f:=fun i k=>(arr[i+k]?).getD undef)
      (.inr ⟨id,_,by simp[By hl],hm⟩) (by omega) (fun q hq=>by cases hq;rfl) (fun q hq=>by cases hq) (fun e hme=>by obtain⟨t,_,rfl⟩:=List.mem_map.1 hme;rfl)
      (fun e hme=>by
       obtain⟨t,ht,rfl⟩:=List.mem_map.1 hme
       simpa[Bi]using List.all_eq_true.1 h1t t ht)
      (fun i k hi hk=>by
       rw[cell_of_row _ _ _ _ _ _ hheap,show 0+i*1+k=i+k by omega]
       rw[hlen]at hi
       have:i+k<arr.size:=by omega
       simp[this])
      (fun i k e t he ht=>by
       have hi:=(List.getElem?_eq_some_iff.1 he).1
       simp only[List.getElem?_map,Option.map_eq_some_iff]at he
       obtain⟨t',ht',rfl⟩:=he
       have hk:k=0:=by have:=(List.getElem?_eq_some_iff.1 ht).1;simpa using this
       subst hk
       simp only[List.getElem?_cons_zero,Option.some.injEq]at ht;subst ht
       rw[hlen]at hi
       have:=hrt.2 i t' arr[i] ht' (by simp[hi])
       simpa[hi]using this)
     rw[hlen]at this
     exact this
   ·cases hr
  | lm id =>
   simp only[Aq]at hr
   split at hr
   ·rename_i es hl
    simp only[Option.some.injEq]at hr;subst hr
    obtain⟨g,n',hs,hm,rfl⟩:=ha.lm_inv
    obtain⟨g',n2,clock,ms,hm',hh,hlen,hrel⟩:=h.reg _ _ hl
    rw[hm]at hm';cases hm'
    exact .mp es g clock ms hh (.inr ⟨id,_,by simp[By hl],hm⟩) hlen (fun i e m h1 h2=>(hrel i e m h1 h2).1) (fun i e m h1 h2=>hmono (hrel i e m h1 h2).2)
   ·cases hr
  | dead=>simp[Aq]at hr
  | un=>simp[Aq]at hr
  | tu=>simp[Aq]at hr
end
end Go.Lg
namespace Go.Lg
open Go
def ren0 (φ:Nat->Option Nat):AV->AV
 | .ls i off len cap=>match φ i with|some j=>.ls j off len cap|none=>.dead
 | .lp i a k=>match φ i with|some j=>.lp j a k|none=>.dead
 | .lm i=>match φ i with|some j=>.lm j|none=>.dead
 | .lb i m=>match φ i with|some j=>.lb j m|none=>.dead
 | .li i=>match φ i with|some j=>.li j|none=>.dead
 | .fn f []=>.fn f []
 | .fn _ (_::_)=>.dead
 | .t x=>.t x
 | .dead=>.dead
 | .un=>.un
 | .ag cs=>.ag cs
 | .tu cs=>.tu cs
def ren1 (φ:Nat->Option Nat):AV->AV
 | .fn f cs=>if cs.all Bo then .fn f (cs.map (ren0 φ))else .dead
 | a=>ren0 φ a
@[simp] def ren2 (φ:Nat->Option Nat):AV->AV
 | .ag cs=>.ag (cs.map (ren1 φ))
 | a=>ren1 φ a
def Ag (φ:Nat->Option Nat):AV->AV
 | .ag cs=>.ag (cs.map (ren1 φ))
 | .tu cs=>.tu (cs.map (ren2 φ))
 | a=>ren1 φ a
def Bj (φ:Nat->Option Nat):Aj->Aj
 | .bx cs=>.bx (cs.map (Ag φ))
 | .rs ty s es=>.rs ty s (es.map fun e=>e.map (Ag φ))
 | .mr es=>.mr (es.map fun e=>(e.1,Ag φ e.2))
 | q=>q
theorem N2 {φ:Nat->Option Nat} (q:Aj):(Bj φ q).sh=q.sh:=by cases q<;>simp[Bj,Aj.sh]
section
variable {P:Program} {Γ:Tables} {w0:World} {B:Nat} {κ:Be} {X X':Nat->Prop} {μ μ':Be} {st:St} {tm:Array Value} {w w':World} {sh sh':Nat->Option Sh} {φ:Nat->Option Nat}
theorem AR.ren0 (hsh:∀ i j q,φ i=some j->sh i=some q->sh' j=some q/\μ' j=μ i) {a:AV} {x:Value} (ha:AR w X μ sh a x) (hna:Bo a=true):AR w X μ' sh' (Lg.ren0 φ a) x:=by
 cases ha with
 | t y v hy=>exact .t _ _ hy
 | lsnil i s n hs hm oa cap hq =>
  simp only[Lg.ren0];split
  ·rename_i j hj;exact .lsnil j s n (hsh _ _ _ hj hs).1 ((hsh _ _ _ hj hs).2.trans hm) oa cap hq
  ·exact .dead _ rfl
 | ls i off len s n g m c cap hs hm hle hlc hcm hfit hfull hq ad had =>
  simp only[Lg.ren0];split
  ·rename_i j hj;exact .ls j off len s n g m c cap (hsh _ _ _ hj hs).1 ((hsh _ _ _ hj hs).2.trans hm) hle hlc hcm hfit hfull hq ad had
  ·exact .dead _ rfl
 | lpsl i a k s n g m hs hm =>
  simp only[Lg.ren0];split
  ·rename_i j hj;exact .lpsl j a k s n g m (hsh _ _ _ hj hs).1 ((hsh _ _ _ hj hs).2.trans hm)
  ·exact .dead _ rfl
 | lpbx i k g m hs hm =>
  simp only[Lg.ren0];split
  ·rename_i j hj;exact .lpbx j k g m (hsh _ _ _ hj hs).1 ((hsh _ _ _ hj hs).2.trans hm)
  ·exact .dead _ rfl
 | lm i g m hs hm =>
  simp only[Lg.ren0];split
  ·rename_i j hj;exact .lm j g m (hsh _ _ _ hj hs).1 ((hsh _ _ _ hj hs).2.trans hm)
  ·exact .dead _ rfl
 | lb i g m hs hm hle =>
  simp only[Lg.ren0];split
  ·rename_i j hj;exact .lb j g m (hsh _ _ _ hj hs).1 ((hsh _ _ _ hj hs).2.trans hm) hle
  ·exact .dead _ rfl
 | li i g m hs hm =>
  simp only[Lg.ren0];split
  ·rename_i j hj;exact .li j g m (hsh _ _ _ hj hs).1 ((hsh _ _ _ hj hs).2.trans hm)
  ·exact .dead _ rfl
 | fn f cs xs hlen hrel =>
  cases cs with
  | nil=>exact .fn f [] xs hlen (fun k a x h=>by simp at h)
  | cons c cs=>exact .dead _ (q0R _ _)
 | dead v h=>exact .dead _ h
 | un=>exact .un
 | ag=>simp[Bo]at hna
 | tu=>simp[Bo]at hna
theorem AR.ren1 (hsh:∀ i j q,φ i=some j->sh i=some q->sh' j=some q/\μ' j=μ i) {a:AV} {x:Value} (ha:AR w X μ sh a x) (hna:Bo a=true):AR w X μ' sh' (Lg.ren1 φ a) x:=by
 by_cases hf:∃ f cs,a=.fn f cs
 ·obtain⟨f,cs,rfl⟩:=hf
  simp only[Lg.ren1]
  split
  ·rename_i hall
   cases ha with
   | fn f cs xs hlen hrel =>
    refine .fn f _ xs (by simpa using hlen) fun k a x ha hx=>?_
    simp only[List.getElem?_map,Option.map_eq_some_iff]at ha
    obtain⟨b,hb,rfl⟩:=ha
    exact(hrel k b x hb hx).ren0 hsh (List.all_eq_true.1 hall b (List.mem_of_getElem? hb))
  ·cases ha;exact .dead _ (q0R _ _)
 ·have e:Lg.ren1 φ a=Lg.ren0 φ a:=by cases a<;>first|rfl|exact absurd ⟨_,_,rfl⟩ hf
  rw[e];exact ha.ren0 hsh hna
theorem qDN {a:AV} (h:a.one=true):(Lg.ren0 φ a).one=true:=by
 cases a with
 | fn f cs=>cases cs<;>rfl
 | ag cs=>simp[AV.one]at h
 | tu cs=>simp[AV.one]at h
 | un=>simp[AV.one]at h
 | t x=>exact h
 | dead=>rfl
 | ls i off len cap=>simp only[Lg.ren0];split<;>rfl
 | lp i j k=>simp only[Lg.ren0];split<;>rfl
 | lm i=>simp only[Lg.ren0];split<;>rfl
 | lb i m=>simp only[Lg.ren0];split<;>rfl
 | li i=>simp only[Lg.ren0];split<;>rfl
theorem q8n {a:AV} (h:a.one=true):(Lg.ren1 φ a).one=true:=by
 by_cases hf:∃ f cs,a=.fn f cs
 ·obtain⟨f,cs,rfl⟩:=hf
  simp only[Lg.ren1];split<;>rfl
 ·have e:Lg.ren1 φ a=Lg.ren0 φ a:=by cases a<;>first|rfl|exact absurd ⟨_,_,rfl⟩ hf
  rw[e];exact qDN h
theorem q5B {a:AV} (h:a.one=true):(Ag φ a).one=true:=by
 have e:Ag φ a=Lg.ren1 φ a:=by cases a<;>first|rfl|simp[AV.one]at h
 rw[e];exact q8n h
theorem qA8 {a:AV} (h:Bo a=true):Bo (Lg.ren0 φ a)=true:=by
 cases a with
 | ag=>simp[Bo]at h
 | tu=>simp[Bo]at h
 | fn f cs=>cases cs<;>rfl
 | t|dead|un=>rfl
 | _=>simp only[Lg.ren0];split<;>rfl
theorem qA9 {a:AV} (h:Bo a=true):Bo (Lg.ren1 φ a)=true:=by
 by_cases hf:∃ f cs,a=.fn f cs
 ·obtain⟨f,cs,rfl⟩:=hf
  simp only[Lg.ren1];split<;>rfl
 ·have e:Lg.ren1 φ a=Lg.ren0 φ a:=by cases a<;>first|rfl|exact absurd ⟨_,_,rfl⟩ hf
  rw[e];exact qA8 h
theorem AR.ren2 (hsh:∀ i j q,φ i=some j->sh i=some q->sh' j=some q/\μ' j=μ i) {a:AV} {x:Value} (ha:AR w X μ sh a x) (ht:I9 a=true):AR w X μ' sh' (Lg.ren2 φ a) x:=by
 by_cases hg:Bo a=true
 ·have e:Lg.ren2 φ a=Lg.ren1 φ a:=by cases a<;>first|rfl|simp[Bo]at hg
  rw[e];exact ha.ren1 hsh hg
 ·cases a with
  | ag cs =>
   obtain⟨xs,rfl,h1,hr⟩:=ha.ag_inv
   refine AR.mk_ag (List.all_eq_true.2 fun b hb=>?_) ⟨by simpa using hr.1,fun k b y hb hy=>?_⟩
   ·obtain⟨c,hc,rfl⟩:=List.mem_map.1 hb
    exact q8n (List.all_eq_true.1 h1 c hc)
   ·simp only[List.getElem?_map,Option.map_eq_some_iff]at hb
    obtain⟨c,hc',rfl⟩:=hb
    exact(hr.2 k c y hc' hy).ren1 hsh (Vw (K5 h1 hc'))
  | tu cs=>cases ht
  | _=>exact absurd rfl hg
theorem qAA {a:AV} (h:I9 a=true):I9 (Lg.ren2 φ a)=true:=by
 by_cases ha:Bo a=true
 ·have e:Lg.ren2 φ a=Lg.ren1 φ a:=by cases a<;>first|rfl|simp[Bo]at ha
  rw[e];exact Zc (qA9 ha)
 ·cases a<;>first|rfl|exact absurd rfl ha|cases h
theorem AR.ren (hsh:∀ i j q,φ i=some j->sh i=some q->sh' j=some q/\μ' j=μ i) {a:AV} {x:Value} (ha:AR w X μ sh a x):AR w X μ' sh' (Ag φ a) x:=by
 by_cases hg:I9 a=true
 ·have e:Ag φ a=Lg.ren2 φ a:=by cases a<;>first|rfl|simp[I9]at hg
  rw[e];exact ha.ren2 hsh hg
 ·cases a with
  | tu cs =>
   obtain⟨xs,rfl,h1,hr⟩:=ha.tu_inv
   refine AR.mk_tu (fun k b hb=>?_) ⟨by simpa using hr.1,fun k b y hb hy=>?_⟩
   ·simp only[List.getElem?_map,Option.map_eq_some_iff]at hb
    obtain⟨c,hc',rfl⟩:=hb
    exact qAA (h1 k c hc')
   ·simp only[List.getElem?_map,Option.map_eq_some_iff]at hb
    obtain⟨c,hc',rfl⟩:=hb
    exact(hr.2 k c y hc' hy).ren2 hsh (h1 k c hc')
  | _=>exact absurd rfl hg
theorem Gf.ren (hsh:∀ i j q,φ i=some j->sh i=some q->sh' j=some q/\μ' j=μ i) {as:List AV} {xs:List Value} (ha:Gf w X μ sh as xs):Gf w X μ' sh' (as.map (Ag φ)) xs :=
 ⟨by simpa using ha.1,fun k a x h hx=>by
  simp only[List.getElem?_map,Option.map_eq_some_iff]at h
  obtain⟨b,hb,rfl⟩:=h
  exact(ha.2 k b x hb hx).ren hsh⟩
theorem Bv.ren {id id':Nat} {r:Aj} (hsh:∀ i j q,φ i=some j->sh i=some q->sh' j=some q/\μ' j=μ i) (hid:μ' id'=μ id) (h:Bv w X μ sh id r):Bv w X μ' sh' id' (Bj φ r):=by
 cases r with
 | sl ty s es =>
  refine⟨h.1,h.2.imp (fun⟨h1,h2⟩=>⟨h1,hid.trans h2⟩) fun⟨g,arr,hm,hr⟩=>⟨g,arr,hid.trans hm,hr⟩⟩
 | mp es=>obtain⟨g,n,clock,ms,hm,hr⟩:=h;exact⟨g,n,clock,ms,hid.trans hm,hr⟩
 | it s pos=>obtain⟨g,n,hm,hr⟩:=h;exact⟨g,n,hid.trans hm,hr⟩
 | rs ty s es=>exact Bv.rs_map (fun a=>Ag φ a) (fun _ q=>q5B q) (fun _ _ q=>q.ren hsh) hid (fun _ _ _=>rfl) h
 | mr es=>exact Bv.mr_map (fun a=>Ag φ a) (fun _ _ q=>q.ren hsh) hid (fun _ _ _=>rfl) h
 | bx cs =>
  obtain⟨h1,g,arr,ty,hm,hg,hle,hr⟩:=h
  refine⟨fun k a ha=>?_,g,arr,ty,hid.trans hm,hg,by simpa using hle,fun k a x ha hx=>?_⟩
  ·simp only[List.getElem?_map,Option.map_eq_some_iff]at ha
   obtain⟨b,hb,rfl⟩:=ha
   exact q5B (h1 k b hb)
  ·simp only[List.getElem?_map,Option.map_eq_some_iff]at ha
   obtain⟨b,hb,rfl⟩:=ha
   exact(hr k b x hb hx).ren hsh
def Bl (P:Program) (Γ:Tables) (f:FuncId) (hp:List (Nat×Aj)) (args:List AV) (res:AV) (hp':List (Nat×Aj)):Prop :=
 ∀ (w:World) (X:Nat->Prop) (κ:Be) (vs:List Value),Gl Γ w X->(∀ id,κ id≠none->A2 hp id≠none)->B0 w w.heap.size κ X κ ⟨[],hp⟩ #[] w->Gf w X κ (St.sh ⟨[],hp⟩) args vs ->
  Vh P f vs.toArray w fun v w'=>∃ X' μ',B0 w w.heap.size κ X' μ' ⟨[],hp'⟩ #[] w'/\AR w' X' μ' (St.sh ⟨[],hp'⟩) res v/\(∀ b,X b->X' b)/\(∀ b,X' b->X b\/w.heap.size<=b\/∃ id n,κ id=some (b,n))
theorem Bl.alike {f:FuncId} {hp hq:List (Nat×Aj)} {args:List AV} {res:AV} {hp':List (Nat×Aj)} (hl:∀ t,A2 hq t=A2 hp t) (h:Bl P Γ f hp args res hp'):Bl P Γ f hq args res hp':=by
 intro w X κ vs hg hk hs ha
 have e:St.sh ⟨[],hq⟩=St.sh ⟨[],hp⟩:=funext fun t=>by simp only[St.sh,hl]
 refine h w X κ vs hg (fun id hi=>by rw[<- hl];exact hk id hi) ?_ (by rw[<- e];exact ha)
 refine⟨fun t a ht=>by simp[A2]at ht,fun id r hr=>?_,?_,?_,?_,hs.kbig,hs.xlt,hs.os,hs.tape,hs.output,hs.size,hs.fr⟩
 ·rw[<- e];exact hs.reg id r (by show A2 hq id=_;rw[hl];exact hr)
 ·rw[<- e];exact hs.inj
 ·rw[<- e];exact hs.loc
 ·rw[<- e];exact hs.kap
def Uc (rs:List Nat) (i:Nat):Option Nat:=if rs.contains i then some (1000000+rs.idxOf i)else none
def P2 (rs:List Nat) (base j:Nat):Nat:=if j<1000000 then base+j else rs.getD (j-1000000) 0
def Ba (rs:List Nat) (hp:List (Nat×Aj)):List (Nat×Aj):=rs.filterMap fun i=>(A2 hp i).map fun r=>(1000000+rs.idxOf i,Bj (Uc rs) r)
def Fo (rs:List Nat) (base:Nat):List (Nat×Aj)->List (Nat×Aj)
 | []=>[]
 | (j,r)::l=>if j<1000000 then(base+j,Bj (fun i=>some (P2 rs base i)) r)::Fo rs base l else Fo rs base l
def Vi (rs:List Nat) (hp':List (Nat×Aj)) (i:Nat):Option Nat:=if rs.contains i&&(A2 hp' (1000000+rs.idxOf i)).isNone then none else some i
def q0u (rs:List Nat) (base:Nat) (hp':List (Nat×Aj)):List (Nat×Aj)->List (Nat×Aj)
 | []=>[]
 | (t,q)::l =>
  if rs.contains t then(match A2 hp' (1000000+rs.idxOf t) with
   | some r=>(t,Bj (fun i=>some (P2 rs base i)) r)::q0u rs base hp' l
   | none=>q0u rs base hp' l)
  else(t,Bj (Vi rs hp') q)::q0u rs base hp' l
def C6 (rs:List Nat) (base:Nat) (hp':List (Nat×Aj)) (st:St):St:=⟨st.env.map fun p=>(p.1,Ag (Vi rs hp') p.2),Fo rs base hp'++q0u rs base hp' st.hp⟩
def Qf (rs:List Nat) (base:Nat) (hp:List (Nat×Aj)):List (Nat×Aj)->Prop
 | []=>True
 | (j,r)::l=>(if j<1000000 then A2 hp (base+j)=none/\base+j<1000000 else j-1000000<rs.length/\(A2 hp (rs.getD (j-1000000) 0)).map Aj.sh=some r.sh)/\Qf rs base hp l
theorem q2A {rs:List Nat} {base:Nat} {hp:List (Nat×Aj)}:∀ {hp':List (Nat×Aj)} {j:Nat} {r:Aj},Qf rs base hp hp'->A2 hp' j=some r ->
  if j<1000000 then A2 hp (base+j)=none/\base+j<1000000 else j-1000000<rs.length/\(A2 hp (rs.getD (j-1000000) 0)).map Aj.sh=some r.sh
 | [],j,r,_,h=>by simp[A2]at h
 | (k,q)::l,j,r,ho,h=>by
  simp only[A2]at h
  split at h
  ·rename_i e;subst e;simp only[Option.some.injEq]at h;subst h;exact ho.1
  ·exact q2A ho.2 h
theorem q0Y {rs:List Nat} {base t:Nat}:∀ {hp':List (Nat×Aj)},A2 (Fo rs base hp') t=if base<=t/\t-base<1000000 then(A2 hp' (t-base)).map (Bj fun i=>some (P2 rs base i))else none
 | []=>by simp[Fo,A2]
 | (j,r)::l=>by
  have ih:=q0Y (rs:=rs) (base:=base) (t:=t) (hp':=l)
  simp only[Fo]
  split
  ·rename_i hj
   simp only[A2,ih]
   by_cases e:base+j=t
   ·have h1:base<=t/\t-base<1000000:=by omega
    have h2:j=t-base:=by omega
    simp[e,h1,h2]
   ·by_cases h1:base<=t/\t-base<1000000
    ·have h2:¬ j=t-base:=by omega
     simp[e,h1,h2]
    ·simp[e,h1]
  ·rename_i hj
   rw[ih]
   by_cases h1:base<=t/\t-base<1000000
   ·have h2:¬ j=t-base:=by omega
    simp[h1,A2,h2]
   ·simp[h1]
theorem Il {rs:List Nat} {base t:Nat} {hp':List (Nat×Aj)}:∀ {hp:List (Nat×Aj)},A2 (q0u rs base hp' hp) t =
  if rs.contains t then(A2 hp t).bind fun _=>(A2 hp' (1000000+rs.idxOf t)).map (Bj fun i=>some (P2 rs base i)) else(A2 hp t).map (Bj (Vi rs hp'))
 | []=>by simp[q0u,A2]
 | (k,q)::l=>by
  have ih:=Il (rs:=rs) (base:=base) (t:=t) (hp':=hp') (hp:=l)
  simp only[q0u]
  by_cases e:k=t
  ·subst e
   by_cases hc:rs.contains k
   ·simp only[hc,↓reduceIte]at ih ⊢
    split
    ·rename_i r hr;simp[A2,hr]
    ·rename_i hr;rw[ih];simp[A2,hr]
   ·simp only[hc,Bool.false_eq_true,↓reduceIte,A2,Option.map_some]
  ·by_cases hc:rs.contains k
   ·simp only[hc,↓reduceIte]
    split
    ·simp only[A2,e,↓reduceIte,ih]
    ·simp only[A2,e,↓reduceIte,ih]
   ·simp only[hc,Bool.false_eq_true,↓reduceIte,A2,e,ih]
theorem B8 {α:Type} {a b:List (Nat×α)} {t:Nat}:A2 (a++b) t=(A2 a t).or (A2 b t):=by
 induction a with
 | nil=>simp[A2]
 | cons p a ih =>
  simp only[List.cons_append,A2]
  split
  ·simp
  ·exact ih
theorem q74 {rs:List Nat} {hp:List (Nat×Aj)} {j:Nat} {r:Aj} (h:A2 (Ba rs hp) j=some r):∃ i q,i∈rs/\A2 hp i=some q/\j=1000000+rs.idxOf i/\r=Bj (Uc rs) q:=by
 have key:∀ l:List Nat,(∀ i∈l,i∈rs)->A2 (l.filterMap fun i=>(A2 hp i).map fun r=>(1000000+rs.idxOf i,Bj (Uc rs) r)) j=some r->∃ i q,i∈rs/\A2 hp i=some q/\j=1000000+rs.idxOf i/\r=Bj (Uc rs) q:=by
  intro l
  induction l with
  | nil=>intro _ h;simp[A2]at h
  | cons i l ih =>
   intro hm h
   rw[List.filterMap_cons]at h
   cases hq:A2 hp i with
   | none=>rw[hq]at h;exact ih (fun i hi=>hm i (List.mem_cons_of_mem _ hi)) h
   | some q =>
    rw[hq]at h
    simp only[Option.map_some,A2]at h
    split at h
    ·rename_i e
     simp only[Option.some.injEq]at h
     exact⟨i,q,hm i List.mem_cons_self,hq,e.symm,h.symm⟩
    ·exact ih (fun i hi=>hm i (List.mem_cons_of_mem _ hi)) h
 exact key rs (fun _ h=>h) h
theorem q5C {rs:List Nat} {hp:List (Nat×Aj)} {i:Nat} {q:Aj} (hi:i∈rs) (hq:A2 hp i=some q):A2 (Ba rs hp) (1000000+rs.idxOf i)=some (Bj (Uc rs) q):=by
 have key:∀ l:List Nat,i∈l->(∀ i∈l,i∈rs)->A2 (l.filterMap fun i=>(A2 hp i).map fun r=>(1000000+rs.idxOf i,Bj (Uc rs) r)) (1000000+rs.idxOf i)=some (Bj (Uc rs) q):=by
  intro l
  induction l with
  | nil=>intro h;cases h
  | cons k l ih =>
   intro h hm
   rw[List.filterMap_cons]
   by_cases e:k=i
   ·subst e;simp[hq,A2]
   ·have hne:rs.idxOf k≠rs.idxOf i:=by
     intro he
     have h1:=List.getElem_idxOf (List.idxOf_lt_length_of_mem (hm k List.mem_cons_self))
     have h2:=List.getElem_idxOf (List.idxOf_lt_length_of_mem hi)
     apply e
     rw[<- h1,<- h2]
     simp only[he]
    have ih':=ih (by rcases List.mem_cons.1 h with h|h;exact absurd h.symm e;exact h) (fun i hi=>hm i (List.mem_cons_of_mem _ hi))
    cases A2 hp k with
    | none=>exact ih'
    | some r =>
     simp only[Option.map_some,A2]
     rw[if_neg (by omega)]
     exact ih'
 exact key rs hi (fun _ h=>h)
theorem q2B {rs:List Nat} {k:Nat} (h:k<rs.length):rs.getD k 0=rs[k]:=by simp[List.getD,h]
def Gm (μ:Be) (st:St) (rs:List Nat):Be:=fun j=>if 1000000<=j/\j-1000000<rs.length/\st.sh (rs.getD (j-1000000) 0)≠none then μ (rs.getD (j-1000000) 0)else none
theorem D2 {rs:List Nat} {j:Nat} {l:Nat×Nat} (h:Gm μ st rs j=some l):∃ t,t∈rs/\st.sh t≠none/\μ t=some l:=by
 unfold Gm at h
 split at h
 ·rename_i hc
  refine⟨_,?_,hc.2.2,h⟩
  simp[List.getD,hc.2.1]
 ·cases h
theorem Nj {rs:List Nat} {t:Nat} (ht:t∈rs) (hs:st.sh t≠none):Gm μ st rs (1000000+rs.idxOf t)=μ t:=by
 have hlt:=List.idxOf_lt_length_of_mem ht
 have e:rs.getD (rs.idxOf t) 0=t:=by simp[List.getD,hlt]
 unfold Gm
 have e2:1000000+rs.idxOf t-1000000=rs.idxOf t:=by omega
 rw[e2,e,if_pos ⟨by omega,hlt,hs⟩]
theorem Uj {rs:List Nat} {t:Nat} {q:Sh} (ht:t∈rs) (hs:st.sh t=some q):St.sh ⟨[],Ba rs st.hp⟩ (1000000+rs.idxOf t)=some q:=by
 simp only[St.sh,Option.map_eq_some_iff]at hs ⊢
 obtain⟨r,hr,rfl⟩:=hs
 exact⟨_,q5C ht hr,N2 _⟩
theorem Uk {rs:List Nat} {j:Nat} (hs:St.sh ⟨[],Ba rs st.hp⟩ j≠none):∃ t,t∈rs/\j=1000000+rs.idxOf t/\st.sh t≠none:=by
 cases h:A2 (Ba rs st.hp) j with
 | none=>exact absurd (by simp[St.sh,h]) hs
 | some r =>
  obtain⟨i,q,h1,h2,h3,_⟩:=q74 h
  exact⟨i,h1,h3,by simp[St.sh,h2]⟩
theorem qFT {rs:List Nat} {a b:Nat} (ha:a∈rs) (hb:b∈rs) (h:rs.idxOf a=rs.idxOf b):a=b:=by
 have h1:=List.getElem_idxOf (List.idxOf_lt_length_of_mem ha)
 have h2:=List.getElem_idxOf (List.idxOf_lt_length_of_mem hb)
 rw[<- h1,<- h2]
 simp only[h]
theorem B0.hand (h:B0 w0 B κ X μ st tm w) (rs:List Nat):B0 w w.heap.size (Gm μ st rs) X (Gm μ st rs) ⟨[],Ba rs st.hp⟩ #[] w:=by
 have hfw:∀ i j q,Uc rs i=some j->st.sh i=some q->St.sh ⟨[],Ba rs st.hp⟩ j=some q/\Gm μ st rs j=μ i:=by
  intro i j q hj hs
  unfold Uc at hj
  split at hj
  ·rename_i hc
   have hm:i∈rs:=by simpa using hc
   simp only[Option.some.injEq]at hj;subst hj
   exact⟨Uj hm hs,Nj hm (by simp[hs])⟩
  ·cases hj
 refine⟨fun t a ht=>by simp[A2]at ht,?_,?_,?_,fun _ _ _=>rfl,?_,h.xlt,rfl,rfl,rfl,Nat.le_refl _,fun _ _ _=>rfl⟩
 ·intro id r hr
  obtain⟨i,q,h1,h2,rfl,rfl⟩:=q74 hr
  exact(h.reg i q h2).ren hfw (Nj h1 (by simp[St.sh,h2]))
 ·intro a b g n n' ha hb hma hmb
  obtain⟨i,h1,rfl,h2⟩:=Uk ha
  obtain⟨j,h3,rfl,h4⟩:=Uk hb
  rw[Nj h1 h2]at hma
  rw[Nj h3 h4]at hmb
  rw[h.inj i j g n n' h2 h4 hma hmb]
 ·intro a g n ha hm
  obtain⟨i,h1,rfl,h2⟩:=Uk ha
  have hm':=hm
  rw[Nj h1 h2]at hm'
  obtain⟨h5,h6,_⟩:=h.loc i g n h2 hm'
  exact⟨h5,h6,fun _=>⟨_,_,hm⟩⟩
 ·intro j l hk
  unfold Gm at hk
  split at hk
  ·rename_i hc;exact hc.1
  ·cases hk
theorem W5 {rs:List Nat} {as:List AV} {xs:List Value} (h:B0 w0 B κ X μ st tm w) (ha:Gf w X μ st.sh as xs):Gf w X (Gm μ st rs) (St.sh ⟨[],Ba rs st.hp⟩) (as.map (Ag (Uc rs))) xs:=by
 refine ha.ren fun i j q hj hs=>?_
 unfold Uc at hj
 split at hj
 ·rename_i hc
  have hm:i∈rs:=by simpa using hc
  simp only[Option.some.injEq]at hj;subst hj
  exact⟨Uj hm hs,Nj hm (by simp[hs])⟩
 ·cases hj
def Kz (μ μ':Be) (base:Nat) (hp':List (Nat×Aj)):Be:=fun t=>if base<=t/\t-base<1000000/\A2 hp' (t-base)≠none then μ' (t-base)else μ t
theorem B0.back {rs:List Nat} {base:Nat} {hp':List (Nat×Aj)} (hnd:rs.Nodup) (h:B0 w0 B κ X μ st tm w) (h':B0 w w.heap.size (Gm μ st rs) X' μ' ⟨[],hp'⟩ #[] w') (hok:Qf rs base st.hp hp') (hX:∀ b,X b->X' b)
  (hX':∀ b,X' b->X b\/w.heap.size<=b\/∃ id n,Gm μ st rs id=some (b,n)) :
  B0 w0 B κ X' (Kz μ μ' base hp') (C6 rs base hp' st) tm w'/\Same X w w' /\
   ∀ i q,St.sh ⟨[],hp'⟩ i=some q->(C6 rs base hp' st).sh (P2 rs base i)=some q/\Kz μ μ' base hp' (P2 rs base i)=μ' i:=by
 have hsame:Same X w w':=by
  intro b hb
  refine h'.fr b (h.xlt b hb) fun id n hk=>?_
  obtain⟨t,_,h2,h3⟩:=D2 hk
  exact(h.loc t b n h2 h3).1 hb
 have hlook:∀ t,A2 (C6 rs base hp' st).hp t=((if base<=t/\t-base<1000000 then(A2 hp' (t-base)).map (Bj fun i=>some (P2 rs base i))else none).or
   (if rs.contains t then(A2 st.hp t).bind fun _=>(A2 hp' (1000000+rs.idxOf t)).map (Bj fun i=>some (P2 rs base i)) else(A2 st.hp t).map (Bj (Vi rs hp')))):=fun t=>by
  simp only[C6,B8,q0Y,Il]
 have hnew:∀ t,base<=t/\t-base<1000000/\A2 hp' (t-base)≠none->A2 st.hp t=none/\t<1000000:=by
  intro t ⟨h1,h2,h3⟩
  cases hr:A2 hp' (t-base) with
  | none=>exact absurd hr h3
  | some r =>
   have:=q2A hok hr
   rw[if_pos h2]at this
   have e:base+(t-base)=t:=by omega
   rw[e]at this;exact this
 have hold:∀ j r,A2 hp' j=some r->¬ j<1000000->∃ t,t∈rs/\j=1000000+rs.idxOf t/\P2 rs base j=t/\st.sh t=some r.sh:=by
  intro j r hr hj
  have:=q2A hok hr
  rw[if_neg hj]at this
  obtain⟨h1,h2⟩:=this
  have hg:rs.getD (j-1000000) 0=rs[j-1000000]:=by simp[List.getD,h1]
  refine⟨rs[j-1000000],List.getElem_mem h1,?_,by simp only[P2,hj,↓reduceIte,hg],by rw[hg]at h2;exact h2⟩
  rw[hnd.idxOf_getElem];omega
 have hbwd:∀ i q,St.sh ⟨[],hp'⟩ i=some q->(C6 rs base hp' st).sh (P2 rs base i)=some q/\Kz μ μ' base hp' (P2 rs base i)=μ' i:=by
  intro i q hq
  simp only[St.sh,Option.map_eq_some_iff]at hq
  obtain⟨r,hr,rfl⟩:=hq
  by_cases hi:i<1000000
  ·have e:base+i-base=i:=by omega
   have hb:P2 rs base i=base+i:=by simp[P2,hi]
   rw[hb]
   constructor
   ·simp only[St.sh,hlook,e]
    rw[if_pos ⟨by omega,hi⟩]
    simp[hr,N2]
   ·simp only[Kz,e]
    rw[if_pos ⟨by omega,hi,by simp[hr]⟩]
  ·obtain⟨t,ht,rfl,hb,hs⟩:=hold i r hr hi
   rw[hb]
   have hnn:¬ (base<=t/\t-base<1000000/\A2 hp' (t-base)≠none):=fun hc=>by
    have:=(hnew t hc).1
    simp[St.sh,this]at hs
   have hts:st.sh t≠none:=by simp[hs]
   have hz:(if base<=t/\t-base<1000000 then(A2 hp' (t-base)).map (Bj fun i=>some (P2 rs base i))else none)=none:=by
    split
    ·rename_i hc
     cases hl:A2 hp' (t-base) with
     | none=>rfl
     | some _=>exact absurd ⟨hc.1,hc.2,by simp[hl]⟩ hnn
    ·rfl
   constructor
   ·obtain⟨q0,hq0⟩:∃ q0,A2 st.hp t=some q0:=by
     cases hl:A2 st.hp t with
     | none=>simp[St.sh,hl]at hs
     | some q0=>exact⟨q0,rfl⟩
    have hct:rs.contains t=true:=by simpa using ht
    show(A2 (C6 rs base hp' st).hp t).map Aj.sh=_
    rw[hlook,hz]
    simp[ht,hq0,hr,N2]
   ·simp only[Kz]
    rw[if_neg hnn,h'.kap _ (by omega) (by simp[St.sh,hr]),Nj ht hts]
 have hgone:∀ i j q,Vi rs hp' i=some j->st.sh i=some q->(C6 rs base hp' st).sh j=some q/\Kz μ μ' base hp' j=μ i:=by
  intro i j q hg hs
  unfold Vi at hg
  split at hg
  ·cases hg
  rename_i hc
  simp only[Option.some.injEq]at hg;subst hg
  have his:A2 st.hp i≠none:=fun e=>by simp[St.sh,e]at hs
  have hnn:¬ (base<=i/\i-base<1000000/\A2 hp' (i-base)≠none):=fun hc=>his (hnew i hc).1
  have hz:(if base<=i/\i-base<1000000 then(A2 hp' (i-base)).map (Bj fun i=>some (P2 rs base i))else none)=none:=by
   split
   ·rename_i hc
    cases hl:A2 hp' (i-base) with
    | none=>rfl
    | some _=>exact absurd ⟨hc.1,hc.2,by simp[hl]⟩ hnn
   ·rfl
  refine⟨?_,by simp only[Kz];rw[if_neg hnn]⟩
  obtain⟨q0,hq0⟩:∃ q0,A2 st.hp i=some q0:=by
   cases hl:A2 st.hp i with
   | none=>exact absurd hl his
   | some q0=>exact⟨q0,rfl⟩
  have hq0s:q0.sh=q:=by simpa[St.sh,hq0]using hs
  by_cases hm:i∈rs
  ·have hct:rs.contains i=true:=by simpa using hm
   simp only[hct,Bool.true_and,Bool.not_eq_true,Option.isNone_eq_false_iff,Option.isSome_iff_exists]at hc
   obtain⟨r,hr⟩:=hc
   obtain⟨t,ht,he,_,hs'⟩:=hold _ r hr (by omega)
   have:=qFT hm ht (by omega)
   subst this
   have hrs:r.sh=q:=by rw[hs]at hs';simpa using hs'.symm
   show(A2 (C6 rs base hp' st).hp i).map Aj.sh=_
   rw[hlook,hz]
   simp[hm,hq0,hr,N2,hrs]
  ·show(A2 (C6 rs base hp' st).hp i).map Aj.sh=_
   rw[hlook,hz]
   simp[hm,hq0,N2,hq0s]
 -- every region behind the call: a new one, one that came back, one that was not handed over
 have hcase:∀ t r,A2 (C6 rs base hp' st).hp t=some r->(∃ r',base<=t/\t-base<1000000/\A2 hp' (t-base)=some r'/\r=Bj (fun i=>some (P2 rs base i)) r'/\Kz μ μ' base hp' t=μ' (t-base)) \/
   (t∈rs/\st.sh t≠none/\Kz μ μ' base hp' t=μ t/\∃ r',A2 hp' (1000000+rs.idxOf t)=some r'/\r=Bj (fun i=>some (P2 rs base i)) r') \/
   (t∉rs/\Kz μ μ' base hp' t=μ t/\∃ q,A2 st.hp t=some q/\r=Bj (Vi rs hp') q):=by
  intro t r hr
  rw[hlook]at hr
  by_cases hn:base<=t/\t-base<1000000/\A2 hp' (t-base)≠none
  ·obtain⟨r',hr'⟩:∃ r',A2 hp' (t-base)=some r':=by
    cases hl:A2 hp' (t-base) with
    | none=>exact absurd hl hn.2.2
    | some r'=>exact⟨r',rfl⟩
   rw[if_pos ⟨hn.1,hn.2.1⟩]at hr
   simp only[hr',Option.map_some,Option.some_or,Option.some.injEq]at hr
   exact .inl ⟨r',hn.1,hn.2.1,hr',hr.symm,by simp only[Kz];rw[if_pos hn]⟩
  ·have hz:(if base<=t/\t-base<1000000 then(A2 hp' (t-base)).map (Bj fun i=>some (P2 rs base i))else none)=none:=by
    split
    ·rename_i hc
     cases hl:A2 hp' (t-base) with
     | none=>rfl
     | some _=>exact absurd ⟨hc.1,hc.2,by simp[hl]⟩ hn
    ·rfl
   have hbm:Kz μ μ' base hp' t=μ t:=by simp only[Kz];rw[if_neg hn]
   rw[hz]at hr
   simp only[Option.none_or]at hr
   by_cases hm:t∈rs
   ·have hct:rs.contains t=true:=by simpa using hm
    simp only[hct,↓reduceIte,Option.bind_eq_some_iff,Option.map_eq_some_iff]at hr
    obtain⟨q,hq,r',hr',rfl⟩:=hr
    exact .inr (.inl ⟨hm,by simp[St.sh,hq],hbm,r',hr',rfl⟩)
   ·have hct:rs.contains t=false:=by simpa using hm
    simp only[hct,Bool.false_eq_true,↓reduceIte,Option.map_eq_some_iff]at hr
    obtain⟨q,hq,rfl⟩:=hr
    exact .inr (.inr ⟨hm,hbm,q,hq,rfl⟩)
 have hshc:∀ t,(C6 rs base hp' st).sh t≠none->(∃ r',base<=t/\t-base<1000000/\A2 hp' (t-base)=some r'/\Kz μ μ' base hp' t=μ' (t-base)) \/
   (t∈rs/\st.sh t≠none/\Kz μ μ' base hp' t=μ t/\A2 hp' (1000000+rs.idxOf t)≠none)\/(t∉rs/\st.sh t≠none/\Kz μ μ' base hp' t=μ t):=by
  intro t ht
  cases hl:A2 (C6 rs base hp' st).hp t with
  | none=>exact absurd (by simp[St.sh,hl]) ht
  | some r =>
   rcases hcase t r hl with⟨r',h1,h2,h3,_,h4⟩|⟨h1,h2,h3,r',h4,_⟩|⟨h1,h2,q,h3,_⟩
   ·exact .inl ⟨r',h1,h2,h3,h4⟩
   ·exact .inr (.inl ⟨h1,h2,h3,by simp[h4]⟩)
   ·exact .inr (.inr ⟨h1,by simp[St.sh,h3],h2⟩)
 have shp:∀ j r,A2 hp' j=some r->St.sh ⟨[],hp'⟩ j≠none:=fun j r hr=>by simp[St.sh,hr]
 have hmono:∀ {a:AV} {x:Value} {sh0:Nat->Option Sh} {μ0:Be},AR w X μ0 sh0 a x->AR w' X' μ0 sh0 a x:=fun ha=>ha.mono hsame hX (fun _ _ hq=>⟨hq,rfl⟩)
 refine⟨⟨?_,?_,?_,?_,?_,h.kbig,h'.xlt,h'.os.trans h.os,h'.tape.trans h.tape,h'.output.trans h.output,Nat.le_trans h.size h'.size,?_⟩,hsame,hbwd⟩
 ·intro t a ht
  have h1:A2 (st.env.map fun p=>(p.1,Ag (Vi rs hp') p.2)) t=(A2 st.env t).map (Ag (Vi rs hp')):=Cc _ _ _
  have ht':A2 (st.env.map fun p=>(p.1,Ag (Vi rs hp') p.2)) t=some a:=ht
  rw[h1,Option.map_eq_some_iff]at ht'
  obtain⟨b,hb,rfl⟩:=ht'
  exact(hmono (h.env t b hb)).ren hgone
 ·intro t r hr
  rcases hcase t r hr with⟨r',h1,h2,h3,rfl,h4⟩|⟨h1,h2,h3,r',h4,rfl⟩|⟨h1,h2,q,h3,rfl⟩
  ·exact(h'.reg _ r' h3).ren (fun i j q hj hs=>by cases hj;exact hbwd i q hs) h4
  ·refine(h'.reg _ r' h4).ren (fun i j q hj hs=>by cases hj;exact hbwd i q hs) ?_
   rw[h3,h'.kap _ (by omega) (shp _ _ h4),Nj h1 h2]
  ·refine((h.reg t q h3).mono hsame hX (fun _ _ hq=>⟨hq,rfl⟩) rfl fun g n hm=>?_).ren hgone h2
   obtain⟨h5,h6,h7⟩:=h.loc t g n (by simp[St.sh,h3]) hm
   refine h'.fr g h6 fun id n' hk=>?_
   obtain⟨t',h8,h9,h10⟩:=D2 hk
   exact h1 (h.inj t t' g n n' (by simp[St.sh,h3]) h9 hm h10 ▸ h8)
 ·intro a b g n n' ha hb hma hmb
  -- an old one's block lies below; a new one's block, if below, was a handed region's that is Vi
  have hno:∀ t u g n n' r',base<=t->t-base<1000000->A2 hp' (t-base)=some r'->μ' (t-base)=some (g,n)->st.sh u≠none->μ u=some (g,n')->(u∈rs->A2 hp' (1000000+rs.idxOf u)≠none)->False:=by
   intro t u g n n' r' h1 h2 h3 h4 h5 h6 h7
   obtain⟨_,h8,_⟩:=h.loc u g n' h5 h6
   obtain⟨id',n2,hk⟩:=(h'.loc (t-base) g n (shp _ _ h3) h4).2.2 h8
   obtain⟨t',h9,h10,h11⟩:=D2 hk
   have:=h.inj u t' g n' n2 h5 h10 h6 h11
   subst this
   have h12:=h7 h9
   have h13:St.sh ⟨[],hp'⟩ (1000000+rs.idxOf u)≠none:=by
    cases hl:A2 hp' (1000000+rs.idxOf u) with
    | none=>exact absurd hl h12
    | some r=>exact shp _ r hl
   have h14:μ' (1000000+rs.idxOf u)=some (g,n'):=by rw[h'.kap _ (by omega) h13,Nj h9 h5];exact h6
   have:=h'.inj (t-base) (1000000+rs.idxOf u) g n n' (shp _ _ h3) h13 h4 h14
   omega
  rcases hshc a ha with⟨r',h1,h2,h3,h4⟩|⟨h1,h2,h3,h4⟩|⟨h1,h2,h3⟩<;>rcases hshc b hb with⟨q',k1,k2,k3,k4⟩|⟨k1,k2,k3,k4⟩|⟨k1,k2,k3⟩
  ·rw[h4]at hma;rw[k4]at hmb
   have:=h'.inj (a-base) (b-base) g n n' (shp _ _ h3) (shp _ _ k3) hma hmb
   omega
  ·rw[h4]at hma;rw[k3]at hmb
   exact(hno a b g n n' r' h1 h2 h3 hma k2 hmb fun _=>k4).elim
  ·rw[h4]at hma;rw[k3]at hmb
   exact(hno a b g n n' r' h1 h2 h3 hma k2 hmb fun hc=>absurd hc k1).elim
  ·rw[h3]at hma;rw[k4]at hmb
   exact(hno b a g n' n q' k1 k2 k3 hmb h2 hma fun _=>h4).elim
  ·rw[h3]at hma;rw[k3]at hmb;exact h.inj a b g n n' h2 k2 hma hmb
  ·rw[h3]at hma;rw[k3]at hmb;exact h.inj a b g n n' h2 k2 hma hmb
  ·rw[h3]at hma;rw[k4]at hmb
   exact(hno b a g n' n q' k1 k2 k3 hmb h2 hma fun hc=>absurd hc h1).elim
  ·rw[h3]at hma;rw[k3]at hmb;exact h.inj a b g n n' h2 k2 hma hmb
  ·rw[h3]at hma;rw[k3]at hmb;exact h.inj a b g n n' h2 k2 hma hmb
 ·intro t g n ht hm
  rcases hshc t ht with⟨r',h1,h2,h3,h4⟩|⟨h1,h2,h3,h4⟩|⟨h1,h2,h3⟩
  ·rw[h4]at hm
   obtain⟨h5,h6,h7⟩:=h'.loc _ g n (shp _ _ h3) hm
   refine⟨h5,h6,fun hlt=>?_⟩
   obtain⟨id',n',hk⟩:=h7 (Nat.lt_of_lt_of_le hlt h.size)
   obtain⟨t',h8,h9,h10⟩:=D2 hk
   exact(h.loc t' g n' h9 h10).2.2 hlt
  ·rw[h3]at hm
   obtain⟨h5,h6,h7⟩:=h.loc t g n h2 hm
   have h13:St.sh ⟨[],hp'⟩ (1000000+rs.idxOf t)≠none:=by
    cases hl:A2 hp' (1000000+rs.idxOf t) with
    | none=>exact absurd hl h4
    | some r=>exact shp _ r hl
   have h14:μ' (1000000+rs.idxOf t)=some (g,n):=by rw[h'.kap _ (by omega) h13,Nj h1 h2];exact hm
   obtain⟨h8,h9,_⟩:=h'.loc _ g n h13 h14
   exact⟨h8,h9,h7⟩
  ·rw[h3]at hm
   obtain⟨h5,h6,h7⟩:=h.loc t g n h2 hm
   refine⟨fun hx=>?_,Nat.lt_of_lt_of_le h6 h'.size,h7⟩
   rcases hX' g hx with hx|hx|⟨id,n',hk⟩
   ·exact h5 hx
   ·omega
   ·obtain⟨t',h8,h9,h10⟩:=D2 hk
    exact h1 (h.inj t t' g n n' h2 h9 hm h10 ▸ h8)
 ·intro t hbig ht
  rcases hshc t ht with⟨r',h1,h2,h3,h4⟩|⟨h1,h2,h3,h4⟩|⟨h1,h2,h3⟩
  ·have:=(hnew t ⟨h1,h2,by simp[h3]⟩).2;omega
  ·rw[h3];exact h.kap t hbig h2
  ·rw[h3];exact h.kap t hbig h2
 ·intro k hk hn
  refine(h'.fr k (Nat.lt_of_lt_of_le hk h.size) fun id n hkk=>?_).trans (h.fr k hk hn)
  obtain⟨t',h8,h9,h10⟩:=D2 hkk
  obtain⟨id',n',hq⟩:=(h.loc t' k n h9 h10).2.2 hk
  exact hn id' n' hq
theorem B0.news {base:Nat} {hp':List (Nat×Aj)} (h:B0 w0 B κ X μ st tm w) (h':B0 w w.heap.size (Gm μ st []) X' μ' ⟨[],hp'⟩ #[] w') (hok:Qf [] base st.hp hp') (hX:∀ b,X b->X' b)
  (hX':∀ b,X' b->X b\/w.heap.size<=b\/∃ id n,Gm μ st [] id=some (b,n)) :
  B0 w0 B κ X' (Kz μ μ' base hp') ⟨st.env,Fo [] base hp'++st.hp⟩ tm w'/\Same X w w' /\
   ∀ i q,St.sh ⟨[],hp'⟩ i=some q->St.sh ⟨st.env,Fo [] base hp'++st.hp⟩ (P2 [] base i)=some q/\Kz μ μ' base hp' (P2 [] base i)=μ' i:=by
 obtain⟨h2,hsame,hb⟩:=h.back List.nodup_nil h' hok hX hX'
 have hk0:∀ id,Gm μ st [] id=none:=fun id=>by
  unfold Gm
  rw[if_neg]
  rintro⟨_,hlt,_⟩
  simp at hlt
 have hall:∀ k,k<w.heap.size->w'.heap[k]? = w.heap[k]? := fun k hk=>h'.fr k hk fun id n e=>by rw[hk0]at e;cases e
 have hshE:(C6 [] base hp' st).sh=St.sh ⟨st.env,Fo [] base hp'++st.hp⟩:=by
  funext t
  simp only[St.sh,C6,B8,Il]
  cases A2 (Fo [] base hp') t with
  | some q=>rfl
  | none =>
   simp only[Option.none_or]
   have:([]:List Nat).contains t=false:=rfl
   rw[this]
   simp only[Bool.false_eq_true,if_false,Option.map_map]
   cases A2 st.hp t with
   | none=>rfl
   | some q=>simp[N2]
 have hfree:∀ t,base<=t->t-base<1000000->A2 hp' (t-base)≠none->A2 st.hp t=none:=by
  intro t h1 h3 h4
  cases hr:A2 hp' (t-base) with
  | none=>exact absurd hr h4
  | some r =>
   have:=q2A hok hr
   rw[if_pos h3]at this
   have e:base+(t-base)=t:=by omega
   rw[e]at this;exact this.1
 have hold:∀ id q,st.sh id=some q->St.sh ⟨st.env,Fo [] base hp'++st.hp⟩ id=some q/\Kz μ μ' base hp' id=μ id:=by
  intro id q hq
  have hne:A2 st.hp id≠none:=fun e=>by simp[St.sh,e]at hq
  have hn:A2 (Fo [] base hp') id=none:=by
   rw[q0Y]
   split
   ·rename_i hc
    cases hl:A2 hp' (id-base) with
    | none=>rfl
    | some r=>exact absurd (hfree id hc.1 hc.2 (by simp[hl])) hne
   ·rfl
  refine⟨?_,?_⟩
  ·simp only[St.sh,B8,hn,Option.none_or];exact hq
  ·unfold Kz
   rw[if_neg]
   rintro⟨h1,h3,h4⟩
   exact hne (hfree id h1 h3 h4)
 refine⟨⟨fun t a ht=>(h.env t a ht).mono hsame hX hold,fun id r hr=>?_,?_,?_,?_,h2.kbig,h2.xlt,h2.os,h2.tape,h2.output,h2.size,h2.fr⟩,hsame,fun i q hq=>by rw[<- hshE];exact hb i q hq⟩
 ·simp only[B8]at hr
  cases hn:A2 (Fo [] base hp') id with
  | some q =>
   rw[hn]at hr
   simp only[Option.some_or,Option.some.injEq]at hr
   subst hr
   rw[<- hshE]
   exact h2.reg id q (by simp only[C6,B8,hn,Option.some_or])
  | none =>
   rw[hn,Option.none_or]at hr
   have hq:st.sh id=some r.sh:=by simp[St.sh,hr]
   refine(h.reg id r hr).mono hsame hX hold (hold id _ hq).2 fun g m hm=>hall g (h.loc id g m (by simp[hq]) hm).2.1
 ·rw[<- hshE];exact h2.inj
 ·rw[<- hshE];exact h2.loc
 ·rw[<- hshE];exact h2.kap
theorem B0.looked {rs:List Nat} (hnd:rs.Nodup) (hsl:∀ i∈rs,∃ ty s es,A2 st.hp i=some (.sl ty s es)) (h:B0 w0 B κ X μ st tm w) (h':B0 w w.heap.size (Gm μ st rs) X' μ' ⟨[],Ba rs st.hp⟩ #[] w') (hX:∀ b,X b->X' b)
  (hX':∀ b,X' b->X b\/w.heap.size<=b\/∃ id n,Gm μ st rs id=some (b,n)) :
  B0 w0 B κ X' μ st tm w'/\Same X w w'/\∀ i q,St.sh ⟨[],Ba rs st.hp⟩ i=some q->st.sh (P2 rs 0 i)=some q/\μ (P2 rs 0 i)=μ' i:=by
 have hsame:Same X w w':=by
  intro b hb
  refine h'.fr b (h.xlt b hb) fun id n hk=>?_
  obtain⟨t,_,h2,h3⟩:=D2 hk
  exact(h.loc t b n h2 h3).1 hb
 have hshr:∀ t∈rs,∃ q,st.sh t=some q:=fun t ht=>by
  obtain⟨ty,s,es,hl⟩:=hsl t ht
  exact⟨_,by simp[St.sh,hl];rfl⟩
 have hat:∀ t∈rs,μ' (1000000+rs.idxOf t)=μ t:=fun t ht=>by
  obtain⟨q,hq⟩:=hshr t ht
  rw[h'.kap _ (by omega) (by rw[Uj ht hq];simp),Nj ht (by simp[hq])]
 have hxn:∀ t∈rs,∀ g n,μ t=some (g,n)->¬ X' g:=fun t ht g n hm=>by
  obtain⟨q,hq⟩:=hshr t ht
  exact(h'.loc (1000000+rs.idxOf t) g n (by rw[Uj ht hq];simp) (by rw[hat t ht];exact hm)).1
 refine⟨⟨fun t a ht=>(h.env t a ht).mono hsame hX fun _ _ hq=>⟨hq,rfl⟩,fun id r hr=>?_,h.inj,fun id g n hs hm=>?_,h.kap,h.kbig,h'.xlt,h'.os.trans h.os,h'.tape.trans h.tape,h'.output.trans h.output,Nat.le_trans h.size h'.size,fun k hk hn=>?_⟩,hsame,fun i q hq=>?_⟩
 ·by_cases hid:id∈rs
  ·obtain⟨ty,s,es,hl⟩:=hsl id hid
   rw[hl]at hr
   simp only[Option.some.injEq]at hr
   subst hr
   have hh:=q5C (hp:=st.hp) hid hl
   have:=h'.reg _ _ hh
   simp only[Bj,Bv,hat id hid]at this ⊢
   exact this
  ·have hq:st.sh id=some r.sh:=by simp[St.sh,hr]
   refine(h.reg id r hr).mono hsame hX (fun _ _ hq=>⟨hq,rfl⟩) rfl fun g m hm=>?_
   refine h'.fr g (h.loc id g m (by simp[hq]) hm).2.1 fun id' n hk=>?_
   obtain⟨t,ht,h2,h3⟩:=D2 hk
   have:=h.inj id t g m n (by simp[hq]) h2 hm h3
   subst this
   exact hid ht
 ·obtain⟨h1,h2,h3⟩:=h.loc id g n hs hm
  refine⟨fun hx=>?_,Nat.lt_of_lt_of_le h2 h'.size,h3⟩
  rcases hX' g hx with hx' | hx' | ⟨id',n',hk⟩
  ·exact h1 hx'
  ·omega
  ·obtain⟨t,ht,h4,h5⟩:=D2 hk
   exact hxn t ht g n' h5 hx
 ·rw[h'.fr k (Nat.lt_of_lt_of_le hk h.size) fun id n e=>?_]
  ·exact h.fr k hk hn
  ·obtain⟨t,ht,h4,h5⟩:=D2 e
   obtain⟨id',n',hq⟩:=(h.loc t k n h4 h5).2.2 hk
   exact hn id' n' hq
 ·obtain⟨t,ht,rfl,hs⟩:=Uk (by rw[hq];simp)
  obtain⟨q0,hq0⟩:=hshr t ht
  have hb:P2 rs 0 (1000000+rs.idxOf t)=t:=by
   have hi:rs.idxOf t<rs.length:=List.idxOf_lt_length_iff.2 ht
   unfold P2
   rw[if_neg (by omega),Nat.add_sub_cancel_left,q2B hi,List.getElem_idxOf]
  rw[hb,hat t ht]
  have:=Uj ht hq0
  rw[hq]at this
  exact⟨by rw[hq0,this],rfl⟩
end
end Go.Lg
