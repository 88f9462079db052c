/- THE LOGIC, part 18: lookups, updates of maps, cuts, strings of bytes are sound. Conditions: none. -/
import Derived.Test.YtafhjckfgmcphaaGreatDoorPkA
import Derived.ArgAppend
import Derived.DeepKeys
set_option linter.unusedSimpArgs false
set_option linter.unusedVariables false
namespace Go.Lg
open Go
section
variable {P:Program} {Γ:Tables} {w0:World} {B:Nat} {κ:D7} {X:Nat->Prop} {μ:D7} {st:St} {tm:Array Value} {w:World} {ds:List Deferred} {o:Oper}
theorem q4y (a b:ByteArray):(a==b)=true↔a=b:=by
 cases a with
 | mk a =>
  cases b with
  | mk b =>
   show(a==b)=true↔_
   simp
theorem q1G {kt:KT} {q:TypeId} (h:ktB P kt q=true):∃ d,P.underlying q=some d/\∀ a b:Value,kt.fits a=true->kt.fits b=true->Instr.sameNow d a b=some (Ku a b):=by
 unfold ktB at h
 split at h
 ·rename_i k j hu
  simp only[xqu]at h;subst h
  refine⟨_,hu,fun a b ha hb=>?_⟩
  cases a<;>simp[KT.fits]at ha
  cases b<;>simp[KT.fits]at hb
  subst ha;subst hb
  simp[Instr.sameNow,Ku]
 ·rename_i hu
  refine⟨_,hu,fun a b ha hb=>?_⟩
  cases a<;>simp[KT.fits]at ha
  cases b<;>simp[KT.fits]at hb
  rfl
 ·rename_i hu
  refine⟨_,hu,fun a b ha hb=>?_⟩
  cases a<;>simp[KT.fits]at ha
  cases b<;>simp[KT.fits]at hb
  rfl
 ·cases h
theorem Pj {kt:KT} {q:TypeId} (h:ktB P kt q=true) {v:Value} (hv:kt.fits v=true) (b:Bool) (n:Nat) (w:World):(Instr.checkKey b (n+1) q v).run P w=.ok () w:=by
 unfold ktB at h
 split at h
 ·rename_i k j hu
  cases v<;>simp[KT.fits]at hv
  simp[Instr.checkKey,run_underlying hu]
 ·rename_i hu
  cases v<;>simp[KT.fits]at hv
  simp[Instr.checkKey,run_underlying hu]
 ·rename_i hu
  cases v<;>simp[KT.fits]at hv
  simp[Instr.checkKey,run_underlying hu]
 ·cases h
def Ens (w:World) (X:Nat->Prop) (es:List (Value×T)) (ms:List MapEntry):Prop:=es.length=ms.length/\∀ (i:Nat) (e:Value×T) (m:MapEntry),es[i]? = some e->ms[i]? = some m->m.key=e.1/\TR w X e.2 m.val
theorem Ens.cons_inv {e:Value×T} {es:List (Value×T)} {ms:List MapEntry} (h:Ens w X (e::es) ms):∃ m ns,ms=m::ns/\m.key=e.1/\TR w X e.2 m.val/\Ens w X es ns:=by
 cases ms with
 | nil=>exact absurd h.1 (by simp)
 | cons m ns=>exact⟨m,ns,rfl,(h.2 0 e m rfl rfl).1,(h.2 0 e m rfl rfl).2,by have:=h.1;simpa using this,fun i e' m' h1 h2=>h.2 (i+1) e' m' (by simpa using h1) (by simpa using h2)⟩
theorem Ens.cons {e:Value×T} {m:MapEntry} {es:List (Value×T)} {ms:List MapEntry} (hk:m.key=e.1) (hv:TR w X e.2 m.val) (h:Ens w X es ms):Ens w X (e::es) (m::ms) :=
 ⟨by simp[h.1],fun i e' m' h1 h2=>by
  cases i with
  | zero=>simp at h1 h2;subst h1;subst h2;exact⟨hk,hv⟩
  | succ i=>simp at h1 h2;exact h.2 i e' m' h1 h2⟩
theorem Ens.nil_inv {ms:List MapEntry} (h:Ens w X [] ms):ms=[]:=xqo h.1.symm
theorem q4z {kt:KT} {d:TypeDesc} (hs:∀ a b:Value,kt.fits a=true->kt.fits b=true->Instr.sameNow d a b=some (Ku a b)) {k:Value} (hk:kt.fits k=true):∀ {es:List (Value×T)} {ms:List MapEntry} (i:Nat),Ens w X es ms->Nu kt es->G6 k es=none->Instr.findNow d k ms i=some none
 | [],ms,i,h,hf,hn=>by rw[h.nil_inv];rfl
 | e::es,ms,i,h,hf,hn=>by
  obtain⟨m,ns,rfl,hmk,hv,h'⟩:=h.cons_inv
  have hs':=hs k e.1 hk (hf e (by simp))
  obtain⟨q,x⟩:=e
  simp only[G6]at hn
  split at hn
  ·cases hn
  ·rename_i hne
   simp only[Instr.findNow,hmk,hs',xzm]at hne ⊢
   rw[hne]
   exact q4z hs hk (i+1) h' (fun e he=>hf e (by simp[he])) hn
theorem q50 {kt:KT} {d:TypeDesc} (hs:∀ a b:Value,kt.fits a=true->kt.fits b=true->Instr.sameNow d a b=some (Ku a b)) {k:Value} (hk:kt.fits k=true):∀ {es:List (Value×T)} {ms:List MapEntry} (i:Nat) {x:T},Ens w X es ms->Nu kt es->G6 k es=some x ->
  ∃ (j:Nat) (m:MapEntry),Instr.findNow d k ms i=some (some (i+j,m.val))/\ms[j]? = some m/\TR w X x m.val/\Ku k m.key=true/\kt.fits m.key=true/\∀ (y:T) (v:Value),TR w X y v->Ens w X (q4q k y es) (ms.modify j fun e=>{ e with key:=k,val:=v })
 | [],ms,i,x,h,hf,hn=>by cases hn
 | e::es,ms,i,x,h,hf,hn=>by
  obtain⟨m,ns,rfl,hmk,hv,h'⟩:=h.cons_inv
  have hfe:=hf e (by simp)
  have hs':=hs k e.1 hk hfe
  obtain⟨q,z⟩:=e
  simp only[G6]at hn
  split at hn
  ·rename_i heq
   simp only[xqa]at hn;subst hn
   refine⟨0,m,by simp[Instr.findNow,hmk,hs',heq],rfl,hv,by rw[hmk];exact heq,by rw[hmk];exact hfe,fun y v hy=>?_⟩
   simp only[q4q,heq,↓reduceIte,List.modify_zero_cons]
   exact Ens.cons rfl hy h'
  ·rename_i hne
   obtain⟨j,m2,h1,h2,h3,h4,h5,h6⟩:=q50 hs hk (i+1) h' (fun e he=>hf e (by simp[he])) hn
   refine⟨j+1,m2,?_,by simpa using h2,h3,h4,h5,fun y v hy=>?_⟩
   ·simp only[xzm]at hne
    simp only[Instr.findNow,hmk,hs',hne,h1]
    rw[show i+1+j=i+(j+1)by omega]
   ·simp only[q4q,hne,↓reduceIte,List.modify_succ_cons]
    exact Ens.cons hmk hv (h6 y v hy)
theorem qAC {kt:KT} {k:Value}:∀ {es:List (Value×T)} {ms:List MapEntry} {y:T} {v:Value} {c:Nat},Ens w X es ms->G6 k es=none->TR w X y v->Ens w X (q4q k y es) (ms++[{ key:=k,val:=v,born:=c }])
 | [],ms,y,v,c,h,hn,hy=>by rw[h.nil_inv];exact Ens.cons rfl hy ⟨rfl,fun i e m h1 _=>by simp at h1⟩
 | e::es,ms,y,v,c,h,hn,hy=>by
  obtain⟨m,ns,rfl,hmk,hv,h'⟩:=h.cons_inv
  obtain⟨q,z⟩:=e
  simp only[G6]at hn
  split at hn
  ·cases hn
  ·rename_i hne
   simp only[q4q,hne,↓reduceIte,List.cons_append]
   exact Ens.cons hmk hv (qAC (kt:=kt) h' hn hy)
theorem qBX {kt:KT} {t q e:TypeId} {zv kv:Value} {ok:Bool} (hm:q1A P t=some (q,e)) (hk:ktB P kt q=true) (hz:(P.info? e).bind (·.zero)=some zv) (hf:kt.fits kv=true) {es:List (Value×T)} (hfs:Nu kt es) {mv:Value} {ms:List MapEntry}
  (hmv:(mv=.map none/\ms=[])\/∃ r clock,mv=.map (some r)/\w.heap[r]? = some (.map ms.toArray clock)) (hens:Ens w X es ms) :
  ∃ v,(Instr.lookup t mv kv ok).run P w=.ok (if ok then .tuple #[v,.bool (G6 kv es).isSome]else v) w/\((∃ x,G6 kv es=some x/\TR w X x v)\/(G6 kv es=none/\v=zv)):=by
 obtain⟨d,hu,hs⟩:=q1G hk
 have hzero:(zeroValue e).run P w=.ok zv w:=by
  rw[xqk]at hz
  obtain⟨i,hi,hz⟩:=hz
  simp[zeroValue,typeInfo,hi,hz]
 have hck:(Instr.checkKey ms.toArray.isEmpty 10000 q kv).run P w=.ok () w:=Pj hk hf _ 9999 w
 cases hfm:G6 kv es with
 | none =>
  have:=q4z hs hf 0 hens hfs hfm
  refine⟨zv,?_,.inr ⟨rfl,rfl⟩⟩
  have hfk:(Instr.findKey q kv ms).run P w=.ok none w:=by
   simp[Instr.findKey,run_underlying hu,this]
  rcases hmv with⟨rfl,rfl⟩|⟨r,clock,rfl,hh⟩
  ·simp at hck hfk
   cases ok<;>simp[Instr.lookup,run_underlying (F7 hm),hck,hfk,hzero]
  ·simp at hck
   cases ok<;>simp[Instr.lookup,run_underlying (F7 hm),getObj,Sem.run,hh,hck,hfk,hzero]
 | some x =>
  obtain⟨j,m,h1,h2,h3,_⟩:=q50 hs hf 0 hens hfs hfm
  refine⟨m.val,?_,.inl ⟨x,rfl,h3⟩⟩
  have hfk:(Instr.findKey q kv ms).run P w=.ok (some (0+j,m.val)) w:=by
   simp[Instr.findKey,run_underlying hu,h1]
  rcases hmv with⟨rfl,rfl⟩|⟨r,clock,rfl,hh⟩
  ·simp at h2
  ·simp at hck
   cases ok<;>simp[Instr.lookup,run_underlying (F7 hm),getObj,Sem.run,hh,hck,hfk]
theorem qEm {kt:KT} {t q e:TypeId} {zv kv:Value} {ok:Bool} {m k:Operand} {a:AV} {es:List (Value×T)} (h:Sim w0 B κ X μ st tm w) (hg:Gl Γ w X) (ho:o.op=.lookup t m k ok) (km:Ai m=true) (kk:Ai k=true)
  (hm:q1A P t=some (q,e)) (hk:ktB P kt q=true) (hz:(P.info? e).bind (·.zero)=some zv) (hzv:Vk zv=true) (hkv:ev Γ st.env k=some (.t (.v kv))) (hma:ev Γ st.env m=some a) (ha:a=.t (.mp es)\/∃ id,a=.lm id/\A0 st.hp id=some (.mp es)) (hf:kt.fits kv=true) (hfs:Nu kt es) :
  Ao P w0 B κ X o (if ok then .t (.tup [(G6 kv es).getD (Iq zv),.v (.bool (G6 kv es).isSome)])else .t ((G6 kv es).getD (Iq zv))) st tm w ds:=by
 have hkv':=(Az (ds:=ds) h hg hkv kk).t_inv.v_inv
 have hrm:=Az (ds:=ds) h hg hma km
 have hmem:∃ ms:List MapEntry,((Act.eval ⟨tm,ds⟩ m=.map none/\ms=[])\/∃ r clock,Act.eval ⟨tm,ds⟩ m=.map (some r)/\w.heap[r]? = some (.map ms.toArray clock))/\Ens w X es ms:=by
  rcases ha with rfl|⟨id,rfl,hl⟩
  ·rcases hrm.t_inv.mp_inv with⟨rfl,he⟩|⟨r,clock,ms,he,hh,_,hlen,hr⟩
   ·exact⟨[],.inl ⟨he,rfl⟩,rfl,fun i e m h1 _=>by simp at h1⟩
   ·exact⟨ms,.inr ⟨r,clock,he,hh⟩,hlen,hr⟩
  ·obtain⟨g,n,hs,hmu,he⟩:=hrm.lm_inv
   obtain⟨g',n',clock,ms,hm',hh,hlen,hr⟩:=h.reg _ _ hl
   rw[hmu]at hm';cases hm'
   exact⟨ms,.inr ⟨g,clock,he,hh⟩,hlen,hr⟩
 obtain⟨ms,hmv,hens⟩:=hmem
 obtain⟨v,hrun,hv⟩:=qBX (P:=P) (ok:=ok) hm hk hz hf hfs hmv hens
 have htv:TR w X ((G6 kv es).getD (Iq zv)) v:=by
  rcases hv with⟨x,hx,hr⟩|⟨hx,rfl⟩
  ·rw[hx];exact hr
  ·rw[hx];exact q6f _ hzv
 have hex:(execOp (Act.eval ⟨tm,ds⟩) o).run P w=.ok (.value (if ok then .tuple #[v,.bool (G6 kv es).isSome]else v)) w:=by
  simp only[execOp,ho,hkv',Sem.run_bind,hrun];rfl
 cases ok with
 | true=>exact Ao.same h hex (.t _ _ (TR.mk_tup (Fp.cons htv (Fp.cons (.v _) (Fp.nil _ _)))))
 | false=>exact Ao.same h hex (.t _ _ htv)
theorem q3J {μ:D7} {sh:Nat->Option Sh} {a:AV} {x:Value} {t:T} (h:AR w X μ sh a x) (ht:toT a=some t):TR w X t x:=by
 cases a with
 | t y=>simp only[toT,xqa]at ht;subst ht;exact h.t_inv
 | ag cs =>
  simp only[toT,xqb]at ht
  obtain⟨ts,hts,rfl⟩:=ht
  obtain⟨xs,rfl,h1,hr⟩:=h.ag_inv
  refine TR.mk_agg ?_ (hr.toT hts)
  rw[Yx (as:=cs) hts,Rh]at h1;exact h1
 | fn f cs =>
  simp only[toT]at ht
  split at ht
  case isFalse=>cases ht
  rename_i hlt
  simp only[xqb]at ht
  obtain⟨ts,hts,rfl⟩:=ht
  cases h with
  | fn f cs xs hlen hrel =>
   have:=Ir.toT ⟨hlen,hrel⟩ (ts:=ts) hts
   rw[q9V hlt]
   exact .fn f ts xs this.1 this.2
 | _=>simp[toT]at ht
theorem qKl {kt:KT} {t q e:TypeId} {kv:Value} {m k x:Operand} {id:Nat} {es:List (Value×T)} {a:AV} {y:T} (h:Sim w0 B κ X μ st tm w) (hg:Gl Γ w X) (ho:o.op=.mapUpdate t m k x) (km:Ai m=true) (kk:Ai k=true) (kx:Ai x=true)
  (hm:q1A P t=some (q,e)) (hk:ktB P kt q=true) (hkv:ev Γ st.env k=some (.t (.v kv))) (hma:ev Γ st.env m=some (.lm id)) (hl:A0 st.hp id=some (.mp es)) (hx:ev Γ st.env x=some a) (hy:toT a=some y) (hf:kt.fits kv=true) (hfs:Nu kt es) :
  Ao P w0 B κ X o .un ⟨st.env,Dn id (.mp (q4q kv y es)) st.hp⟩ tm w ds:=by
 have hkv':=(Az (ds:=ds) h hg hkv kk).t_inv.v_inv
 have hty:=q3J (Az (ds:=ds) h hg hx kx) hy
 obtain⟨g,n,hs,hmu,he⟩:=(Az (ds:=ds) h hg hma km).lm_inv
 obtain⟨g',n',clock,ms,hm',hh,hlen,hr⟩:=h.reg _ _ hl
 rw[hmu]at hm';cases hm'
 have hens:Ens w X es ms:=⟨hlen,hr⟩
 obtain⟨d,hu,hsn⟩:=q1G hk
 have hck:(Instr.checkKey false 10000 q kv).run P w=.ok () w:=Pj hk hf _ 9999 w
 have key:∃ (ms':List MapEntry) (c':Nat),(Instr.mapUpdate t (.map (some g)) kv (Act.eval ⟨tm,ds⟩ x)).run P w=.ok () { w with heap:=w.heap.setIfInBounds g (.map ms'.toArray c') }/\Ens w X (q4q kv y es) ms':=by
  cases hfm:G6 kv es with
  | none =>
   have h1:=q4z hsn hf 0 hens hfs hfm
   refine⟨ms++[{ key:=kv,val:=Act.eval ⟨tm,ds⟩ x,born:=clock }],clock+1,?_,qAC (kt:=kt) hens hfm hty⟩
   have hfk:(Instr.findKey q kv ms).run P w=.ok none w:=by simp[Instr.findKey,run_underlying hu,h1]
   simp[Instr.mapUpdate,run_underlying (F7 hm),getObj,setObj,Sem.run,hh,hck,hfk]
  | some z =>
   obtain⟨j,m2,h1,h2,h3,h4,h5,h6⟩:=q50 hsn hf 0 hens hfs hfm
   refine⟨ms.modify j fun e=>{ e with key:=kv,val:=Act.eval ⟨tm,ds⟩ x },clock,?_,h6 y _ hty⟩
   have hfk:(Instr.findKey q kv ms).run P w=.ok (some (0+j,m2.val)) w:=by simp[Instr.findKey,run_underlying hu,h1]
   have hsb:∀ n,Instr.sameBits n m2.key kv=true:=by
    intro n
    cases kt with
    | int k0 =>
     cases kv<;>simp[KT.fits]at hf
     generalize hmk:m2.key=K at h4 h5
     cases K<;>simp[KT.fits]at h5
     subst hf;subst h5
     simp only[Ku,xz0]at h4
     cases n<;>simp[Instr.sameBits,h4]
    | str =>
     cases kv<;>simp[KT.fits]at hf
     generalize hmk:m2.key=K at h4 h5
     cases K<;>simp[KT.fits]at h5
     simp only[Ku,q4y]at h4
     subst h4
     cases n<;>simp[Instr.sameBits,q4y]
    | bl =>
     cases kv<;>simp[KT.fits]at hf
     generalize hmk:m2.key=K at h4 h5
     cases K<;>simp[KT.fits]at h5
     simp only[Ku,xz0]at h4
     cases n<;>simp[Instr.sameBits,h4]
   have hstay:(Instr.keyThatStays m2.key kv).run P w=.ok kv w:=by simp only[Instr.keyThatStays,hsb,↓reduceIte,Sem.run_pure]
   have hms:(ms.toArray[0+j]?).map (·.key)=some m2.key:=by simp[h2]
   simp[Instr.mapUpdate,run_underlying (F7 hm),getObj,setObj,Sem.run,hh,hck,hfk,h2,hstay]
 obtain⟨ms',c',hrun,hens'⟩:=key
 have hglt:g<w.heap.size:=(Array.getElem?_eq_some_iff.1 hh).1
 obtain⟨hsim,hs'⟩:=h.setReg hl (r':=.mp (q4q kv y es)) rfl hmu (w':={ w with heap:=w.heap.setIfInBounds g (.map ms'.toArray c') }) rfl rfl rfl (by simp) (fun j hj=>by simp[Array.getElem?_setIfInBounds,Ne.symm hj])
  (fun hs'=>⟨g,n,c',ms',hmu,by simp[hglt],hens'.1,fun i e m h1 h2=>⟨(hens'.2 i e m h1 h2).1,(hens'.2 i e m h1 h2).2.mono hs' (fun _ hx=>hx)⟩⟩)
 exact⟨.skip,undef,_,μ,X,by simp only[execOp,ho,hkv',he,Sem.run_bind,hrun];rfl,.inr ⟨rfl,rfl⟩,hsim,.un,fun _ hx=>hx,hs',fun _ hx=>.inl hx⟩
end
end Go.Lg
namespace Go.Lg
open Go
section
variable {P:Program} {Γ:Tables} {w0:World} {B:Nat} {κ:D7} {X:Nat->Prop} {μ:D7} {st:St} {tm:Array Value} {w:World} {ds:List Deferred} {o:Oper}
def Qm (ρ:Operand->Value) (o:Option Operand) (dflt n:Nat):Prop:=(o=none/\n=dflt)\/∃ x k i,o=some x/\ρ x=.int k i/\0<=i/\n=i.toNat
theorem Nw {x:Option Operand} {dflt:Nat} {r:Prop×Nat} (h:Sim w0 B κ X μ st tm w) (hg:Gl Γ w X) (hx:Jb Γ st.env x dflt=some r) (hc:r.1) (hk:x.toList.all Ai=true):Qm (Act.eval ⟨tm,ds⟩) x dflt r.2:=by
 unfold Jb at hx
 split at hx
 ·simp only[xqa]at hx;subst hx;exact .inl ⟨rfl,rfl⟩
 ·rename_i o
  split at hx
  ·rename_i k n he
   simp only[xqa]at hx;subst hx
   exact .inr ⟨o,k,n,rfl,(Az (ds:=ds) h hg he (by simpa using hk)).t_inv.v_inv,hc,rfl⟩
  ·cases hx
theorem Lq {ρ:Operand->Value} {x:Operand} {k:IntKind} {i:Int} {y:Nat} (h:ρ x=.int k i) (h0:0<=i) (h1:i.toNat<=y) (code:BoundsCode) (w:World):(Instr.sliceBound (ρ x) y code).run P w=.ok i.toNat w:=by
 rw[h];exact run_sliceBound (P:=P) w k i y code h0 (by omega)
theorem q3K {ρ:Operand->Value} {lo hi:Option Operand} {len cap l h:Nat} (isS:Bool) (hlo:Qm ρ lo 0 l) (hhi:Qm ρ hi len h) (h1:l<=h) (h2:h<=cap) (w:World):(Instr.sliceBounds isS len cap (lo.map ρ) (hi.map ρ) none).run P w=.ok (l,h,cap) w:=by
 rcases hhi with⟨rfl,rfl⟩|⟨x,k,i,rfl,hx,h0,rfl⟩<;>rcases hlo with⟨rfl,rfl⟩|⟨y,k',j,rfl,hy,h0',rfl⟩
 ·simp[Instr.sliceBounds]
 ·simp[Instr.sliceBounds,Lq (P:=P) hy h0' h1]
 ·simp[Instr.sliceBounds,Lq (P:=P) hx h0 h2]
 ·simp[Instr.sliceBounds,Lq (P:=P) hx h0 h2,Lq (P:=P) hy h0' h1]
theorem q5g {ρ:Operand->Value} {lo:Option Operand} {hi mx:Operand} {len cap l h m:Nat} (hlo:Qm ρ lo 0 l) (hhi:Qm ρ (some hi) len h) (hmx:Qm ρ (some mx) 0 m) (h1:l<=h) (h2:h<=m) (h3:m<=cap) (w:World) :
  (Instr.sliceBounds true len cap (lo.map ρ) (some (ρ hi)) (some (ρ mx))).run P w=.ok (l,h,m) w:=by
 rcases hmx with⟨e,_⟩|⟨x2,k2,i2,e2,hx2,h02,rfl⟩
 ·cases e
 rcases hhi with⟨e,_⟩|⟨x,k,i,e,hx,h0,rfl⟩
 ·cases e
 cases e;cases e2
 rcases hlo with⟨rfl,rfl⟩|⟨y,k',j,rfl,hy,h0',rfl⟩
 ·simp[Instr.sliceBounds,Lq (P:=P) hx h0 h2,Lq (P:=P) hx2 h02 h3]
 ·simp[Instr.sliceBounds,Lq (P:=P) hx h0 h2,Lq (P:=P) hx2 h02 h3,Lq (P:=P) hy h0' h1]
theorem qAD {t:TypeId} {x:Operand} {lo hi:Option Operand} {b:ByteArray} {l h':Nat} (h:Sim w0 B κ X μ st tm w) (hg:Gl Γ w X) (ho:o.op=.slice t x lo hi none) (kx:Ai x=true) (hu:q4r P t=true)
  (hx:ev Γ st.env x=some (.t (.v (.string b)))) (hlo:Qm (Act.eval ⟨tm,ds⟩) lo 0 l) (hhi:Qm (Act.eval ⟨tm,ds⟩) hi b.size h') (h1:l<=h') (h2:h'<=b.size):Ao P w0 B κ X o (.t (.v (.string (b.extract l h')))) st tm w ds:=by
 have he:=(Az (ds:=ds) h hg hx kx).t_inv.v_inv
 refine Ao.same h (v:=.string (b.extract l h')) ?_ (.t _ _ (.v _))
 have hb:=q3K (P:=P) false hlo hhi h1 h2 w
 simp[execOp,ho,he,Instr.sliceAt,Instr.slice,run_underlying (W4 hu),hb]
def q0t (a:Option Addr) (c l h m s:Nat):Value:=.slice (if m=l then a else a.map (·.add (l*s))) (h-l) (m-l)
theorem q2I {t e:TypeId} {s:Nat} (hu:slO P t=some e) (hz:Me P e=some s) {a:Option Addr} {len c l h m:Nat} {lo hi mx:Option Value} (hb:∀ w,(Instr.sliceBounds true len c lo hi mx).run P w=.ok (l,h,m) w) (w:World) :
  (Instr.sliceAt t (.slice a len c) lo hi mx).run P w=.ok (q0t a c l h m s) w:=by
 simp[Instr.sliceAt,Instr.slice,run_underlying (Ci hu),hb,E0 hz,q0t]
theorem qEn {es:List (List T)} {cap:Option Nat} {nl:Option Bool} {x:Value} {s l h:Nat} (hx:TR w X (.sl es cap nl) x) (hw:Es s es) (h1:l<=h) (h2:h<=es.length) :
  ∃ a c,x=.slice a es.length c/\es.length<=c/\(∀ n,cap=some n->c=n)/\∀ m,h<=m->m<=c->∀ cap':Option Nat,(∀ n,cap'=some n->m-l=n)->TR w X (.sl ((es.drop l).take (h-l)) cap' nl) (q0t a c l h m s):=by
 have hlen:((es.drop l).take (h-l)).length=h-l:=by simp;omega
 rcases hx.sl_inv with⟨rfl,a,c,rfl,hc,hn,hz⟩|⟨s',b,off,c,rfl,hxb,hle,hc,hn,hw',hone,f,hcell,hrel⟩
 ·refine⟨a,c,rfl,Nat.zero_le _,hc,fun m hhm hmc cap' hcap=>?_⟩
  simp at h2;subst h2
  have:l=0:=by omega
  subst this
  have e:(if m=0 then a else a.map (·.add (0*s)))=a:=by
   split
   ·rfl
   ·cases a<;>simp[Addr.add]
  simp only[q0t,e,List.drop_nil,List.take_nil]
  exact .nil _ _ _ _ hcap hn (fun e=>by have:=hz e;omega)
 ·refine⟨_,c,rfl,hle,hc,fun m hhm hmc cap' hcap=>?_⟩
  by_cases hlh:l=h
  ·subst hlh
   have e:(es.drop l).take (l-l)=[]:=by simp
   simp only[q0t,e,xjb]
   refine .nil _ _ _ _ hcap (fun q hq=>?_) (fun e=>?_)
   ·rw[hn q hq];split<;>rfl
   ·split at e<;>simp at e
  ·have hss:s'=s:=by
    have hmem:=(q1E (es:=es) (i:=0) (by omega)).1
    exact(hw' _ hmem).symm.trans (hw _ hmem)
   subst hss
   have hml:¬ m=l:=by omega
   have hge:∀ i,i<h-l->((es.drop l).take (h-l))[i]? = es[l+i]? := fun i hi=>by rw[xq0,if_pos hi,xzc]
   have hmem:∀ e∈(es.drop l).take (h-l),e∈es:=fun e he=>List.mem_of_mem_drop (xz6 he)
   have:=TR.mk_sl (w:=w) (X:=X) (es:=(es.drop l).take (h-l)) (cap:=cap') (nl:=nl) (s:=s') (b:=b) (off:=off+l*s') (c:=m-l) (f:=fun i k=>f (l+i) k) hxb (by omega) hcap hn (fun e he=>hw' e (hmem e he)) (fun e he=>hone e (hmem e he))
    (fun i k hi hk=>by rw[hlen]at hi;have:=hcell (l+i) k (by omega) hk;rw[Nat.add_mul]at this;rwa [show off+l*s'+i*s'+k=off+(l*s'+i*s')+k by omega])
    (fun i k e t he ht=>by
     have hi:=(xqi.1 he).1
     rw[hlen]at hi
     rw[hge i hi]at he
     exact hrel (l+i) k e t he ht)
   rw[hlen]at this
   simp only[q0t,hml,↓reduceIte,xql,Addr.add_lit]
   exact this
theorem qBY {t e:TypeId} {s:Nat} {x:Operand} {lo hi:Option Operand} {es:List (List T)} {cap:Option Nat} {nl:Option Bool} {l h':Nat} (h:Sim w0 B κ X μ st tm w) (hg:Gl Γ w X) (ho:o.op=.slice t x lo hi none) (kx:Ai x=true) (hu:slO P t=some e) (hz:Me P e=some s)
  (hx:ev Γ st.env x=some (.t (.sl es cap nl))) (hw:Es s es) (hlo:Qm (Act.eval ⟨tm,ds⟩) lo 0 l) (hhi:Qm (Act.eval ⟨tm,ds⟩) hi es.length h') (h1:l<=h') (h2:h'<=es.length):Ao P w0 B κ X o (.t (.sl ((es.drop l).take (h' - l)) (cap.map (· - l)) nl)) st tm w ds:=by
 obtain⟨a,c,he,hle,hc,hcut⟩:=qEn (Az (ds:=ds) h hg hx kx).t_inv hw h1 h2
 refine Ao.same h (v:=q0t a c l h' c s) ?_ (.t _ _ (hcut c (by omega) (xzo _) _ (fun n hn=>?_)))
 ·have hrun:=q2I (P:=P) hu hz (a:=a) (len:=es.length) (c:=c) (fun w=>q3K (P:=P) (cap:=c) true hlo hhi h1 (by omega) w) w
  simp only[execOp,ho,he,Sem.run_bind,xzx,hrun];rfl
 ·simp only[xqb]at hn
  obtain⟨q,hq,rfl⟩:=hn
  rw[hc q hq]
theorem qAE {t e:TypeId} {s:Nat} {x hi mx:Operand} {lo:Option Operand} {es:List (List T)} {cap:Option Nat} {nl:Option Bool} {l h' m:Nat} (h:Sim w0 B κ X μ st tm w) (hg:Gl Γ w X) (ho:o.op=.slice t x lo (some hi) (some mx)) (kx:Ai x=true) (hu:slO P t=some e) (hz:Me P e=some s)
  (hx:ev Γ st.env x=some (.t (.sl es cap nl))) (hw:Es s es) (hlo:Qm (Act.eval ⟨tm,ds⟩) lo 0 l) (hhi:Qm (Act.eval ⟨tm,ds⟩) (some hi) es.length h') (hmx:Qm (Act.eval ⟨tm,ds⟩) (some mx) 0 m) (h1:l<=h') (h2:h'<=m) (h3:m<=es.length) :
  Ao P w0 B κ X o (.t (.sl ((es.drop l).take (h' - l)) (some (m-l)) nl)) st tm w ds:=by
 obtain⟨a,c,he,hle,hc,hcut⟩:=qEn (Az (ds:=ds) h hg hx kx).t_inv hw h1 (by omega:h'<=es.length)
 refine Ao.same h (v:=q0t a c l h' m s) ?_ (.t _ _ (hcut m h2 (by omega) _ (fun n hn=>by cases hn;rfl)))
 have hrun:=q2I (P:=P) hu hz (a:=a) (len:=es.length) (c:=c) (fun w=>q5g (P:=P) (cap:=c) hlo hhi hmx h1 h2 (by omega) w) w
 simp only[execOp,ho,he,Sem.run_bind,xql,hrun];rfl
theorem qEo {id off len:Nat} {cap:Option Nat} {x:Value} {q l h m:Nat} {sh:Nat->Option Sh} {n:Nat} (hx:AR w X μ sh (.ls id off len cap) x) (hs:sh id=some (.sl q n)) (h1:l<=h) (h2:h<=len) :
  ∃ a c,x=.slice a len c/\len<=c/\(∀ q,cap=some q->c=q)/\(m=c->AR w X μ sh (.ls id (off+l) (h-l) (cap.map (· - l))) (q0t a c l h m q))/\(h<=m->m<=len->AR w X μ sh (.ls id (off+l) (h-l) (some (m-l))) (q0t a c l h m q)):=by
 obtain⟨s',n',hs',hcase⟩:=hx.ls_inv
 rw[hs]at hs'
 simp only[xqa,Sh.sl.injEq]at hs'
 obtain⟨rfl,rfl⟩:=hs'
 rcases hcase with⟨hm,⟨a,rfl⟩,rfl,rfl,hc⟩|⟨g,mm,c,a,hm,rfl,hle,hlc,hcm,hfit,hfull,hc,ha⟩
 ·have:h=0:=by omega
  subst this
  have:l=0:=by omega
  subst this
  refine⟨a,0,rfl,xzo _,fun q hq=>(hc q hq).symm,fun hm0=>?_,fun _ hm0=>?_⟩
  ·subst hm0
   simp only[q0t,↓reduceIte,Nat.sub_zero,xzp]
   exact .lsnil id q n hs hm a _ (fun z hz=>by simp only[xqb]at hz;obtain⟨y,hy,rfl⟩:=hz;exact hc y hy)
  ·have:m=0:=by omega
   subst this
   simp only[q0t,↓reduceIte,Nat.sub_zero,xzp]
   exact .lsnil id q n hs hm a _ (fun z hz=>by cases hz;rfl)
 ·refine⟨some a,c,rfl,hlc,hc,fun hmc=>?_,fun hhm hml=>?_⟩
  ·subst hmc
   have hadd:(off+l)*q+(m-l)*q=(off+m)*q:=by rw[<- Nat.add_mul];congr 1;omega
   have e:q0t (some a) m l h m q=.slice (some (if m=l then a else a.add (l*q))) (h-l) (m-l):=by
    unfold q0t;split<;>rfl
   rw[e]
   refine .ls id (off+l) (h-l) q n g mm (m-l) _ hs hm (by omega) (by omega) (by omega) (by rw[Nat.add_mul (off+l),hadd];exact hfit) (fun hn=>by
    rw[Nat.add_mul (off+l),hadd];exact hfull (by cases cap<;>simp at hn ⊢)) (fun z hz=>by
    simp only[xqb]at hz;obtain⟨y,hy,rfl⟩:=hz;rw[hc y hy]) _ (fun hor=>?_)
   by_cases hml:m=l
   ·subst hml
    simp only[↓reduceIte]
    have h0:off+m=0:=by rcases hor with hor|hor<;>omega
    have:=ha (.inr (by omega))
    have ho:off=0:=by omega
    have hm0:m=0:=by omega
    rw[this,ho,hm0]
   ·simp only[hml,↓reduceIte]
    have:=ha (.inl (by omega))
    rw[this,Addr.add_lit,Nat.add_mul]
  ·have e:q0t (some a) c l h m q=.slice (some (if m=l then a else a.add (l*q))) (h-l) (m-l):=by
    unfold q0t;split<;>rfl
   rw[e]
   have hle2:(off+l+(m-l))*q<=(off+c)*q:=Nat.mul_le_mul_right _ (by omega)
   refine .ls id (off+l) (h-l) q n g mm (m-l) _ hs hm (by omega) (by omega) (by omega) (by omega) (fun hn=>by cases hn) (fun z hz=>by cases hz;rfl) _ (fun hor=>?_)
   by_cases hml2:m=l
   ·subst hml2
    simp only[↓reduceIte]
    have h0:off+m=0:=by rcases hor with hor|hor<;>omega
    have:=ha (.inr (by omega))
    have ho:off=0:=by omega
    have hm0:m=0:=by omega
    rw[this,ho,hm0]
   ·simp only[hml2,↓reduceIte]
    have:=ha (.inl (by omega))
    rw[this,Addr.add_lit,Nat.add_mul]
theorem qBZ {t e ty:TypeId} {s q id off len:Nat} {es:List (List T)} {x:Operand} {lo hi:Option Operand} {cap:Option Nat} {l h':Nat} (h:Sim w0 B κ X μ st tm w) (hg:Gl Γ w X) (ho:o.op=.slice t x lo hi none) (kx:Ai x=true) (hu:slO P t=some e) (hz:Me P e=some s)
  (hx:ev Γ st.env x=some (.ls id off len cap)) (hl:A0 st.hp id=some (.sl ty q es)) (hq:q=s) (hlo:Qm (Act.eval ⟨tm,ds⟩) lo 0 l) (hhi:Qm (Act.eval ⟨tm,ds⟩) hi len h') (h1:l<=h') (h2:h'<=len):Ao P w0 B κ X o (.ls id (off+l) (h' - l) (cap.map (· - l))) st tm w ds:=by
 subst hq
 obtain⟨a,c,he,hle,hc,hcut,_⟩:=qEo (m:=(match Act.eval ⟨tm,ds⟩ x with | .slice _ _ c=>c|_=>0)) (Az (ds:=ds) h hg hx kx) (by rw[Eh hl];rfl) h1 h2
 rw[he]at hcut
 have hcut:=hcut rfl
 refine Ao.same h (v:=q0t a c l h' c q) ?_ hcut
 have hrun:=q2I (P:=P) hu hz (a:=a) (len:=len) (c:=c) (fun w=>q3K (P:=P) (cap:=c) true hlo hhi h1 (by omega) w) w
 simp only[execOp,ho,he,Sem.run_bind,xzx,hrun];rfl
theorem qAF {t e ty:TypeId} {s q id off len:Nat} {es:List (List T)} {x hi mx:Operand} {lo:Option Operand} {cap:Option Nat} {l h' m:Nat} (h:Sim w0 B κ X μ st tm w) (hg:Gl Γ w X) (ho:o.op=.slice t x lo (some hi) (some mx)) (kx:Ai x=true) (hu:slO P t=some e) (hz:Me P e=some s)
  (hx:ev Γ st.env x=some (.ls id off len cap)) (hl:A0 st.hp id=some (.sl ty q es)) (hq:q=s) (hlo:Qm (Act.eval ⟨tm,ds⟩) lo 0 l) (hhi:Qm (Act.eval ⟨tm,ds⟩) (some hi) len h') (hmx:Qm (Act.eval ⟨tm,ds⟩) (some mx) 0 m) (h1:l<=h') (h2:h'<=m) (h3:m<=len) :
  Ao P w0 B κ X o (.ls id (off+l) (h' - l) (some (m-l))) st tm w ds:=by
 subst hq
 obtain⟨a,c,he,hle,hc,_,hcut⟩:=qEo (m:=m) (Az (ds:=ds) h hg hx kx) (by rw[Eh hl];rfl) h1 (by omega:h'<=len)
 refine Ao.same h (v:=q0t a c l h' m q) ?_ (hcut h2 h3)
 have hrun:=q2I (P:=P) hu hz (a:=a) (len:=len) (c:=c) (fun w=>q5g (P:=P) (cap:=c) hlo hhi hmx h1 h2 (by omega) w) w
 simp only[execOp,ho,he,Sem.run_bind,xql,hrun];rfl
theorem q05:∀ {es:List (List T)} {bs:List UInt8},Ns es=some bs->Es 1 es/\es.length=bs.length/\∀ (i:Nat) (e:List T),es[i]? = some e->∃ n,e=[.v (.int .u8 n)]/\bs[i]? = some (UInt8.ofNat n.toNat)
 | [],bs,h=>by simp only[Ns,xqa]at h;subst h;exact⟨fun e he=>by simp at he,rfl,fun i e he=>by simp at he⟩
 | e::es,bs,h=>by
  unfold Ns at h
  split at h
  ·rename_i heq;cases heq
  ·rename_i n es' heq
   cases heq
   simp only[xqb]at h
   obtain⟨bs',h',rfl⟩:=h
   obtain⟨h1,h2,h3⟩:=q05 h'
   refine⟨fun e he=>?_,by simp[h2],fun i e he=>?_⟩
   ·rcases xqv.1 he with rfl|he
    ·rfl
    ·exact h1 e he
   ·cases i with
    | zero=>simp at he;subst he;exact⟨n,rfl,rfl⟩
    | succ i=>simp at he;simpa using h3 i e he
  ·cases h
theorem q5h (body:Value->ByteArray->Sem (ForInStep ByteArray)) (hb:∀ n r,body (.int .u8 n) r=pure (ForInStep.yield (r.push (UInt8.ofNat n.toNat)))):∀ (xs:List Value) (ns:List Int),xs=ns.map (Value.int .u8)->∀ (s:ByteArray) (w:World),
  (forIn xs s body).run P w=.ok (ns.foldl (fun r n=>r.push (UInt8.ofNat n.toNat)) s) w
 | _,[],rfl,s,w=>by simp
 | _,n::ns,rfl,s,w=>by
  have ih:=q5h body hb (ns.map (Value.int .u8)) ns rfl (s.push (UInt8.ofNat n.toNat)) w
  simp only[xqm,List.forIn_cons,hb,Sem.run_bind,Sem.run_pure,Result.andThen_ok,ih,xz4]
theorem qDt (ns:List Int):∀ s:ByteArray,(ns.foldl (fun r n=>r.push (UInt8.ofNat n.toNat)) s).data.toList=s.data.toList++ns.map fun n=>UInt8.ofNat n.toNat:=by
 induction ns with
 | nil=>intro s;simp
 | cons n ns ih=>intro s;rw[xz4,ih];simp[ByteArray.push]
theorem q9a {bs:List UInt8} {es:List (List T)} {x:Value} {a:AV} (h:Sim w0 B κ X μ st tm w) (ha:AR w X μ st.sh a x) (he:C3 st.hp a=some es) (hb:Ns es=some bs):(Conv.bytesToString x).run P w=.ok (.string ⟨bs.toArray⟩) w:=by
 obtain⟨hw,hlen,hget⟩:=q05 hb
 obtain⟨oa,c,vs,rfl,hels,_,hsrc⟩:=Wc h ha he hw
 have hvals:∃ ns:List Int,vs.flatten=ns.map (Value.int .u8)/\ns.map (fun n=>UInt8.ofNat n.toNat)=bs:=by
  clear hsrc
  have:∀ (es:List (List T)) (vs:List (List Value)) (bs:List UInt8),Els w X 1 es vs->es.length=bs.length->(∀ (i:Nat) (e:List T),es[i]? = some e->∃ n,e=[.v (.int .u8 n)]/\bs[i]? = some (UInt8.ofNat n.toNat))->∃ ns:List Int,vs.flatten=ns.map (Value.int .u8)/\ns.map (fun n=>UInt8.ofNat n.toNat)=bs:=by
   intro es
   induction es with
   | nil =>
    intro vs bs h1 h2 _
    have:vs=[]:=xqo h1.1.symm
    subst this
    have:bs=[]:=xqo h2.symm
    subst this
    exact⟨[],rfl,rfl⟩
   | cons e es ih =>
    intro vs bs h1 h2 h3
    match vs,bs,h1,h2,h3 with
    | v::vs,b::bs,h1,h2,h3 =>
     obtain⟨n,rfl,hb⟩:=h3 0 e rfl
     simp at hb
     have hv:=h1.2.2.2 0 _ v rfl rfl
     obtain⟨y,ys,rfl,hy,hys⟩:=hv.cons_inv
     have:=hys.nil_inv;subst this
     have:=hy.v_inv;subst this
     obtain⟨ns,hn1,hn2⟩:=ih vs bs ⟨by have:=h1.1;simpa using this,fun v hv=>h1.2.1 v (by simp[hv]),fun e he=>h1.2.2.1 e (by simp[he]),fun i e v he hv=>h1.2.2.2 (i+1) e v (by simpa using he) (by simpa using hv)⟩ (by simpa using h2) (fun i e he=>by simpa using h3 (i+1) e (by simpa using he))
     exact⟨n::ns,by simp[hn1],by simp[hn2,hb]⟩
    | [],_,h1,_,_=>exact absurd h1.1 (by simp)
    | _::_,[],_,h2,_=>exact absurd h2 (by simp)
  exact this es vs bs hels hlen hget
 obtain⟨ns,hn1,hn2⟩:=hvals
 have hfin:(ns.foldl (fun r n=>r.push (UInt8.ofNat n.toNat)) ByteArray.empty)=⟨bs.toArray⟩:=by
  have:=qDt ns ByteArray.empty
  generalize ns.foldl (fun r n=>r.push (UInt8.ofNat n.toNat)) ByteArray.empty=R at this
  cases R with
  | mk d =>
   congr 1
   apply Array.toList_inj.1
   rw[this,hn2];rfl
 by_cases hne:es=[]
 ·subst hne
  have hbs:bs=[]:=xqo hlen.symm
  subst hbs
  cases oa with
  | none=>simp[Conv.bytesToString];rfl
  | some b =>
   simp only[Conv.bytesToString,xq9,loadCells,loadCellsFrom,Sem.run_bind,Sem.run_pure,Result.andThen_ok]
   simp;rfl
 ·obtain⟨b,off,rfl,hcell⟩:=hsrc hne
  have hl:=Cj hels.2.1
  rw[Nat.mul_one,<- hels.1]at hl
  have hload:=run_loadCells_list (P:=P) w ⟨b,off,none⟩ vs.flatten (fun j v hv=>by rw[Addr.add_lit];exact hcell j v hv)
  rw[hl]at hload
  simp only[Conv.bytesToString,Sem.run_bind,hload,Result.andThen_ok]
  rw[<- Array.forIn_toList,q5h (P:=P) _ (fun n r=>rfl) vs.flatten ns hn1 ByteArray.empty w,hfin]
  rfl
theorem qBa {src dst e:TypeId} {x:Operand} {a:AV} {es:List (List T)} {bs:List UInt8} (h:Sim w0 B κ X μ st tm w) (hg:Gl Γ w X) (ho:o.op=.convert src dst x) (kx:Ai x=true) (hs:slO P src=some e) (hi:q8C P e=some .u8) (hd:q4r P dst=true)
  (hx:ev Γ st.env x=some a) (he:C3 st.hp a=some es) (hb:Ns es=some bs):Ao P w0 B κ X o (.t (.v (.string ⟨bs.toArray⟩))) st tm w ds:=by
 have hr:=Az (ds:=ds) h hg hx kx
 have hrun:=q9a (P:=P) h hr he hb
 obtain⟨oa,c,vs,hv,_⟩:=Wc h hr he (q05 hb).1
 refine Ao.same h (v:=.string ⟨bs.toArray⟩) ?_ (.t _ _ (.v _))
 rw[hv]at hrun
 simp only[execOp,ho,hv,convert,Sem.run_bind,run_underlying (Ci hs),run_underlying (W4 hd),Result.andThen_ok]
 cases oa with
 | none=>simp only[run_underlying (Yz hi),Sem.run_bind,Result.andThen_ok,hrun,Sem.run_pure]
 | some b=>simp only[run_underlying (Yz hi),Sem.run_bind,Result.andThen_ok,hrun,Sem.run_pure]
end
end Go.Lg
namespace Go.Lg
open Go
section
variable {P:Program} {Γ:Tables} {w0:World} {B:Nat} {κ:D7} {X:Nat->Prop} {μ:D7} {st:St} {tm:Array Value} {w:World} {ds:List Deferred} {o:Oper}
theorem qKm {t ty d:TypeId} {zs:List Value} {l c:Operand} {n m:Int} {k1 k2:IntKind} (he:Ew P t ty 1) (hzo:E9 P ty=some zs) (hc1:O3 zs=true) (h:Sim w0 B κ X μ st tm w) (hg:Gl Γ w X) (ho:o.op=.makeSlice t l c) (kl:Ai l=true) (kc:Ai c=true)
  (hl:ev Γ st.env l=some (.t (.v (.int k1 n)))) (hc:ev Γ st.env c=some (.t (.v (.int k2 m)))) (h0:0<=n) (hnm:n=m) (hm:m<=2147483648) (hd:A0 st.hp d=none) (hdb:d<1000000) :
  Ao P w0 B κ X o (.lb d n.toNat) ⟨st.env,(d,.bx (List.replicate n.toNat (.t (C4 (zs.headD undef)))))::st.hp⟩ tm w ds:=by
 subst hnm
 obtain⟨arr,harr,hsz,hzl,hrun⟩:=qBW (ds:=ds) he hzo hc1 h hg ho kl kc hl hc h0 (by omega) hm
 obtain⟨z,rfl⟩:∃ z,zs=[z]:=by
  match zs,hzl with
  | [z],_=>exact⟨z,rfl⟩
 have harr':arr.toList=List.replicate n.toNat z:=by
  rw[harr];simp[List.flatten_replicate_singleton]
 have hsz':arr.size=n.toNat:=by rw[hsz];omega
 have hz1:z.oneCell'=true:=by simpa[O3]using hc1
 refine Ao.region h (arr:=arr) (ty:=ty) (v:=.slice (some ⟨w.heap.size,0,none⟩) n.toNat n.toNat) w.drawn hd hdb hrun ?_ ?_
 ·have hon:C7 (List.replicate n.toNat (AV.t (C4 z)))=true:=xqz.2 fun a ha=>by rw[xqx ha];exact q3G hz1
  have:=qBR (ty:=ty) (as:=List.replicate n.toNat (AV.t (C4 z))) (xs:=arr.toList) h w.drawn hd hon ⟨by simp[hsz'],fun k a x ha hx=>by
   rw[harr']at hx
   rw[xqx (xqp ha),xqx (xqp hx)]
   exact .t _ _ (q2H z)⟩
  simpa using this
 ·have:=AR.lb (w:=World.alloc { w with drawn:=w.drawn } (.cells arr ty)) (X:=X) (μ:=μ.set d (some (w.heap.size,arr.size))) (sh:=St.sh ⟨st.env,(d,.bx (List.replicate n.toNat (.t (C4 ([z].headD undef)))))::st.hp⟩) d w.heap.size n.toNat (by rw[Uj];rfl) (by simp only[D7.set,↓reduceIte,hsz']) (O4 (by omega))
  exact this
theorem qDu {t e:TypeId} {s:Nat} {cs:List AV} {x i:Operand} {id m:Nat} {k:IntKind} {n:Int} (h:Sim w0 B κ X μ st tm w) (hg:Gl Γ w X) (ho:o.op=.indexAddr t x i) (kx:Ai x=true) (ki:Ai i=true)
  (hu:slO P t=some e) (hz:Me P e=some s) (hx:ev Γ st.env x=some (.lb id m)) (hl:A0 st.hp id=some (.bx cs)) (hs1:s=1) (hi:ev Γ st.env i=some (.t (.v (.int k n)))) (h0:0<=n) (h1:n<m) :
  Ao P w0 B κ X o (.lp id 0 n.toNat) st tm w ds:=by
 have hix:=(Az (ds:=ds) h hg hi ki).t_inv.v_inv
 obtain⟨g,hs,hm,hle,he⟩:=(Az (ds:=ds) h hg hx kx).lb_inv
 subst hs1
 refine Ao.same h (v:=.pointer (some ⟨g,n.toNat,none⟩)) ?_ (.lpbx id _ g m hs hm)
 have hlt:(0<=n/\n<(m:Int)):=⟨h0,h1⟩
 simp[execOp,ho,he,hix,Instr.indexAt,asIntOf,run_underlying (Ci hu),hlt,E0 hz,Addr.add_lit,Nat.add_mul]
theorem qKn {t d:TypeId} {x:Operand} {s:ByteArray} (h:Sim w0 B κ X μ st tm w) (hg:Gl Γ w X) (ho:o.op=.range t x) (kx:Ai x=true) (hu:q4r P t=true) (hx:ev Γ st.env x=some (.t (.v (.string s)))) (hd:A0 st.hp d=none) (hdb:d<1000000) :
  Ao P w0 B κ X o (.li d) ⟨st.env,(d,.it s 0)::st.hp⟩ tm w ds:=by
 have hxv:=(Az (ds:=ds) h hg hx kx).t_inv.v_inv
 have hb:RowKit.Below w.heap.size w (w.alloc (.stringIter s 0)):=(RowKit.Below.refl _ _).alloc (xzo _) _
 have h2:=h.grow (X':=X) hb (fun _ hx=>hx) (fun b hx=>.inl hx)
 refine⟨_,.pointer (some ⟨w.heap.size,0,none⟩),w.alloc (.stringIter s 0),μ.set d (some (w.heap.size,0)),X,by simp[execOp,ho,Instr.range,hxv,run_underlying (W4 hu)],.inl rfl,h2.addReg hd hdb (.it s 0) (some (w.heap.size,0)) ?_ ?_,?_,fun _ hx=>hx,fun b hx=>hb.block b (h.xlt b hx),fun _ hx=>.inl hx⟩
 ·intro g m e
  cases e
  refine⟨fun hx=>?_,by simp,fun hlt=>absurd h.size (by omega),fun id n' hi hm=>?_⟩
  ·have:=h.xlt _ hx;omega
  ·have:=(h.loc id _ _ hi hm).2.1;omega
 ·exact⟨w.heap.size,0,by simp[D7.set],heap_alloc_new w _⟩
 ·exact .li d w.heap.size 0 (by rw[Uj];rfl) (by simp[D7.set])
theorem qKo {x:Operand} {s:ByteArray} {id pos:Nat} (h:Sim w0 B κ X μ st tm w) (hg:Gl Γ w X) (ho:o.op=.next x true) (kx:Ai x=true) (hx:ev Γ st.env x=some (.li id)) (hl:A0 st.hp id=some (.it s pos)) :
  (pos<s.size->Ao P w0 B κ X o (.t (.tup [.v (.bool true),.v (.int .i64 pos),.v (.int .i32 (Utf8.decode s pos).1)])) ⟨st.env,Dn id (.it s (pos+(Utf8.decode s pos).2)) st.hp⟩ tm w ds) /\
  (¬ pos<s.size->Ao P w0 B κ X o (.t (.tup [.v (.bool false)])) st tm w ds):=by
 obtain⟨g,m,hs,hm,he⟩:=(Az (ds:=ds) h hg hx kx).li_inv
 obtain⟨g',n',hm',hh⟩:=h.reg _ _ hl
 rw[hm]at hm';cases hm'
 have hglt:g<w.heap.size:=(Array.getElem?_eq_some_iff.1 hh).1
 constructor
 ·intro hp
  obtain⟨hsim,hs'⟩:=h.setReg hl (r':=.it s (pos+(Utf8.decode s pos).2)) rfl hm (w':={ w with heap:=w.heap.setIfInBounds g (.stringIter s (pos+(Utf8.decode s pos).2)) }) rfl rfl rfl (by simp) (fun j hj=>by simp[Array.getElem?_setIfInBounds,Ne.symm hj])
   (fun hs'=>⟨g,m,hm,by simp[hglt]⟩)
  refine⟨_,.tuple #[.bool true,goInt pos,.int .i32 (Utf8.decode s pos).1],_,μ,X,?_,.inl rfl,hsim,.t _ _ (TR.mk_tup (Fp.cons (.v _) (Fp.cons (.v _) (Fp.cons (.v _) (Fp.nil _ _))))),fun _ hx=>hx,hs',fun _ hx=>.inl hx⟩
  simp[execOp,ho,he,Instr.next,getObj,setObj,Sem.run,hh,hp,goInt]
 ·intro hp
  refine Ao.same h (v:=.tuple #[.bool false]) ?_ (.t _ _ (TR.mk_tup (Fp.cons (.v _) (Fp.nil _ _))))
  simp[execOp,ho,he,Instr.next,getObj,Sem.run,hh,hp]
end
end Go.Lg
namespace Go.Lg
open Go
section
variable {P:Program} {Γ:Tables} {w0:World} {B:Nat} {κ:D7} {X:Nat->Prop} {μ:D7} {st:St} {tm:Array Value} {w:World} {ds:List Deferred} {o:Oper}
theorem q8d {id:Nat} {r:Aw}:∀ {hp:List (Nat×Aw)},A0 hp id=some r->Dn id r hp=hp
 | [],h=>by simp[A0]at h
 | (k,v)::e,h=>by
  simp only[A0]at h
  simp only[Dn]
  split
  ·rename_i hk;rw[if_pos hk]at h;cases h;rw[hk]
  ·rename_i hk;rw[if_neg hk]at h;rw[q8d h]
theorem qEp {s:Nat} {es:List (List T)} {vs:List (List Value)} (h:Els w X s es vs) (n:Nat):Els w X s (es.drop n) (vs.drop n):=by
 refine⟨by simp[h.1],fun v hv=>h.2.1 v (List.mem_of_mem_drop hv),fun e he=>h.2.2.1 e (List.mem_of_mem_drop he),fun i e v he hv=>?_⟩
 rw[xzc]at he hv
 exact h.2.2.2 _ e v he hv
theorem qBb {id ty s:Nat} {es:List (List T)} {vs:List (List Value)} {sh:Nat->Option Sh} {g:Nat} {arr:Array Value} {rest:List Value} (hm:μ id=some (g,arr.size)) (hh:w.heap[g]? = some (.cells arr ty (0,0))) (he:Els w X s es vs) (ha:arr.toList=vs.flatten++rest):Dc w X μ sh id (.sl ty s es):=by
 have hfl:=Cj he.2.1
 refine⟨fun i e hi=>?_,.inr ⟨g,arr,hm,hh,?_,fun i k e t x h1 h2 h3=>?_⟩⟩
 ·have:=he.2.2.1 e (xqp hi)
  exact⟨this.1,fun k t hk=>xqz.1 this.2 t (xqp hk)⟩
 ·have:=congrArg List.length ha
  simp only[Array.length_toList,xq6]at this
  rw[he.1];omega
 ·have hi:=(xqi.1 h1).1
  have hes:=(he.2.2.1 e (xqp h1)).1
  have hk:k<s:=by rw[<- hes];exact(xqi.1 h2).1
  have hf:=Wb he.2.1 i k hk
  have h3':(vs.flatten++rest)[i*s+k]? = some x:=by rw[<- ha];simpa using h3
  have hlt:i*s+k<vs.flatten.length:=by
   rw[hfl,<- he.1]
   have:=Nv (s:=s) hi
   omega
  rw[xzd hlt,hf]at h3'
  obtain⟨v,hv,hx⟩:=xqk.1 h3'
  exact(he.2.2.2 i e v h1 hv).2 k t x h2 hx
theorem qAG {x y:Operand} {t t2:TypeId} (ho:o.op=.call { callee:=.builtin .copy,args:=#[x,y],argTypes:=#[t,t2] }) {v:Value} {w':World}
  (h:(Builtin.copy_ #[t,t2] o.type #[Act.eval ⟨tm,ds⟩ x,Act.eval ⟨tm,ds⟩ y]).run P w=.ok v w'):(execOp (Act.eval ⟨tm,ds⟩) o).run P w=.ok (.value v) w':=by
 simp[execOp,ho,resolve,invoke,builtin,h]
theorem qKp {t t2 ty ty2 s id off len:Nat} {cap:Option Nat} {x y:Operand} {es news:List (List T)} {ay:AV} (hsl:slO P t=some ty) (hsz:Me P ty=some s) (hpos:0<s) (h:Sim w0 B κ X μ st tm w) (hg:Gl Γ w X) (ho:o.op=.call { callee:=.builtin .copy,args:=#[x,y],argTypes:=#[t,t2] }) (kx:Ai x=true) (ky:Ai y=true)
  (hx:ev Γ st.env x=some (.ls id off len cap)) (hl:A0 st.hp id=some (.sl ty2 s es)) (hy:ev Γ st.env y=some ay) (hnews:C3 st.hp ay=some news) (hw:Es s news) :
  Ao P w0 B κ X o (.t (.v (.int .i64 (min len news.length:Nat)))) ⟨st.env,Dn id (.sl ty2 s (es.take off++news.take (min len news.length)++es.drop (off+min len news.length))) st.hp⟩ tm w ds:=by
 have hrb:=Az (ds:=ds) h hg hx kx
 have hrx:=Az (ds:=ds) h hg hy ky
 have hreg:=h.reg id _ hl
 have hid:st.sh id≠none:=by simp[Eh hl]
 obtain⟨oa,c2,vs,hvx,hels,hone,hsrc⟩:=Wc h hrx hnews hw
 obtain⟨s2,n2,hs2,hcase⟩:=hrb.ls_inv
 rw[Eh hl]at hs2
 simp only[Aw.sh,xqa,Sh.sl.injEq]at hs2
 obtain⟨rfl,rfl⟩:=hs2
 have hfc0:(Builtin.firstCells s 0 (.slice oa news.length c2)).run P w=.ok #[] w:=by
  cases oa<;>simp[Builtin.firstCells,loadCells,loadCellsFrom]
 -- nothing is copied
 have zero:∀ (ab:Option Addr) (cb:Nat),Act.eval ⟨tm,ds⟩ x=.slice ab len cb->min len news.length=0->Ao P w0 B κ X o (.t (.v (.int .i64 (min len news.length:Nat)))) ⟨st.env,Dn id (.sl ty2 s (es.take off++news.take (min len news.length)++es.drop (off+min len news.length))) st.hp⟩ tm w ds:=by
  intro ab cb hv h0
  have hrun:(Builtin.copy_ #[t,t2] o.type #[Act.eval ⟨tm,ds⟩ x,Act.eval ⟨tm,ds⟩ y]).run P w=.ok (goInt 0) w:=by
   rw[hv,hvx]
   have hm0:Nat.min news.length len=0:=(Nat.min_comm news.length len).trans h0
   simp only[Builtin.copy_,Sem.run_bind,List.getElem?_toArray,xzq,xzr,run_underlying (Ci hsl),Result.andThen_ok,E0 hsz,Sem.run_pure,Builtin.lenOf,hm0,hfc0]
   cases ab<;>simp[storeCells]
  rw[h0,List.take_zero,List.append_nil,xzp,List.take_append_drop,q8d hl]
  exact Ao.same h (qAG ho hrun) (.t _ _ (.v _))
 rcases hcase with⟨hm,⟨ab,hvb⟩,_,rfl,_⟩|⟨g,m,cb,ad,hm,hvb,hle,hlc,hcm,hfit,hfull,_,had⟩
 ·exact zero ab 0 hvb (Nat.zero_min _)
 ·by_cases h0:min len news.length=0
  ·exact zero (some ad) cb hvb h0
  ·have hlen:0<len:=by
    rcases Nat.eq_zero_or_pos len with h|h
    ·subst h;exact absurd (Nat.zero_min _) h0
    ·exact h
   have hnl:0<news.length:=by
    rcases Nat.eq_zero_or_pos news.length with h|h
    ·rw[h]at h0;exact absurd (Nat.min_zero _) h0
    ·exact h
   have hadg:=had (.inl (by omega))
   subst hadg
   obtain⟨bb,boff,rfl,hcell⟩:=hsrc (xza.1 hnl)
   generalize hn:min len news.length=n at *
   have hnlen:n<=len:=by rw[<- hn];exact Nat.min_le_left _ _
   have hnnew:n<=news.length:=by rw[<- hn];exact Nat.min_le_right _ _
   obtain⟨arr,rest,us,hheap,hsza,helsr,harr⟩:=q6p hreg hpos hm
   have helst:=q1F hels n
   have hvn:(vs.take n).length=n:=by simp;rw[<- hels.1];exact Nat.min_eq_left hnnew
   have hfl:(vs.take n).flatten.length=n*s:=by rw[Cj helst.2.1,hvn]
   have hpre:∀ (j:Nat) (v:Value),(vs.take n).flatten[j]? = some v->vs.flatten[j]? = some v:=fun j v hv=>by
    have e:vs.flatten=(vs.take n).flatten++(vs.drop n).flatten:=by rw[<- List.flatten_append,List.take_append_drop]
    rw[e,xzd (xqi.1 hv).1];exact hv
   have hfc:=run_firstCells_some (P:=P) w s n ⟨bb,boff,none⟩ news.length c2 (vs.take n).flatten hfl (fun j v hv=>by rw[Addr.add_lit];exact hcell j v (hpre j v hv))
   have h1:∀ u∈(vs.take n).flatten,u.oneCell'=true:=fun u hu=>by
    obtain⟨v,hv,hu⟩:=List.mem_flatten.1 hu
    exact hone v (xz6 hv) u hu
   have hlu:us.flatten.length=es.length*s:=by rw[Cj helsr.2.1,helsr.1]
   have hofit:off*s+(vs.take n).flatten.length<=arr.size:=by
    have hA:=congrArg List.length harr
    simp only[Array.length_toList,xq6]at hA
    rw[hfl,<- Nat.add_mul]
    have:(off+n)*s<=es.length*s:=Nat.mul_le_mul_right _ (by omega)
    omega
   have hst:=run_storeCells_at P g (off*s) ty2 (vs.take n).flatten 0 arr w hheap (by simpa using hofit) h1
   simp only[xzp]at hst
   have hrun:(Builtin.copy_ #[t,t2] o.type #[Act.eval ⟨tm,ds⟩ x,Act.eval ⟨tm,ds⟩ y]).run P w=.ok (goInt n) (w.setRow g (arr.toList.take (off*s)++(vs.take n).flatten++arr.toList.drop (off*s+(vs.take n).flatten.length)).toArray):=by
    rw[hvb,hvx]
    have hm0:Nat.min news.length len=n:=(Nat.min_comm news.length len).trans hn
    simp only[Builtin.copy_,Sem.run_bind,List.getElem?_toArray,xzq,xzr,run_underlying (Ci hsl),Result.andThen_ok,E0 hsz,Sem.run_pure,Builtin.lenOf,hm0,hfc]
    simp[hst]
   have huf:∀ k,us.flatten.take (k*s)=(us.take k).flatten:=fun k=>by
    by_cases hk:k<=us.length
    ·have e:us.flatten=(us.take k).flatten++(us.drop k).flatten:=by rw[<- List.flatten_append,List.take_append_drop]
     have hl2:(us.take k).flatten.length=k*s:=by rw[Cj (q1F helsr k).2.1];simp;rw[Nat.min_eq_left hk]
     rw[e,List.take_append_of_le_length (by omega),xqw (by omega)]
    ·rw[xqw (by rw[Cj helsr.2.1];exact Nat.mul_le_mul_right _ (by omega)),xqw (by omega)]
   have hud:us.flatten.drop ((off+n)*s)=(us.drop (off+n)).flatten:=by
    have e:us.flatten=(us.take (off+n)).flatten++(us.drop (off+n)).flatten:=by rw[<- List.flatten_append,List.take_append_drop]
    have hl2:(us.take (off+n)).flatten.length=(off+n)*s:=by rw[Cj (q1F helsr (off+n)).2.1];simp;rw[Nat.min_eq_left (by rw[<- helsr.1];omega)]
    rw[e,List.drop_append_of_le_length (by omega),xq2 (by omega),List.nil_append]
   have hul:us.flatten.length=es.length*s:=hlu
   have hon:(off+n)*s<=es.length*s:=Nat.mul_le_mul_right _ (by omega)
   have hoo:off*s<=es.length*s:=Nat.mul_le_mul_right _ (by omega)
   have hta:arr.toList.take (off*s)=(us.take off).flatten:=by
    rw[harr,List.take_append_of_le_length (by omega),huf]
   have hda:arr.toList.drop (off*s+(vs.take n).flatten.length)=(us.drop (off+n)).flatten++rest:=by
    rw[hfl,<- Nat.add_mul,harr,List.drop_append_of_le_length (by omega),hud]
   have hsz2:(arr.toList.take (off*s)++(vs.take n).flatten++arr.toList.drop (off*s+(vs.take n).flatten.length)).toArray.size=arr.size:=q3z rfl hofit
   have hsh:(Aw.sl ty2 s (es.take off++news.take n++es.drop (off+n))).sh=(Aw.sl ty2 s es).sh:=by
    simp only[Aw.sh,xq6,xzf,List.length_drop]
    rw[show min off es.length+min n news.length+(es.length-(off+n))=es.length by rw[Nat.min_eq_left (by omega),Nat.min_eq_left hnnew];omega]
   obtain⟨hsim,hs'⟩:=h.setReg hl hsh hm (w':=w.setRow g (arr.toList.take (off*s)++(vs.take n).flatten++arr.toList.drop (off*s+(vs.take n).flatten.length)).toArray) rfl rfl rfl (by simp) (fun j hj=>setRow_other w g j _ hj) (fun hs'=>by
    refine qBb (rest:=rest) (by rw[hsz2,hsza];exact hm) (setRow_heap w g arr _ ty2 _ hheap) ((((q1F helsr off).append helst).append (qEp helsr (off+n))).mono hs' fun _ hx=>hx) ?_
    simp only[List.flatten_append]
    rw[hta,hda,List.append_assoc,List.append_assoc,List.append_assoc])
   exact⟨_,goInt n,_,μ,X,qAG ho hrun,.inl rfl,hsim,.t _ _ (.v _),fun _ hx=>hx,hs',fun _ hx=>.inl hx⟩
end
end Go.Lg
namespace Go.Lg
open Go
section
variable {P:Program} {Γ:Tables} {w0:World} {B:Nat} {κ:D7} {X:Nat->Prop} {μ:D7} {st:St} {tm:Array Value} {w:World} {ds:List Deferred} {o:Oper}
def q6s:Value->Lit
 | .int k n=>.int k n
 | .bool b=>.bool b
 | _=>.nil
theorem q3L {α β:Type} (f:α->Option β) (g:α->β):∀ l:List α,(∀ x∈l,f x=some (g x))->l.mapM f=some (l.map g)
 | [],_=>rfl
 | a::l,h=>by
  rw[List.mapM_cons,h a xqh,q3L f g l fun x hx=>h x (xqf _ hx)]
  rfl
theorem q41:∀ {ks:List (Option IntKind)} {vs:List Value},q19 ks vs->vs.length=ks.length
 | [],[],_=>rfl
 | k::ks,v::vs,h=>by simp[q41 h.2]
 | [],_::_,h=>h.elim
 | _::_,[],h=>h.elim
theorem q51:∀ {n:Nat} {ks:List (Option IntKind)} {vs:List Value},q19 ks vs->q19 (ks.drop n) (vs.drop n)
 | 0,_,_,h=>h
 | n+1,[],[],_=>trivial
 | n+1,k::ks,v::vs,h=>q51 (n:=n) h.2
 | n+1,[],_::_,h=>h.elim
 | n+1,_::_,[],h=>h.elim
theorem q52:∀ {n:Nat} {ks:List (Option IntKind)} {vs:List Value},q19 ks vs->q19 (ks.take n) (vs.take n)
 | 0,ks,vs,_=>by simp[q19]
 | n+1,[],[],_=>trivial
 | n+1,k::ks,v::vs,h=>⟨h.1,q52 (n:=n) h.2⟩
 | n+1,[],_::_,h=>h.elim
 | n+1,_::_,[],h=>h.elim
theorem q5i {α:Type} (s:Nat) (l:List α):∀ n,n*s<=l.length->((List.range n).map fun i=>(l.drop (i*s)).take s).flatten=l.take (n*s)
 | 0,_=>by simp
 | n+1,h=>by
  rw[Nat.add_mul,Nat.one_mul]at h
  rw[List.range_succ,List.map_append,List.flatten_append,q5i s l n (by omega),Nat.add_mul,Nat.one_mul,List.take_add]
  simp
theorem q8e {α:Type} (l:List α):∀ (fs:List Field) (off:Nat),q5c P fs off l.length=true->off<=l.length->(fs.map fun f=>(l.drop f.offset).take (P.cellsOf f.type)).flatten=l.drop off
 | [],off,h,_=>by
  simp only[q5c,xz0]at h
  subst h
  simp
 | f::fs,off,h,ho=>by
  simp only[q5c,xqc,xz0]at h
  obtain⟨h1,h2⟩:=h
  have hle:∀ (fs:List Field) (off:Nat),q5c P fs off l.length=true->off<=l.length:=by
   intro fs
   induction fs with
   | nil=>intro off h;simp only[q5c,xz0]at h;omega
   | cons g gs ih =>
    intro off h
    simp only[q5c,xqc,xz0]at h
    have:=ih _ h.2
    omega
  rw[xqm,List.flatten_cons,q8e l fs _ h2 (hle _ _ h2),h1,<- List.drop_drop,List.take_append_drop]
theorem q06:∀ (d:Nat) (t:TypeId) (ks:List (Option IntKind)),q3w P d t ks=true->∀ vs,q19 ks vs->P.keyLits d t vs=some (vs.map q6s)
 | 0,_,_,h,_,_=>by simp[q3w]at h
 | d+1,t,ks,h,vs,hv=>by
  simp only[q3w]at h
  split at h
  ·rename_i hu
   have:=of_decide_eq_true h
   subst this
   match vs,hv with
   | [.bool b],_=>simp[Program.keyLits,hu,q6s]
   | [.int _ _],h=>exact h.1.elim
   | v::u::vs,h=>exact h.2.elim
  ·rename_i q hu
   have:=of_decide_eq_true h
   subst this
   match vs,hv with
   | [.int j n],h =>
    obtain⟨⟨rfl,hw⟩,_⟩:=h
    simp[Program.keyLits,hu,q6s,hw]
   | v::u::vs,h=>exact h.2.elim
  ·rename_i n e hu
   simp only[xqc,xz0]at h
   obtain⟨⟨h1,h2⟩,h3⟩:=h
   have hl:=q41 hv
   rw[xqz]at h3
   have hm:=q3L (fun i=>P.keyLits d e ((vs.drop (i*P.cellsOf e)).take (P.cellsOf e))) (fun i=>((vs.drop (i*P.cellsOf e)).take (P.cellsOf e)).map q6s) (List.range n) fun i hi=>q06 d e _ (h3 i hi) _ (q52 (q51 hv))
   simp only[Program.keyLits,hu]
   rw[if_pos (by omega),hm]
   simp only[xql,xqa]
   have:=q5i (P.cellsOf e) (vs.map q6s) n (by rw[xq4];omega)
   rw[xqw (by rw[xq4];omega)]at this
   rw[<- this]
   simp[List.map_drop,List.map_take]
  ·rename_i fs hu
   simp only[xqc,xz0]at h
   obtain⟨⟨⟨h1,h2⟩,h3⟩,h4⟩:=h
   have hl:=q41 hv
   rw[xqz]at h4
   have hm:=q3L (fun f:Field=>P.keyLits d f.type ((vs.drop f.offset).take (P.cellsOf f.type))) (fun f=>((vs.drop f.offset).take (P.cellsOf f.type)).map q6s) fs.toList fun f hf=>q06 d f.type _ (h4 f hf) _ (q52 (q51 hv))
   simp only[Program.keyLits,hu]
   rw[if_pos ⟨by omega,h2⟩,hm]
   simp only[xql,xqa]
   have:=q8e (P:=P) (vs.map q6s) fs.toList 0 (by rw[xq4,hl];exact h3) (Nat.zero_le _)
   rw[xzt]at this
   rw[<- this]
   simp[List.map_drop,List.map_take]
  ·cases h
theorem qAH:∀ {ks:List (Option IntKind)} {as bs:List Value},q19 ks as->q19 ks bs->(q2S as bs=true↔as.map q6s=bs.map q6s)
 | [],[],[],_,_=>by simp[q2S]
 | k::ks,a::as,b::bs,h,g=>by
  have ih:=qAH h.2 g.2
  simp only[q2S,xqc,xqm,List.cons.injEq,ih]
  refine and_congr_left fun _=>?_
  match k,a,b,h.1,g.1 with
  | some k,.int j n,.int i m,⟨e1,_⟩,⟨e2,_⟩ =>
   subst e1
   subst e2
   simp[qIN,q6s]
  | none,.bool x,.bool y,_,_=>simp[qIN,q6s]
 | [],_::_,_,h,_=>h.elim
 | [],[],_::_,_,g=>g.elim
 | _::_,[],_,h,_=>h.elim
 | _::_,_::_,[],_,g=>g.elim
theorem qCg:∀ {cs:List AV} {xs as:List Value},Ir w X μ st.sh cs xs->Ag (cs.map qIP)=some as->xs=as
 | [],xs,as,h,ha=>by
  have:=h.nil_inv;subst this
  simpa[Ag]using ha
 | c::cs,xs,as,h,ha=>by
  obtain⟨y,ys,rfl,h1,h2⟩:=h.cons_inv
  match c,h1,ha with
  | .t (.v x),h1,ha =>
   simp only[xqm,qIP,Ag,xqb]at ha
   obtain⟨bs,hb,rfl⟩:=ha
   rw[qCg h2 hb,h1.t_inv.v_inv]
theorem qCh:∀ {cs:List T} {xs as:List Value},Fp w X cs xs->Ag (cs.map qIO)=some as->xs=as
 | [],xs,as,h,ha=>by
  have:=h.nil_inv;subst this
  simpa[Ag]using ha
 | c::cs,xs,as,h,ha=>by
  obtain⟨y,ys,rfl,h1,h2⟩:=h.cons_inv
  match c,h1,ha with
  | .v x,h1,ha =>
   simp only[xqm,qIO,Ag,xqb]at ha
   obtain⟨bs,hb,rfl⟩:=ha
   rw[qCh h2 hb,h1.v_inv]
theorem qCi {a:AV} {x:Value} {as:List Value} (h:AR w X μ st.sh a x) (ha:qBL a=some as):x=.agg as.toArray:=by
 match a,h,ha with
 | .ag cs,h,ha =>
  obtain⟨xs,rfl,_,hr⟩:=h.ag_inv
  rw[qCg hr ha]
 | .t (.agg ts),h,ha =>
  obtain⟨xs,rfl,_,hr⟩:=h.t_inv.agg_inv
  rw[qCh hr ha]
theorem qAI {d:Nat} {t:TypeId} {ks:List (Option IntKind)} (hw:(match P.underlying t with|some (.array _ _)|some (.struct _)=>true|_=>false)=true) (hl:q3w P (d+1) t ks=true):ks.length=P.cellsOf t:=by
 simp only[q3w]at hl
 split at hw
 ·rename_i hu
  simp only[hu,xqc,xz0]at hl
  exact hl.1.1
 ·rename_i hu
  simp only[hu,xqc,xz0]at hl
  exact hl.1.1.1
 ·cases hw
theorem qKq {t u:TypeId} {pos:Bool} {ks:List (Option IntKind)} {x y:Operand} {a b:AV} {as bs:List Value} (h:Sim w0 B κ X μ st tm w) (hg:Gl Γ w X) (ho:o.op=.binOp (if pos then .eql else .neq) t x y u)
  (hw:(match P.underlying t with|some (.array _ _)|some (.struct _)=>true|_=>false)=true) (hk:P.keyTypeAt 20 t=true) (hl:q3w P 20 t ks=true) (hq:P.eqGuardType P.depth t=false) (kx:Ai x=true) (ky:Ai y=true)
  (hx:ev Γ st.env x=some a) (hy:ev Γ st.env y=some b) (ha:qBL a=some as) (hb:qBL b=some bs) (oa:q19 ks as) (ob:q19 ks bs):Ao P w0 B κ X o (.t (.v (.bool (if pos then q2S as bs else !q2S as bs)))) st tm w ds:=by
 have h1:=qCi (Az (ds:=ds) h hg hx kx) ha
 have h2:=qCi (Az (ds:=ds) h hg hy ky) hb
 have hcell:ks.length=P.cellsOf t:=qAI (d:=19) hw hl
 have fm:∀ {vs:List Value},q19 ks vs->(Value.agg vs.toArray).formed P t=true:=by
  intro vs hv
  have:=q41 hv
  split at hw
  ·rename_i hu;simp[Value.formed,hu];omega
  ·rename_i hu;simp[Value.formed,hu];omega
  ·cases hw
 obtain⟨r,hr,hiff⟩:=run_equalIn_deep 9980 20 t hk w 20 20 (.agg as.toArray) (.agg bs.toArray) _ _ (fm oa) (fm ob) (by simpa[Value.cells]using q06 20 t ks hl as oa) (by simpa[Value.cells]using q06 20 t ks hl bs ob)
 rw[<- qAH oa ob]at hiff
 have hre:r=q2S as bs:=by
  cases r<;>cases he:q2S as bs<;>simp_all
 subst hre
 have hr':(Op.equal t (.agg as.toArray) (.agg bs.toArray)).run P w=.ok (q2S as bs) w:=hr
 clear hr hiff
 refine Ao.same h (v:=.bool (if pos then q2S as bs else !q2S as bs)) ?_ (.t _ _ (.v _))
 generalize q2S as bs=r at *
 generalize as.toArray=A at *
 generalize bs.toArray=B2 at *
 have hG:∀ op,(eqGuard op t x y (.agg A) (.agg B2)).run P w=.ok () w:=by
  intro op
  cases op<;>simp[eqGuard,hq]
 cases pos
 ·simp only[execOp,ho,h1,h2,xqn,↓reduceIte,Sem.run_bind,hG,Result.andThen_ok,binOp,hr',Sem.run_pure]
 ·simp only[execOp,ho,h1,h2,↓reduceIte,Sem.run_bind,hG,Result.andThen_ok,binOp,hr',Sem.run_pure]
end
end Go.Lg
namespace Go.Lg
open Go
section
variable {P:Program} {Γ:Tables} {w0:World} {B:Nat} {κ:D7} {X:Nat->Prop} {μ:D7} {st:St} {tm:Array Value} {w:World} {ds:List Deferred} {o:Oper}
def Vl (w:World) (X:Nat->Prop) (μ:D7) (sh:Nat->Option Sh) (es:List (Value×AV)) (ms:List MapEntry):Prop:=es.length=ms.length/\∀ (i:Nat) (e:Value×AV) (m:MapEntry),es[i]? = some e->ms[i]? = some m->m.key=e.1/\AR w X μ sh e.2 m.val
theorem Vl.cons_inv {sh:Nat->Option Sh} {e:Value×AV} {es:List (Value×AV)} {ms:List MapEntry} (h:Vl w X μ sh (e::es) ms):∃ m ns,ms=m::ns/\m.key=e.1/\AR w X μ sh e.2 m.val/\Vl w X μ sh es ns:=by
 cases ms with
 | nil=>exact absurd h.1 (by simp)
 | cons m ns=>exact⟨m,ns,rfl,(h.2 0 e m rfl rfl).1,(h.2 0 e m rfl rfl).2,by have:=h.1;simpa using this,fun i e' m' h1 h2=>h.2 (i+1) e' m' (by simpa using h1) (by simpa using h2)⟩
theorem Vl.cons {sh:Nat->Option Sh} {e:Value×AV} {m:MapEntry} {es:List (Value×AV)} {ms:List MapEntry} (hk:m.key=e.1) (hv:AR w X μ sh e.2 m.val) (h:Vl w X μ sh es ms):Vl w X μ sh (e::es) (m::ms) :=
 ⟨by simp[h.1],fun i e' m' h1 h2=>by
  cases i with
  | zero=>simp at h1 h2;subst h1;subst h2;exact⟨hk,hv⟩
  | succ i=>simp at h1 h2;exact h.2 i e' m' h1 h2⟩
theorem Vl.nil_inv {sh:Nat->Option Sh} {ms:List MapEntry} (h:Vl w X μ sh [] ms):ms=[]:=xqo h.1.symm
theorem q07 {sh:Nat->Option Sh} {kt:KT} {d:TypeDesc} (hs:∀ a b:Value,kt.fits a=true->kt.fits b=true->Instr.sameNow d a b=some (Ku a b)) {k:Value} (hk:kt.fits k=true):∀ {es:List (Value×AV)} {ms:List MapEntry} (i:Nat),Vl w X μ sh es ms->Ja kt es->Ph k es=none->Instr.findNow d k ms i=some none
 | [],ms,i,h,hf,hn=>by rw[h.nil_inv];rfl
 | e::es,ms,i,h,hf,hn=>by
  obtain⟨m,ns,rfl,hmk,hv,h'⟩:=h.cons_inv
  have hs':=hs k e.1 hk (hf e (by simp))
  obtain⟨q,x⟩:=e
  simp only[Ph]at hn
  split at hn
  ·cases hn
  ·rename_i hne
   simp only[Instr.findNow,hmk,hs',xzm]at hne ⊢
   rw[hne]
   exact q07 hs hk (i+1) h' (fun e he=>hf e (by simp[he])) hn
theorem q08 {sh:Nat->Option Sh} {kt:KT} {d:TypeDesc} (hs:∀ a b:Value,kt.fits a=true->kt.fits b=true->Instr.sameNow d a b=some (Ku a b)) {k:Value} (hk:kt.fits k=true):∀ {es:List (Value×AV)} {ms:List MapEntry} (i:Nat) {x:AV},Vl w X μ sh es ms->Ja kt es->Ph k es=some x ->
  ∃ (j:Nat) (m:MapEntry),Instr.findNow d k ms i=some (some (i+j,m.val))/\ms[j]? = some m/\AR w X μ sh x m.val/\Ku k m.key=true/\kt.fits m.key=true/\(∀ (y:AV) (v:Value),AR w X μ sh y v->Vl w X μ sh (q3F k y es) (ms.modify j fun e=>{ e with key:=k,val:=v }))/\Vl w X μ sh (q3v k es) (ms.eraseIdx j)
 | [],ms,i,x,h,hf,hn=>by cases hn
 | e::es,ms,i,x,h,hf,hn=>by
  obtain⟨m,ns,rfl,hmk,hv,h'⟩:=h.cons_inv
  have hfe:=hf e (by simp)
  have hs':=hs k e.1 hk hfe
  obtain⟨q,z⟩:=e
  simp only[Ph]at hn
  split at hn
  ·rename_i heq
   simp only[xqa]at hn;subst hn
   refine⟨0,m,by simp[Instr.findNow,hmk,hs',heq],rfl,hv,by rw[hmk];exact heq,by rw[hmk];exact hfe,fun y v hy=>?_,?_⟩
   ·simp only[q3F,heq,↓reduceIte,List.modify_zero_cons]
    exact Vl.cons rfl hy h'
   ·simp only[q3v,heq,↓reduceIte,List.eraseIdx_zero,List.tail_cons]
    exact h'
  ·rename_i hne
   obtain⟨j,m2,h1,h2,h3,h4,h5,h6,h7⟩:=q08 hs hk (i+1) h' (fun e he=>hf e (by simp[he])) hn
   refine⟨j+1,m2,?_,by simpa using h2,h3,h4,h5,fun y v hy=>?_,?_⟩
   ·simp only[xzm]at hne
    simp only[Instr.findNow,hmk,hs',hne,h1]
    rw[show i+1+j=i+(j+1)by omega]
   ·simp only[q3F,hne,↓reduceIte,List.modify_succ_cons]
    exact Vl.cons hmk hv (h6 y v hy)
   ·simp only[q3v,hne,↓reduceIte,List.eraseIdx_cons_succ]
    exact Vl.cons hmk hv h7
theorem q8f {sh:Nat->Option Sh} {kt:KT} {k:Value}:∀ {es:List (Value×AV)} {ms:List MapEntry} {y:AV} {v:Value} {c:Nat},Vl w X μ sh es ms->Ph k es=none->AR w X μ sh y v->Vl w X μ sh (q3F k y es) (ms++[{ key:=k,val:=v,born:=c }])
 | [],ms,y,v,c,h,hn,hy=>by rw[h.nil_inv];exact Vl.cons rfl hy ⟨rfl,fun i e m h1 _=>by simp at h1⟩
 | e::es,ms,y,v,c,h,hn,hy=>by
  obtain⟨m,ns,rfl,hmk,hv,h'⟩:=h.cons_inv
  obtain⟨q,z⟩:=e
  simp only[Ph]at hn
  split at hn
  ·cases hn
  ·rename_i hne
   simp only[q3F,hne,↓reduceIte,List.cons_append]
   exact Vl.cons hmk hv (q8f (kt:=kt) h' hn hy)
theorem q8g {k:Value}:∀ {es:List (Value×AV)},Ph k es=none->q3v k es=es
 | [],_=>rfl
 | (q,z)::es,hn=>by
  simp only[Ph]at hn
  split at hn
  ·cases hn
  ·rename_i hne
   simp only[q3v,hne,xqn,if_false,q8g hn]
theorem q4o.modify {ms:List MapEntry} {c j:Nat} {f:MapEntry->MapEntry} (hf:∀ e,(f e).born=e.born) (h:q4o ms c):q4o (ms.modify j f) c:=by
 have e:(ms.modify j f).map (·.born)=ms.map (·.born):=by
  apply List.ext_getElem?
  intro i
  simp only[xqr,List.getElem?_modify]
  cases ms[i]? with
  | none=>rfl
  | some m=>by_cases hj:j=i<;>simp[hj,hf]
 refine⟨fun m hm=>?_,by rw[e];exact h.2⟩
 have:m.born∈(ms.modify j f).map (·.born):=xzk hm
 rw[e]at this
 obtain⟨q,hq,he⟩:=xqy.1 this
 rw[<- he];exact h.1 q hq
theorem q4o.push {ms:List MapEntry} {c:Nat} {k v:Value} (h:q4o ms c):q4o (ms++[{ key:=k,val:=v,born:=c }]) (c+1):=by
 refine⟨fun m hm=>?_,?_⟩
 ·rcases xzg.1 hm with hm|hm
  ·have:=h.1 m hm;omega
  ·simp at hm;subst hm;show c<c+1;omega
 ·rw[List.map_append,List.nodup_append]
  refine⟨h.2,by simp,fun a ha b hb=>?_⟩
  simp at hb;subst hb
  obtain⟨q,hq,rfl⟩:=xqy.1 ha
  have:=h.1 q hq
  omega
theorem q4o.erase {ms:List MapEntry} {c j:Nat} (h:q4o ms c):q4o (ms.eraseIdx j) c :=
 ⟨fun m hm=>h.1 m (List.mem_of_mem_eraseIdx hm),((List.eraseIdx_sublist _ _).map _).nodup h.2⟩
theorem qGm {kt:KT} {t q e:TypeId} {zv kv:Value} {m k:Operand} {id:Nat} {es:List (Value×AV)} (h:Sim w0 B κ X μ st tm w) (hg:Gl Γ w X) (ho:o.op=.lookup t m k false) (km:Ai m=true) (kk:Ai k=true)
  (hm:q1A P t=some (q,e)) (hk:ktB P kt q=true) (hz:(P.info? e).bind (·.zero)=some zv) (hzv:Vk zv=true) (hkv:ev Γ st.env k=some (.t (.v kv))) (hma:ev Γ st.env m=some (.lm id)) (hl:A0 st.hp id=some (.mr es)) (hf:kt.fits kv=true) (hfs:Ja kt es) :
  Ao P w0 B κ X o ((Ph kv es).getD (Vj zv)) st tm w ds:=by
 have hkv':=(Az (ds:=ds) h hg hkv kk).t_inv.v_inv
 obtain⟨g,n,hs,hmu,he⟩:=(Az (ds:=ds) h hg hma km).lm_inv
 obtain⟨g',n',clock,ms,hm',hh,hbo,hlen,hr⟩:=h.reg _ _ hl
 rw[hmu]at hm';cases hm'
 have hens:Vl w X μ st.sh es ms:=⟨hlen,hr⟩
 obtain⟨d,hu,hsn⟩:=q1G hk
 have hzero:(zeroValue e).run P w=.ok zv w:=by
  rw[xqk]at hz
  obtain⟨i,hi,hz⟩:=hz
  simp[zeroValue,typeInfo,hi,hz]
 have hck:(Instr.checkKey ms.toArray.isEmpty 10000 q kv).run P w=.ok () w:=Pj hk hf _ 9999 w
 have key:∃ v,(Instr.lookup t (.map (some g)) kv false).run P w=.ok v w/\AR w X μ st.sh ((Ph kv es).getD (Vj zv)) v:=by
  cases hfm:Ph kv es with
  | none =>
   have h1:=q07 hsn hf 0 hens hfs hfm
   refine⟨zv,?_,q6g _ hzv⟩
   have hfk:(Instr.findKey q kv ms).run P w=.ok none w:=by simp[Instr.findKey,run_underlying hu,h1]
   simp at hck
   simp[Instr.lookup,run_underlying (F7 hm),getObj,Sem.run,hh,hck,hfk,hzero]
  | some z =>
   obtain⟨j,m2,h1,h2,h3,_⟩:=q08 hsn hf 0 hens hfs hfm
   refine⟨m2.val,?_,h3⟩
   have hfk:(Instr.findKey q kv ms).run P w=.ok (some (0+j,m2.val)) w:=by simp[Instr.findKey,run_underlying hu,h1]
   simp at hck
   simp[Instr.lookup,run_underlying (F7 hm),getObj,Sem.run,hh,hck,hfk]
 obtain⟨v,hrun,hv⟩:=key
 refine Ao.same h (v:=v) ?_ hv
 simp only[execOp,ho,hkv',he,Sem.run_bind,hrun];rfl
theorem qIc {kt:KT} {t q e:TypeId} {kv:Value} {m k x:Operand} {id:Nat} {es:List (Value×AV)} {a:AV} (h:Sim w0 B κ X μ st tm w) (hg:Gl Γ w X) (ho:o.op=.mapUpdate t m k x) (km:Ai m=true) (kk:Ai k=true) (kx:Ai x=true)
  (hm:q1A P t=some (q,e)) (hk:ktB P kt q=true) (hkv:ev Γ st.env k=some (.t (.v kv))) (hma:ev Γ st.env m=some (.lm id)) (hl:A0 st.hp id=some (.mr es)) (hx:ev Γ st.env x=some a) (hf:kt.fits kv=true) (hfs:Ja kt es) :
  Ao P w0 B κ X o .un ⟨st.env,Dn id (.mr (q3F kv a es)) st.hp⟩ tm w ds:=by
 have hkv':=(Az (ds:=ds) h hg hkv kk).t_inv.v_inv
 have hty:=Az (ds:=ds) h hg hx kx
 obtain⟨g,n,hs,hmu,he⟩:=(Az (ds:=ds) h hg hma km).lm_inv
 obtain⟨g',n',clock,ms,hm',hh,hbo,hlen,hr⟩:=h.reg _ _ hl
 rw[hmu]at hm';cases hm'
 have hens:Vl w X μ st.sh es ms:=⟨hlen,hr⟩
 obtain⟨d,hu,hsn⟩:=q1G hk
 have hck:(Instr.checkKey false 10000 q kv).run P w=.ok () w:=Pj hk hf _ 9999 w
 have key:∃ (ms':List MapEntry) (c':Nat),(Instr.mapUpdate t (.map (some g)) kv (Act.eval ⟨tm,ds⟩ x)).run P w=.ok () { w with heap:=w.heap.setIfInBounds g (.map ms'.toArray c') }/\q4o ms' c'/\Vl w X μ st.sh (q3F kv a es) ms':=by
  cases hfm:Ph kv es with
  | none =>
   have h1:=q07 hsn hf 0 hens hfs hfm
   refine⟨ms++[{ key:=kv,val:=Act.eval ⟨tm,ds⟩ x,born:=clock }],clock+1,?_,hbo.push,q8f (kt:=kt) hens hfm hty⟩
   have hfk:(Instr.findKey q kv ms).run P w=.ok none w:=by simp[Instr.findKey,run_underlying hu,h1]
   simp[Instr.mapUpdate,run_underlying (F7 hm),getObj,setObj,Sem.run,hh,hck,hfk]
  | some z =>
   obtain⟨j,m2,h1,h2,h3,h4,h5,h6,_⟩:=q08 hsn hf 0 hens hfs hfm
   refine⟨ms.modify j fun e=>{ e with key:=kv,val:=Act.eval ⟨tm,ds⟩ x },clock,?_,hbo.modify (fun _=>rfl),h6 a _ hty⟩
   have hfk:(Instr.findKey q kv ms).run P w=.ok (some (0+j,m2.val)) w:=by simp[Instr.findKey,run_underlying hu,h1]
   have hsb:∀ n,Instr.sameBits n m2.key kv=true:=by
    intro n
    cases kt with
    | int k0 =>
     cases kv<;>simp[KT.fits]at hf
     generalize hmk:m2.key=K at h4 h5
     cases K<;>simp[KT.fits]at h5
     subst hf;subst h5
     simp only[Ku,xz0]at h4
     cases n<;>simp[Instr.sameBits,h4]
    | str =>
     cases kv<;>simp[KT.fits]at hf
     generalize hmk:m2.key=K at h4 h5
     cases K<;>simp[KT.fits]at h5
     simp only[Ku,q4y]at h4
     subst h4
     cases n<;>simp[Instr.sameBits,q4y]
    | bl =>
     cases kv<;>simp[KT.fits]at hf
     generalize hmk:m2.key=K at h4 h5
     cases K<;>simp[KT.fits]at h5
     simp only[Ku,xz0]at h4
     cases n<;>simp[Instr.sameBits,h4]
   have hstay:(Instr.keyThatStays m2.key kv).run P w=.ok kv w:=by simp only[Instr.keyThatStays,hsb,↓reduceIte,Sem.run_pure]
   have hms:(ms.toArray[0+j]?).map (·.key)=some m2.key:=by simp[h2]
   simp[Instr.mapUpdate,run_underlying (F7 hm),getObj,setObj,Sem.run,hh,hck,hfk,h2,hstay]
 obtain⟨ms',c',hrun,hbo',hens'⟩:=key
 have hglt:g<w.heap.size:=(Array.getElem?_eq_some_iff.1 hh).1
 obtain⟨hsim,hs'⟩:=h.setReg hl (r':=.mr (q3F kv a es)) rfl hmu (w':={ w with heap:=w.heap.setIfInBounds g (.map ms'.toArray c') }) rfl rfl rfl (by simp) (fun j hj=>by simp[Array.getElem?_setIfInBounds,Ne.symm hj])
  (fun hs'=>⟨g,n,c',ms',hmu,by simp[hglt],hbo',hens'.1,fun i e m h1 h2=>⟨(hens'.2 i e m h1 h2).1,(hens'.2 i e m h1 h2).2.mono hs' (fun _ hx=>hx) (fun _ _ hq=>⟨hq,rfl⟩)⟩⟩)
 exact⟨.skip,undef,_,μ,X,by simp only[execOp,ho,hkv',he,Sem.run_bind,hrun];rfl,.inr ⟨rfl,rfl⟩,hsim,.un,fun _ hx=>hx,hs',fun _ hx=>.inl hx⟩
theorem qId {kt:KT} {t t2 q e:TypeId} {kv:Value} {m k:Operand} {id:Nat} {es:List (Value×AV)} (h:Sim w0 B κ X μ st tm w) (hg:Gl Γ w X) (ho:o.op=.call { callee:=.builtin .delete,args:=#[m,k],argTypes:=#[t,t2] }) (km:Ai m=true) (kk:Ai k=true)
  (hm:q1A P t=some (q,e)) (hk:ktB P kt q=true) (hkv:ev Γ st.env k=some (.t (.v kv))) (hma:ev Γ st.env m=some (.lm id)) (hl:A0 st.hp id=some (.mr es)) (hf:kt.fits kv=true) (hfs:Ja kt es) :
  Ao P w0 B κ X o (.t (.tup [])) ⟨st.env,Dn id (.mr (q3v kv es)) st.hp⟩ tm w ds:=by
 have hkv':=(Az (ds:=ds) h hg hkv kk).t_inv.v_inv
 obtain⟨g,n,hs,hmu,he⟩:=(Az (ds:=ds) h hg hma km).lm_inv
 obtain⟨g',n',clock,ms,hm',hh,hbo,hlen,hr⟩:=h.reg _ _ hl
 rw[hmu]at hm';cases hm'
 have hens:Vl w X μ st.sh es ms:=⟨hlen,hr⟩
 obtain⟨d,hu,hsn⟩:=q1G hk
 have hck:∀ b,(Instr.checkKey b 10000 q kv).run P w=.ok () w:=fun b=>Pj hk hf b 9999 w
 have key:∃ (ms':List MapEntry) (c':Nat),(Builtin.delete_ #[t,t2] o.type #[.map (some g),kv]).run P w=.ok (.tuple #[]) { w with heap:=w.heap.setIfInBounds g (.map ms'.toArray c') }/\q4o ms' c'/\Vl w X μ st.sh (q3v kv es) ms':=by
  cases hfm:Ph kv es with
  | none =>
   have h1:=q07 hsn hf 0 hens hfs hfm
   refine⟨ms,clock,?_,hbo,by rw[q8g hfm];exact hens⟩
   have hfk:(Instr.findKey q kv ms).run P w=.ok none w:=by simp[Instr.findKey,run_underlying hu,h1]
   simp[Builtin.delete_,run_underlying (F7 hm),getObj,setObj,Sem.run,hh,hck,hfk]
  | some z =>
   obtain⟨j,m2,h1,h2,h3,h4,h5,_,h6⟩:=q08 hsn hf 0 hens hfs hfm
   refine⟨ms.eraseIdx j,clock,?_,hbo.erase,h6⟩
   have hfk:(Instr.findKey q kv ms).run P w=.ok (some (0+j,m2.val)) w:=by simp[Instr.findKey,run_underlying hu,h1]
   have hej:(ms.toArray.eraseIdxIfInBounds j)=(ms.eraseIdx j).toArray:=by simp
   simp[Builtin.delete_,run_underlying (F7 hm),getObj,setObj,Sem.run,hh,hck,hfk,hej]
 obtain⟨ms',c',hrun,hbo',hens'⟩:=key
 have hglt:g<w.heap.size:=(Array.getElem?_eq_some_iff.1 hh).1
 obtain⟨hsim,hs'⟩:=h.setReg hl (r':=.mr (q3v kv es)) rfl hmu (w':={ w with heap:=w.heap.setIfInBounds g (.map ms'.toArray c') }) rfl rfl rfl (by simp) (fun j hj=>by simp[Array.getElem?_setIfInBounds,Ne.symm hj])
  (fun hs'=>⟨g,n,c',ms',hmu,by simp[hglt],hbo',hens'.1,fun i e m h1 h2=>⟨(hens'.2 i e m h1 h2).1,(hens'.2 i e m h1 h2).2.mono hs' (fun _ hx=>hx) (fun _ _ hq=>⟨hq,rfl⟩)⟩⟩)
 refine⟨_,.tuple #[],_,μ,X,?_,.inl rfl,hsim,.t _ _ (TR.mk_tup (Fp.nil _ _)),fun _ hx=>hx,hs',fun _ hx=>.inl hx⟩
 simp[execOp,ho,resolve,invoke,builtin,he,hkv',hrun]
theorem q8E (d:Nat) {t e:TypeId} {a b:Value} (hu:P.underlying t=some (.pointer e)) (y:Option Addr) (h:(a=.pointer y/\b=.pointer none)\/(b=.pointer y/\a=.pointer none)) (w:World):(Op.equalIn (d+1) t a b).run P w=.ok y.isNone w:=by
 rcases h with⟨rfl,rfl⟩|⟨rfl,rfl⟩
 ·cases y<;>simp[Op.equalIn,run_underlying hu]
 ·simp[Op.equalIn,run_underlying hu]
theorem qAJ {t e:TypeId} {a b:Value} (hu:P.underlying t=some (.pointer e)) (y:Option Addr) (h:(a=.pointer y/\b=.pointer none)\/(b=.pointer y/\a=.pointer none)) (w:World):(Op.equal t a b).run P w=.ok y.isNone w :=
 q8E 9999 hu y h w
theorem q6t {t e u:TypeId} {pos:Bool} {x p q:Operand} {a:AV} {r:Bool} (h:Sim w0 B κ X μ st tm w) (hg:Gl Γ w X) (ho:o.op=.binOp (if pos then .eql else .neq) t p q u) (hpq:(p=x/\q=.const (.pointer none))\/(q=x/\p=.const (.pointer none)))
  (kx:Ai x=true) (hu:P.underlying t=some (.pointer e)) (hx:ev Γ st.env x=some a) (hr:((∃ i j k,a=.lp i j k)/\r=!pos)\/((∃ cs k,a=.t (.ip cs k))/\r=!pos)\/(a=.t (.v (.pointer none))/\r=pos)):Ao P w0 B κ X o (.t (.v (.bool r))) st tm w ds:=by
 refine Ao.same h (v:=.bool r) ?_ (.t _ _ (.v _))
 have har:=Az (ds:=ds) h hg hx kx
 obtain⟨ad,he,hr2⟩:∃ ad:Option Addr,Act.eval ⟨tm,ds⟩ x=.pointer ad/\r=(ad.isNone==pos):=by
  rcases hr with⟨⟨i,j,k,rfl⟩,rfl⟩|⟨⟨cs,k,rfl⟩,rfl⟩|⟨rfl,rfl⟩
  ·obtain⟨gb,m,hm,hp⟩:=har.lp_inv
   rcases hp with⟨s,q,hs,he⟩|⟨hs,_,he⟩
   ·exact⟨_,he,by cases pos<;>rfl⟩
   ·exact⟨_,he,by cases pos<;>rfl⟩
  ·have ht:=har.t_inv
   generalize Act.eval ⟨tm,ds⟩ x=vv at ht
   cases ht with
   | ip cs k b off f=>exact⟨_,rfl,by cases pos<;>rfl⟩
  ·exact⟨none,har.t_inv.v_inv,by cases r<;>rfl⟩
 have hrun:∀ A C:Value,((A=.pointer ad/\C=.pointer none)\/(C=.pointer ad/\A=.pointer none))->(do eqGuard (if pos then .eql else .neq) t p q A C;binOp (if pos then .eql else .neq) t A C:Sem Value).run P w=.ok (.bool r) w:=by
  intro A C hAC
  have:=qAJ (P:=P) hu ad hAC w
  rcases hAC with⟨rfl,rfl⟩|⟨rfl,rfl⟩<;>cases pos<;>simp[eqGuard,binOp,this,hr2]
 rcases hpq with⟨rfl,rfl⟩|⟨rfl,rfl⟩
 ·have:=hrun _ (.pointer none) (.inl ⟨he,rfl⟩)
  simp only[execOp,ho,Act.eval]at this he ⊢
  rw[he]at this ⊢
  simp only[Sem.run_bind]at this ⊢
  rw[this];rfl
 ·have:=hrun (.pointer none) _ (.inr ⟨he,rfl⟩)
  simp only[execOp,ho,Act.eval]at this he ⊢
  rw[he]at this ⊢
  simp only[Sem.run_bind]at this ⊢
  rw[this];rfl
end
end Go.Lg
namespace Go.Lg
open Go
section
variable {P:Program} {Γ:Tables} {w0:World} {B:Nat} {κ:D7} {X:Nat->Prop} {μ:D7} {st:St} {tm:Array Value} {w:World} {ds:List Deferred} {o:Oper}
theorem F6 {α:Type} [DecidableEq α] {a:Option α} {b:α} (h:(a==some b)=true):a=some b:=by simpa using h
theorem Pl {c:Call} {b:Builtin} {ys:List Operand} {ts:List TypeId} (h1:c.callee=.builtin b) (h2:c.args.toList=ys) (h3:c.argTypes.toList=ts):c={ callee:=.builtin b,args:=ys.toArray,argTypes:=ts.toArray }:=by
 cases c with
 | mk cc ca ct=>simp at h1 h2 h3;subst h1;subst h2;subst h3;simp
theorem qDv {k:Nat} {x:Operand} {c:Prop} {r:AV} {st1:St} {d:Nat} (h:Sim w0 B κ X μ st tm w) (hg:Gl Γ w X) (hchk:Nc P (.len k x) o.op=true) (hk:Ai x=true) (hs:Ak Γ d (.len k x) st=some (c,r,st1)) (hc:c):Ao P w0 B κ X o r st1 tm w ds:=by
 generalize hop:o.op=op at hchk
 simp only[Nc]at hchk
 split at hchk
 case h_2=>cases hchk
 split at hchk
 case h_2=>cases hchk
 rename_i cc _ _ _ y t e1 e2 e3
 simp only[xqc]at hchk
 have:=Af hchk.1;subst this
 have he:=Pl e1 e2 e3
 subst he
 simp only[Ak,xqk]at hs
 obtain⟨a,ha,hs⟩:=hs
 split at hs
 case isFalse=>cases hs
 rename_i hlk
 simp only[xqb,xqd]at hs
 obtain⟨n,hn,_,rfl,rfl⟩:=hs
 refine qKd h hg hop hk ha ?_ hn
 have h2:=hchk.2
 unfold qGe at hlk
 split at hlk
 ·simp only[Option.isSome_iff_exists]at h2
  obtain⟨e,he⟩:=h2
  rw[Ci he];rfl
 ·simp only[Option.isSome_iff_exists]at h2
  obtain⟨e,he⟩:=h2
  rw[Ci he];rfl
 ·simp only[Option.isSome_iff_exists]at h2
  obtain⟨e,he⟩:=h2
  rw[Ci he];rfl
 ·rw[W4 h2];rfl
 ·simp only[Option.isSome_iff_exists]at h2
  obtain⟨e,he⟩:=h2
  rw[F7 (k:=e.1) (e:=e.2) he];rfl
 ·simp only[Option.isSome_iff_exists]at h2
  obtain⟨e,he⟩:=h2
  rw[F7 (k:=e.1) (e:=e.2) he];rfl
 ·cases hlk
set_option maxHeartbeats 1000000 in
/-- The operation without the demand that what it reads leads to a variable. -/
def q3M:Bt->Option Bt
 | .mvP x=>some (.mv x)
 | .nckP x=>some (.nck x)
 | .fadP off x=>some (.fadr off x)
 | .ldP n x=>some (.load n false x)
 | _=>none
theorem qEq {io io':Bt} {d:Nat} {c:Prop} {r:AV} {st1:St} (hb:q3M io=some io') (hs:Ak Γ d io st=some (c,r,st1)) (hc:c):∃ c',Ak Γ d io' st=some (c',r,st1)/\c':=by
 unfold q3M at hb
 split at hb<;>simp only[xqa,reduceCtorEq]at hb<;>subst hb
 ·rename_i x
  simp only[Ak,xqk,xqb,xqd]at hs ⊢
  obtain⟨a,ha,hs⟩:=hs
  split at hs
  ·simp only[xqa,xqd]at hs
   obtain⟨rfl,rfl,rfl⟩:=hs
   exact⟨True,⟨a,ha,rfl,rfl,rfl⟩,trivial⟩
  ·cases hs
 ·simp only[Ak]at hs ⊢
  split at hs
  ·rename_i ha
   split at hs
   ·simp only[xqa,xqd]at hs
    obtain⟨rfl,rfl,rfl⟩:=hs
    exact⟨True,by rw[ha],trivial⟩
   ·cases hs
  ·cases hs
 ·simp only[Ak]at hs ⊢
  split at hs
  ·rename_i ha
   split at hs
   ·simp only[xqa,xqd]at hs
    obtain⟨rfl,rfl,rfl⟩:=hs
    exact⟨True,by rw[ha],trivial⟩
   ·cases hs
  ·cases hs
 ·simp only[Ak]at hs ⊢
  split at hs
  ·rename_i ha
   split at hs
   ·rename_i cs hl
    split at hs
    ·simp only[xqa,xqd]at hs
     obtain⟨rfl,rfl,rfl⟩:=hs
     exact⟨_,by rw[ha];simp only[hl];rfl,hc⟩
    ·cases hs
   ·cases hs
  ·cases hs
theorem Rj {io:Bt} {d:Nat} {c:Prop} {r:AV} {st1:St} (hnt:∀ ty s b x,io ≠ .appT ty s b x) (hns:∀ id n a x,io ≠ .stR id n a x) (hnl:∀ id n g a,io ≠ .ldR id n g a) (hn4:∀ n g a,io ≠ .ldT n g a) (hn5:∀ kt zv ok m k,io ≠ .lkT kt zv ok m k) (hn6:q3M io=none) (h:Sim w0 B κ X μ st tm w) (hg:Gl Γ w X) (hchk:Nc P io o.op=true) (hok:io.opds.all Ai=true) (hd:d<1000000) (hs:Ak Γ d io st=some (c,r,st1)) (hc:c):Ao P w0 B κ X o r st1 tm w ds:=by
 cases io with
 | mv x =>
  have hk:Ai x=true:=by simpa[Bt.opds]using hok
  generalize hop:o.op=op at hchk
  simp only[Ak,xqb,xqd]at hs
  obtain⟨a,ha,_,rfl,rfl⟩:=hs
  simp only[Nc]at hchk
  split at hchk
  ·have:=Af hchk;subst this
   exact qKa h hg (.inl hop) ha hk
  ·have:=Af hchk;subst this
   exact qKa h hg (.inr hop) ha hk
  ·cases hchk
 | pick c1 a b =>
  generalize hop:o.op=op at hchk
  simp only[Nc]at hchk
  split at hchk
  case h_2=>cases hchk
  simp only[xqc]at hchk
  obtain⟨⟨h1,h2⟩,h3⟩:=hchk
  have:=Af h1;subst this
  have:=Af h2;subst this
  have:=Af h3;subst this
  simp only[Bt.opds,List.all_cons,xqc]at hok
  simp only[Ak]at hs
  split at hs
  ·rename_i p va vb e1 e2 e3
   simp only[xqa,xqd]at hs
   obtain⟨_,rfl,rfl⟩:=hs
   exact qIS h hg hop e1 e2 e3 hok.1 hok.2.1 hok.2.2.1
  ·cases hs
 | alloc fz zs =>
  generalize hop:o.op=op at hchk
  simp only[Nc]at hchk
  split at hchk
  case h_2=>cases hchk
  simp only[xqc]at hchk
  obtain⟨h1,h2⟩:=hchk
  rename_i t
  have hz:E9 P t=some zs:=by
   split at h1
   ·rename_i z hz;rw[hz,Rb h1]
   ·cases h1
  simp only[Ak]at hs
  split at hs<;>simp only[xqa,xqd]at hs<;>obtain⟨rfl,rfl,rfl⟩:=hs
  ·exact qBQ h hop hz h2
  ·exact qGh h hop hz h2 hc hd
 | box fz x =>
  have hk:Ai x=true:=by simpa[Bt.opds]using hok
  generalize hop:o.op=op at hchk
  simp only[Nc]at hchk
  split at hchk
  case h_2=>cases hchk
  have:=Af hchk;subst this
  simp only[Ak,xqk]at hs
  obtain⟨a,ha,hs⟩:=hs
  split at hs
  ·simp only[xqb,xqd]at hs
   obtain⟨ts,hts,rfl,rfl,rfl⟩:=hs
   exact qEi h hg hop hk ha hts hc
  ·simp only[xqa,xqd]at hs
   obtain⟨rfl,rfl,rfl⟩:=hs
   exact qKi h hg hop hk ha hc.2 hc.1 hd
 | build qs =>
  generalize hop:o.op=op at hchk
  simp only[Nc]at hchk
  split at hchk
  case h_2=>cases hchk
  split at hchk
  ·rename_i fs zs hf hz
   simp only[Ak,xqb,xqd]at hs
   obtain⟨as,ha,rfl,rfl,rfl⟩:=hs
   exact qGi h hg hop hok hf hz hchk ha hc.1 hc.2
  ·rename_i zs hf hz
   simp only[Ak,xqb,xqd]at hs
   obtain⟨as,ha,rfl,rfl,rfl⟩:=hs
   simp only[xqc]at hchk
   exact qA9 h hg hop hok hchk.1.1 hchk.1.2 hz hchk.2 ha hc.1 hc.2
  ·cases hchk
 | bsl fz ty s xs =>
  generalize hop:o.op=op at hchk
  simp only[Nc]at hchk
  split at hchk
  case h_2=>cases hchk
  rename_i t n ps
  simp only[xqc,xqu]at hchk
  obtain⟨⟨⟨⟨⟨⟨⟨h1,h2⟩,h3⟩,h4⟩,h5⟩,h6⟩,h7⟩,h8⟩:=hchk
  have h4:n=xs.length:=by simpa using h4
  obtain⟨zs,hz,hzl⟩:∃ zs,E9 P ty=some zs/\zs.length=s:=by
   split at h8
   ·rename_i z hz;exact⟨z,hz,by simpa using h8⟩
   ·cases h8
  simp only[Ak,xqk,xqb]at hs
  obtain⟨as,ha,es,hes,hs⟩:=hs
  split at hs<;>simp only[xqd]at hs<;>obtain⟨rfl,rfl,rfl⟩:=hs
  ·exact qEj h hg hop hok (F6 h1) (F6 h2) h4 h5 hz hzl h3 h7 ha hes hc
  ·exact qKj h hg hop hok (F6 h1) (F6 h2) h4 h5 hz hzl h3 h7 ha hes hc.2 hc.1 hd
 | load n g a =>
  have hk:Ai a=true:=by simpa[Bt.opds]using hok
  generalize hop:o.op=op at hchk
  simp only[Nc]at hchk
  split at hchk
  case h_2=>cases hchk
  simp only[xqc]at hchk
  obtain⟨⟨⟨h1,h2⟩,h3⟩,h4⟩:=hchk
  have:=Af h1;subst this
  simp only[Ak]at hs
  split at hs
  ·rename_i cs k e1
   simp only[xqa,xqd]at hs
   obtain⟨rfl,rfl,rfl⟩:=hs
   exact qDn h hg hop e1 hk (F6 h2) (F6 h3) h4 hc
  ·rename_i id i k e1
   split at hs
   ·rename_i ty s es hl
    simp only[xqa,xqd]at hs
    obtain⟨rfl,rfl,rfl⟩:=hs
    exact qDp h hg hop e1 hk (F6 h2) (F6 h3) h4 hl hc.1 hc.2
   ·rename_i ty s es hl
    simp only[xqa,xqd]at hs
    obtain⟨rfl,rfl,rfl⟩:=hs
    exact q8W h hg hop e1 hk (F6 h2) (F6 h3) h4 hl rfl (h.reg _ _ hl) hc.1 hc.2
   ·rename_i cs hl
    simp only[xqa,xqd]at hs
    obtain⟨rfl,rfl,rfl⟩:=hs
    exact qDo h hg hop e1 hk (F6 h2) (F6 h3) h4 hl hc.2
   ·cases hs
  ·cases hs
 | store n a x =>
  generalize hop:o.op=op at hchk
  simp only[Nc]at hchk
  split at hchk
  case h_2=>cases hchk
  simp only[xqc]at hchk
  obtain⟨⟨h1,h2⟩,h3⟩:=hchk
  have:=Af h1;subst this
  have:=Af h2;subst this
  simp only[Bt.opds,List.all_cons,xqc]at hok
  simp only[Ak,xqk]at hs
  obtain⟨v,hv,hs⟩:=hs
  split at hs
  ·rename_i id i k e1
   split at hs
   ·rename_i ty s es hl
    simp only[xqb,xqd]at hs
    obtain⟨ts,hts,rfl,rfl,rfl⟩:=hs
    obtain⟨c1,c2,c3,c4⟩:=hc
    exact qBT h hg hop hok.1 hok.2.1 (F6 h3) e1 hv hl c1 c2 hts c3 c4
   ·rename_i ty s es hl
    simp only[xqa,xqd]at hs
    obtain⟨rfl,rfl,rfl⟩:=hs
    obtain⟨c1,c2,c3,c4⟩:=hc
    exact qBU h hg hop hok.1 hok.2.1 (F6 h3) e1 hv hl c1 c2 c3 c4
   ·rename_i cs hl
    simp only[xqa,xqd]at hs
    obtain⟨rfl,rfl,rfl⟩:=hs
    obtain⟨rfl,c2,c3,c4⟩:=hc
    exact qBS h hg hop hok.1 hok.2.1 (F6 h3) e1 hv hl c2 c3 c4 (.inr trivial)
   ·cases hs
  ·cases hs
 | fadr off a =>
  have hk:Ai a=true:=by simpa[Bt.opds]using hok
  generalize hop:o.op=op at hchk
  simp only[Nc]at hchk
  split at hchk
  case h_2=>cases hchk
  simp only[xqc]at hchk
  obtain⟨h1,h2⟩:=hchk
  have:=Af h1;subst this
  split at h2
  case h_2=>cases h2
  rename_i fs hu
  split at h2
  case h_2=>cases h2
  rename_i f hf
  simp only[xqc,xz0]at h2
  obtain⟨h3,h4⟩:=h2
  obtain⟨s,hz,hp⟩:∃ s,Me P f.type=some s/\0<s:=by
   split at h4
   ·rename_i s hz;exact⟨s,hz,by simpa using h4⟩
   ·cases h4
  simp only[Ak]at hs
  split at hs
  ·rename_i cs k e1
   simp only[xqa,xqd]at hs
   obtain⟨_,rfl,rfl⟩:=hs
   exact qIT h hg hop hk hu hf h3 hz hp e1
  ·rename_i id j k e1
   simp only[xqa,xqd]at hs
   obtain⟨_,rfl,rfl⟩:=hs
   exact qDq h hg hop hk hu hf h3 hz hp e1
  ·cases hs
 | fld off n g x =>
  have hk:Ai x=true:=by simpa[Bt.opds]using hok
  generalize hop:o.op=op at hchk
  simp only[Nc]at hchk
  split at hchk
  case h_2=>cases hchk
  simp only[xqc]at hchk
  obtain⟨h1,h2⟩:=hchk
  have:=Af h1;subst this
  split at h2
  case h_2=>cases h2
  rename_i fs hu
  split at h2
  case h_2=>cases h2
  rename_i f hf
  simp only[xqc]at h2
  obtain⟨⟨⟨h3,h4⟩,h5⟩,h6⟩:=h2
  simp only[Ak,xqk]at hs
  obtain⟨a,ha,hs⟩:=hs
  split at hs
  ·simp only[xqa,xqd]at hs
   obtain⟨rfl,rfl,rfl⟩:=hs
   exact qEf h hg hop hk hu hf (by simpa using h3) (F6 h4) (F6 h5) h6 ha hc
  ·simp only[xqa,xqd]at hs
   obtain⟨rfl,rfl,rfl⟩:=hs
   exact qGg h hg hop hk hu hf (by simpa using h3) (F6 h4) (F6 h5) h6 ha hc
  ·cases hs
 | iadr s x i =>
  generalize hop:o.op=op at hchk
  simp only[Nc]at hchk
  split at hchk
  case h_2=>cases hchk
  simp only[xqc]at hchk
  obtain⟨⟨h1,h2⟩,h3⟩:=hchk
  have:=Af h1;subst this
  have:=Af h2;subst this
  simp only[Bt.opds,List.all_cons,xqc]at hok
  split at h3
  case h_2=>cases h3
  rename_i e he
  simp only[Ak]at hs
  split at hs
  ·rename_i es cap nl k n e1 e2
   simp only[xqa,xqd]at hs
   obtain⟨rfl,rfl,rfl⟩:=hs
   exact qEg h hg hop hok.1 hok.2.1 he (F6 h3) e1 e2 hc.1 hc.2.1 hc.2.2
  ·rename_i id off len cap k n e1 e2
   split at hs
   ·rename_i ty q es hl
    simp only[xqa,xqd]at hs
    obtain⟨rfl,rfl,rfl⟩:=hs
    exact q8Y h hg hop hok.1 hok.2.1 he (F6 h3) e1 (Eh hl) hc.1 e2 hc.2.1 hc.2.2
   ·rename_i ty q es hl
    simp only[xqa,xqd]at hs
    obtain⟨rfl,rfl,rfl⟩:=hs
    exact q8Y h hg hop hok.1 hok.2.1 he (F6 h3) e1 (Eh hl) hc.1 e2 hc.2.1 hc.2.2
   ·cases hs
  ·rename_i id m k n e1 e2
   split at hs
   ·rename_i cs hl
    simp only[xqa,xqd]at hs
    obtain⟨rfl,rfl,rfl⟩:=hs
    exact qDu h hg hop hok.1 hok.2.1 he (F6 h3) e1 hl hc.1 e2 hc.2.1 hc.2.2
   ·cases hs
  ·cases hs
 | iadT s x i =>
  generalize hop:o.op=op at hchk
  simp only[Nc]at hchk
  split at hchk
  case h_2=>cases hchk
  simp only[xqc]at hchk
  obtain⟨⟨h1,h2⟩,h3⟩:=hchk
  have:=Af h1;subst this
  have:=Af h2;subst this
  simp only[Bt.opds,List.all_cons,xqc]at hok
  split at h3
  case h_2=>cases h3
  rename_i e he
  simp only[Ak]at hs
  split at hs
  ·rename_i es cap nl k n e1 e2
   simp only[xqa,xqd]at hs
   obtain⟨rfl,rfl,rfl⟩:=hs
   exact qEg h hg hop hok.1 hok.2.1 he (F6 h3) e1 e2 hc.1 hc.2.1 hc.2.2
  ·cases hs
 | iadrA len s x i =>
  generalize hop:o.op=op at hchk
  simp only[Nc]at hchk
  split at hchk
  case h_2=>cases hchk
  simp only[xqc]at hchk
  obtain⟨⟨h1,h2⟩,h3⟩:=hchk
  have:=Af h1;subst this
  have:=Af h2;subst this
  simp only[Bt.opds,List.all_cons,xqc]at hok
  split at h3
  case h_2=>cases h3
  rename_i n e he
  simp only[xqc]at h3
  obtain⟨h4,h3⟩:=h3
  have:n=len:=by simpa using h4
  subst this
  simp only[Ak]at hs
  split at hs
  ·rename_i cs k kk n e1 e2
   simp only[xqa,xqd]at hs
   obtain⟨rfl,rfl,rfl⟩:=hs
   exact qBM h hg hop hok.1 hok.2.1 he (F6 h3) e1 e2 hc.1 hc.2
  ·rename_i id jj k kk n e1 e2
   simp only[xqa,xqd]at hs
   obtain⟨rfl,rfl,rfl⟩:=hs
   exact qBN h hg hop hok.1 hok.2.1 he (F6 h3) e1 e2 hc.1 hc.2
  ·cases hs
 | idxS x i =>
  generalize hop:o.op=op at hchk
  simp only[Nc]at hchk
  split at hchk
  case h_2=>cases hchk
  simp only[xqc]at hchk
  obtain⟨⟨h1,h2⟩,h3⟩:=hchk
  have:=Af h1;subst this
  have:=Af h2;subst this
  simp only[Bt.opds,List.all_cons,xqc]at hok
  simp only[Ak]at hs
  split at hs
  ·rename_i s k n e1 e2
   simp only[xqa,xqd]at hs
   obtain⟨rfl,rfl,rfl⟩:=hs
   exact qIU h hg hop hok.1 hok.2.1 h3 e1 e2 hc.1 hc.2
  ·cases hs
 | idxA len s g x i =>
  generalize hop:o.op=op at hchk
  simp only[Nc]at hchk
  split at hchk
  case h_2=>cases hchk
  simp only[xqc]at hchk
  obtain⟨⟨h1,h2⟩,h3⟩:=hchk
  have:=Af h1;subst this
  have:=Af h2;subst this
  simp only[Bt.opds,List.all_cons,xqc]at hok
  split at h3
  case h_2=>cases h3
  rename_i n e he
  simp only[xqc]at h3
  obtain⟨⟨⟨h4,h5⟩,h6⟩,h7⟩:=h3
  have:n=len:=by simpa using h4
  subst this
  simp only[Ak]at hs
  split at hs
  ·rename_i ts k nn e1 e2
   simp only[xqa,xqd]at hs
   obtain⟨rfl,rfl,rfl⟩:=hs
   exact qEh h hg hop hok.1 hok.2.1 he (F6 h5) (F6 h6) h7 e1 e2 hc.1 hc.2.1 hc.2.2
  ·rename_i cs k nn e1 e2
   simp only[xqa,xqd]at hs
   obtain⟨rfl,rfl,rfl⟩:=hs
   exact qDr h hg hop hok.1 hok.2.1 he (F6 h5) (F6 h6) h7 e1 e2 hc.1 hc.2.1 hc.2.2
  ·cases hs
 | bin op x y =>
  generalize hop:o.op=op' at hchk
  simp only[Nc]at hchk
  split at hchk
  case h_2=>cases hchk
  simp only[xqc,xqu]at hchk
  obtain⟨⟨rfl,h1⟩,h2⟩:=hchk
  have:=Af h1;subst this
  have:=Af h2;subst this
  simp only[Bt.opds,List.all_cons,xqc]at hok
  simp only[Ak]at hs
  split at hs
  ·rename_i a b e1 e2
   simp only[xqb,xqd]at hs
   obtain⟨⟨c',r'⟩,hb,rfl,rfl,rfl⟩:=hs
   exact qKb h hg hop e1 e2 hok.1 hok.2.1 hb hc
  ·cases hs
 | isNil pos x =>
  have hk:Ai x=true:=by simpa[Bt.opds]using hok
  generalize hop:o.op=op' at hchk
  simp only[Nc]at hchk
  split at hchk
  case h_2=>cases hchk
  simp only[xqc,xqu,xzz,Option.isSome_iff_exists]at hchk
  obtain⟨⟨rfl,e,he⟩,hpq⟩:=hchk
  rename_i t p q u
  have hpq':(p=x/\q=.const (.slice none 0 0))\/(q=x/\p=.const (.slice none 0 0)):=by
   rcases hpq with⟨h1,h2⟩|⟨h1,h2⟩
   ·exact .inl ⟨(Af h1).symm,(Af h2).symm⟩
   ·exact .inr ⟨(Af h1).symm,(Af h2).symm⟩
  simp only[Ak]at hs
  split at hs
  ·rename_i es cap nl e1
   split at hs
   ·rename_i b
    simp only[xqa,xqd]at hs
    obtain⟨_,rfl,rfl⟩:=hs
    exact qCe h hg hop hpq' hk he e1 (.inl ⟨b,rfl,rfl⟩)
   ·simp only[xqa,xqd]at hs
    obtain⟨rfl,rfl,rfl⟩:=hs
    exact qCe h hg hop hpq' hk he e1 (.inr ⟨hc,rfl⟩)
  ·cases hs
 | eqg pos ks x y =>
  generalize hop:o.op=op' at hchk
  simp only[Nc]at hchk
  split at hchk
  case h_2=>cases hchk
  simp only[xqc,xqu,Bool.not_eq_true']at hchk
  obtain⟨⟨⟨⟨⟨⟨rfl,h0⟩,h1⟩,h2⟩,h3⟩,h4⟩,h5⟩:=hchk
  have:=Af h4;subst this
  have:=Af h5;subst this
  simp only[Bt.opds,List.all_cons,xqc]at hok
  simp only[Ak,xqk,xqb,xqd]at hs
  obtain⟨as,⟨a,e1,f1⟩,bs,⟨b,e2,f2⟩,rfl,rfl,rfl⟩:=hs
  exact qKq h hg hop h0 h1 h2 h3 hok.1 hok.2.1 e1 e2 f1 f2 hc.1 hc.2
 | eqb pos x y =>
  generalize hop:o.op=op' at hchk
  simp only[Nc]at hchk
  split at hchk
  case h_2=>cases hchk
  simp only[xqc,xqu]at hchk
  obtain⟨⟨⟨rfl,h0⟩,h1⟩,h2⟩:=hchk
  have:=Af h1;subst this
  have:=Af h2;subst this
  simp only[Bt.opds,List.all_cons,xqc]at hok
  split at h0
  case h_2=>cases h0
  rename_i hu
  simp only[Ak]at hs
  split at hs
  ·rename_i a b e1 e2
   simp only[xqa,xqd]at hs
   obtain⟨_,rfl,rfl⟩:=hs
   exact qKe h hg hop hu hok.1 hok.2.1 e1 e2
  ·cases hs
 | un op x =>
  have hk:Ai x=true:=by simpa[Bt.opds]using hok
  generalize hop:o.op=op' at hchk
  simp only[Nc]at hchk
  split at hchk
  case h_2=>cases hchk
  simp only[xqc,xqu]at hchk
  obtain⟨rfl,h1⟩:=hchk
  have:=Af h1;subst this
  simp only[Ak]at hs
  split at hs
  ·rename_i a e1
   simp only[xqb,xqd]at hs
   obtain⟨r',hb,_,rfl,rfl⟩:=hs
   exact qMG h hg hop e1 hk hb
  ·cases hs
 | conv k x =>
  have hk:Ai x=true:=by simpa[Bt.opds]using hok
  generalize hop:o.op=op' at hchk
  simp only[Nc]at hchk
  split at hchk
  case h_2=>cases hchk
  simp only[xqc]at hchk
  obtain⟨⟨h1,h2⟩,h3⟩:=hchk
  have:=Af h1;subst this
  simp only[Ak]at hs
  split at hs
  ·rename_i k' n e1
   simp only[xqa,xqd]at hs
   obtain⟨_,rfl,rfl⟩:=hs
   exact qIV h hg hop e1 hk h2 (F6 h3)
  ·cases hs
 | bytesStr x =>
  have hk:Ai x=true:=by simpa[Bt.opds]using hok
  generalize hop:o.op=op' at hchk
  simp only[Nc]at hchk
  split at hchk
  case h_2=>cases hchk
  simp only[xqc]at hchk
  obtain⟨⟨h1,h2⟩,h3⟩:=hchk
  have:=Af h1;subst this
  split at h2
  case h_2=>cases h2
  rename_i e he
  simp only[Ak,xqk,xqb,xqd]at hs
  obtain⟨es,⟨a,ha,hes⟩,bs,hb,_,rfl,rfl⟩:=hs
  exact qBa h hg hop hk he (F6 h2) h3 ha hes hb
 | runeStr x =>
  have hk:Ai x=true:=by simpa[Bt.opds]using hok
  generalize hop:o.op=op' at hchk
  simp only[Nc]at hchk
  split at hchk
  case h_2=>cases hchk
  simp only[xqc,Option.isSome_iff_exists]at hchk
  obtain⟨⟨h1,k,h2⟩,h3⟩:=hchk
  have:=Af h1;subst this
  simp only[Ak]at hs
  split at hs
  ·rename_i k' n e1
   simp only[xqa,xqd]at hs
   obtain⟨_,rfl,rfl⟩:=hs
   exact qIW h hg hop e1 hk h2 h3
  ·cases hs
 | len k x=>exact qDv h hg hchk (by simpa[Bt.opds]using hok) hs hc
 | cap x =>
  have hk:Ai x=true:=by simpa[Bt.opds]using hok
  generalize hop:o.op=op' at hchk
  simp only[Nc]at hchk
  split at hchk
  case h_2=>cases hchk
  split at hchk
  case h_2=>cases hchk
  rename_i cc _ _ _ y t e1 e2 e3
  simp only[xqc,Option.isSome_iff_exists]at hchk
  obtain⟨h1,e,he⟩:=hchk
  have:=Af h1;subst this
  have hce:=Pl e1 e2 e3
  subst hce
  simp only[Ak]at hs
  split at hs
  ·rename_i es cc nl e4
   simp only[xqa,xqd]at hs
   obtain⟨_,rfl,rfl⟩:=hs
   exact qHj h hg hop hk he e4 (.inl ⟨es,nl,rfl⟩)
  ·rename_i id off len cc e4
   simp only[xqa,xqd]at hs
   obtain⟨_,rfl,rfl⟩:=hs
   exact qHj h hg hop hk he e4 (.inr ⟨id,off,len,rfl⟩)
  ·cases hs
 | mmx mx xs =>
  generalize hop:o.op=op' at hchk
  simp only[Nc]at hchk
  split at hchk
  case h_2=>cases hchk
  rename_i cc
  simp only[Ak,xqk,xqb,xqd]at hs
  obtain⟨as,ha,r',hr,rfl,rfl,rfl⟩:=hs
  split at hchk
  ·rename_i e1
   simp only[xqc]at hchk
   obtain⟨rfl,h1⟩:=hchk
   have:=Jc h1;subst this
   have hce:=Pl (ts:=cc.argTypes.toList) e1 rfl rfl
   rw[hce]at hop
   exact qKg h hg hop hok ha hr hc
  ·rename_i e1
   simp only[xqc,Bool.not_eq_true']at hchk
   obtain⟨rfl,h1⟩:=hchk
   have:=Jc h1;subst this
   have hce:=Pl (ts:=cc.argTypes.toList) e1 rfl rfl
   rw[hce]at hop
   exact qKf h hg hop hok ha hr hc
  ·cases hchk
 | app fz ty s b x =>
  generalize hop:o.op=op' at hchk
  simp only[Nc]at hchk
  split at hchk
  case h_2=>cases hchk
  split at hchk
  case h_2=>cases hchk
  rename_i cc _ _ _ b' x' t t' e1 e2 e3
  simp only[xqc,xqu]at hchk
  obtain⟨⟨⟨⟨⟨⟨⟨h1,h2⟩,h3⟩,h4⟩,h5⟩,h6⟩,h7⟩,h8⟩:=hchk
  have:=Af h1;subst this
  have:=Af h2;subst this
  have:t=t':=by simpa using h3
  subst this
  have hce:=Pl e1 e2 e3
  subst hce
  have hel:Ew P t ty s:=by
   refine⟨F6 h4,F6 h5,h6,?_,?_⟩
   ·split at h7
    ·rename_i z hz;exact⟨z,hz,by simpa using h7⟩
    ·cases h7
   ·split at h8
    ·rename_i n hn;exact⟨n,hn,by simpa using h8⟩
    ·cases h8
  simp only[Bt.opds,List.all_cons,xqc]at hok
  simp only[Ak,xqk]at hs
  obtain⟨news,⟨ax,hax,hnews⟩,a,ha,hs⟩:=hs
  split at hs
  ·rename_i es c1 nl
   split at hs<;>simp only[xqa,xqd]at hs<;>obtain⟨rfl,rfl,rfl⟩:=hs
   ·rename_i hfz
    obtain⟨cw,cw2,cc,cb,cz⟩:=hc
    exact(q6o (d:=d) hel h hg hop hok.1 hok.2.1 hax hnews cw ha cw2 cc cb cz).1 hfz
   ·rename_i hfz
    obtain⟨⟨cw,cw2,cc,cb,cz⟩,cd⟩:=hc
    exact(q6o (d:=d) hel h hg hop hok.1 hok.2.1 hax hnews cw ha cw2 cc cb cz).2 (by simpa using hfz) cd hd
  ·rename_i id off len c1
   split at hs
   case h_2=>cases hs
   rename_i ty2 q es hl
   split at hs<;>simp only[xqa,xqd]at hs<;>obtain⟨rfl,rfl,rfl⟩:=hs
   ·obtain⟨cw,rfl,rfl,cc,cb,cz⟩:=hc
    exact(q8c (d:=d) hel h hg hop hok.1 hok.2.1 hax hnews cw ha hl cc cb cz).1
   ·obtain⟨⟨cw,rfl,rfl,cc,cb,cz⟩,cd⟩:=hc
    exact(q8c (d:=d) hel h hg hop hok.1 hok.2.1 hax hnews cw ha hl cc cb cz).2 cd hd
  ·rename_i id len
   split at hs
   case h_2=>cases hs
   rename_i ty2 q es hl
   split at hs<;>simp only[xqa,xqd]at hs<;>obtain⟨rfl,rfl,rfl⟩:=hs
   ·obtain⟨cw,rfl,rfl,cb⟩:=hc
    exact(qAB (d:=d) hel h hg hop hok.1 hok.2.1 hax hnews cw ha hl cb).1
   ·obtain⟨⟨cw,rfl,rfl,cb⟩,cd⟩:=hc
    exact(qAB (d:=d) hel h hg hop hok.1 hok.2.1 hax hnews cw ha hl cb).2 cd hd
  ·cases hs
 | appN ty s x =>
  generalize hop:o.op=op' at hchk
  simp only[Nc]at hchk
  split at hchk
  case h_2=>cases hchk
  split at hchk
  case h_2=>cases hchk
  rename_i cc _ _ _ b' x' t t' e1 e2 e3
  simp only[xqc,xqu]at hchk
  obtain⟨⟨⟨⟨⟨⟨⟨h1,h2⟩,h3⟩,h4⟩,h5⟩,h6⟩,h7⟩,h8⟩:=hchk
  have:=Af h1;subst this
  have:=Af h2;subst this
  have:t=t':=by simpa using h3
  subst this
  have hce:=Pl e1 e2 e3
  subst hce
  have hel:Ew P t ty s:=by
   refine⟨F6 h4,F6 h5,h6,?_,?_⟩
   ·split at h7
    ·rename_i z hz;exact⟨z,hz,by simpa using h7⟩
    ·cases h7
   ·split at h8
    ·rename_i n hn;exact⟨n,hn,by simpa using h8⟩
    ·cases h8
  have hk:Ai x=true:=by simpa[Bt.opds]using hok
  simp only[Ak]at hs
  split at hs
  case h_2=>cases hs
  rename_i es c1 nl e4
  simp only[xqa,xqd]at hs
  obtain⟨rfl,rfl,rfl⟩:=hs
  obtain⟨cd,cw,cb⟩:=hc
  exact(q6o (d:=d) (fz:=false) hel h hg hop rfl hk e4 rfl cw (show ev Γ st.env (.const (.slice none 0 0))=some (.t (.sl [] (some 0) (some true))) from rfl) (fun e he=>by cases he) rfl (by simpa using cb) (.inr (.inr rfl))).2 rfl cd hd
 | appB b x =>
  generalize hop:o.op=op' at hchk
  simp only[Nc]at hchk
  split at hchk
  case h_2=>cases hchk
  split at hchk
  case h_2=>cases hchk
  rename_i cc _ _ _ b' x' t t' e1 e2 e3
  simp only[xqc]at hchk
  obtain⟨⟨⟨h1,h2⟩,h3⟩,h4⟩:=hchk
  have:=Af h1;subst this
  have:=Af h2;subst this
  have:t=t':=by simpa using h3
  subst this
  have hce:=Pl e1 e2 e3
  subst hce
  split at h4
  case h_2=>cases h4
  rename_i ty hty
  simp only[xqc]at h4
  obtain⟨⟨h5,h7⟩,h8⟩:=h4
  have hel:Ew P t ty 1 1:=by
   refine⟨hty,F6 h5,Nat.one_pos,?_,?_⟩
   ·split at h7
    ·rename_i z hz;exact⟨z,hz,by simpa using h7⟩
    ·cases h7
   ·split at h8
    ·rename_i n hn;exact⟨n,hn,by simpa using h8⟩
    ·cases h8
  simp only[Bt.opds,List.all_cons,xqc]at hok
  simp only[Ak,xqk]at hs
  obtain⟨news,⟨ax,hax,hnews⟩,hs⟩:=hs
  split at hs
  ·rename_i es q nl hb
   simp only[xqa,xqd]at hs
   obtain⟨rfl,rfl,rfl⟩:=hs
   obtain⟨cw,cw2,cc,cb⟩:=hc
   exact qIa hel h hg hop hok.1 hok.2.1 hax hnews cw hb cw2 cc cb
  ·cases hs
 | appR fz ii ty b x =>
  generalize hop:o.op=op' at hchk
  simp only[Nc]at hchk
  split at hchk
  case h_2=>cases hchk
  split at hchk
  case h_2=>cases hchk
  rename_i cc _ _ _ b' x' t t' e1 e2 e3
  simp only[xqc]at hchk
  obtain⟨⟨⟨⟨⟨⟨h1,h2⟩,h3⟩,h4⟩,h5⟩,h7⟩,h8⟩:=hchk
  have:=Af h1;subst this
  have:=Af h2;subst this
  have:t=t':=by simpa using h3
  subst this
  have hce:=Pl e1 e2 e3
  subst hce
  have hel:Ew P t ty 1 1:=by
   refine⟨F6 h4,F6 h5,Nat.one_pos,?_,?_⟩
   ·split at h7
    ·rename_i z hz;exact⟨z,hz,by simpa using h7⟩
    ·cases h7
   ·split at h8
    ·rename_i n hn;exact⟨n,hn,by simpa using h8⟩
    ·cases h8
  simp only[Bt.opds,List.all_cons,xqc]at hok
  simp only[Ak]at hs
  split at hs
  case h_2=>cases hs
  rename_i news _ _ id len hax hb
  split at hs
  case h_2=>cases hs
  rename_i t0 q es hl
  cases fz with
  | true =>
   simp only[if_true,xqa,xqd]at hs
   obtain⟨rfl,rfl,rfl⟩:=hs
   obtain⟨rfl,cw,rfl,rfl,cb⟩:=hc
   exact(q4x (d:=d) hel h hg hop hok.1 hok.2.1 hax rfl cw hb hl (by omega) (by unfold maxLen;omega)).1
  | false =>
   simp only[xqn,if_false,xqa,xqd]at hs
   obtain⟨rfl,rfl,rfl⟩:=hs
   obtain⟨⟨rfl,cw,rfl,rfl,cb⟩,hd0⟩:=hc
   exact(q4x hel h hg hop hok.1 hok.2.1 hax rfl cw hb hl (by omega) (by unfold maxLen;omega)).2 hd0 hd
 | appZ ty s zs b n =>
  generalize hop:o.op=op' at hchk
  simp only[Nc]at hchk
  split at hchk
  case h_2=>cases hchk
  split at hchk
  case h_2=>cases hchk
  rename_i cc _ _ _ b' n' t t' e1 e2 e3
  simp only[xqc,xqu]at hchk
  obtain⟨⟨⟨⟨⟨⟨⟨⟨h1,h2⟩,h3⟩,h4⟩,h5⟩,h6⟩,h7⟩,h8⟩,h9⟩:=hchk
  have:=Af h1;subst this
  have:=Af h2;subst this
  have hce:=Pl e1 e2 e3
  subst hce
  simp only[Bt.opds,List.all_cons,xqc]at hok
  obtain⟨hz,hzl⟩:E9 P ty=some zs/\zs.length=s:=by
   split at h6
   ·rename_i z hz
    simp only[xqc]at h6
    have:=Rb h6.1;subst this
    exact⟨hz,by simpa using h6.2⟩
   ·cases h6
  have hel:Ew P t ty s:=by
   refine⟨F6 h3,F6 h4,h5,⟨zs,hz,hzl⟩,?_⟩
   split at h8
   ·rename_i n hn;exact⟨n,hn,by simpa using h8⟩
   ·cases h8
  obtain⟨ki,hki⟩:=Option.isSome_iff_exists.1 h9
  simp only[Ak]at hs
  split at hs
  ·rename_i es q nl k m f1 f2
   simp only[xqa,xqd]at hs
   obtain⟨rfl,rfl,rfl⟩:=hs
   exact qIb hel hz h7 hki h hg hop hok.1 hok.2.1 f1 f2 hc.2.1 hc.2.2.1.1 hc.2.2.1.2 hc.2.2.2 hc.1 hd
  ·cases hs
 | cpy s x y =>
  generalize hop:o.op=op' at hchk
  simp only[Nc]at hchk
  split at hchk
  case h_2=>cases hchk
  split at hchk
  case h_2=>cases hchk
  rename_i cc _ _ _ x' y' t t' e1 e2 e3
  simp only[xqc,xqu]at hchk
  obtain⟨⟨⟨h1,h2⟩,h3⟩,h4⟩:=hchk
  have:=Af h1;subst this
  have:=Af h2;subst this
  have hce:=Pl e1 e2 e3
  subst hce
  simp only[Bt.opds,List.all_cons,xqc]at hok
  obtain⟨ty,hsl,hsz⟩:∃ ty,slO P t=some ty/\Me P ty=some s:=by
   split at h3
   ·rename_i ty hty;exact⟨ty,hty,F6 h3⟩
   ·cases h3
  simp only[Ak]at hs
  split at hs
  case h_2=>cases hs
  rename_i id off len cap f1
  split at hs
  case h_2=>cases hs
  rename_i ty2 q es f2
  obtain⟨news,hn,he⟩:=xqb.1 hs
  simp only[xqd]at he
  obtain⟨rfl,rfl,rfl⟩:=he
  obtain⟨ay,fy,fe⟩:=xqk.1 hn
  obtain⟨rfl,hw⟩:=hc
  exact qKp hsl hsz h4 h hg hop hok.1 hok.2.1 f1 f2 fy fe hw
 | slice s x lo hi mx =>
  generalize hop:o.op=op' at hchk
  simp only[Nc]at hchk
  split at hchk
  case h_2=>cases hchk
  rename_i t x' lo' hi' mx'
  simp only[xqc]at hchk
  obtain⟨⟨⟨⟨⟨h1,h2⟩,h3⟩,h4⟩,h5⟩,h6⟩:=hchk
  have:=Af h1;subst this
  have:=q6e h2;subst this
  have:=q6e h3;subst this
  have:=q6e h4;subst this
  simp only[Bt.opds,List.all_append,xqc]at hok
  obtain⟨⟨⟨k1,k2⟩,k3⟩,k4⟩:=hok
  have k1:Ai x=true:=by simpa using k1
  simp only[Ak,xqk]at hs
  obtain⟨a,ha,hs⟩:=hs
  split at hs
  ·-- a string
   rename_i b
   simp only[xqk,xqb,xqd]at hs
   obtain⟨l,hl,hh,hhh,rfl,rfl,rfl⟩:=hs
   obtain⟨rfl,c1,c2,c3,c4⟩:=hc
   simp only[beq_self_eq_true,↓reduceIte,xqc,Option.isNone_iff_eq_none]at h6
   obtain⟨hst,rfl⟩:=h6
   exact qAD h hg hop k1 hst ha (Nw h hg hl c1 k2) (Nw h hg hhh c2 k3) c3 c4
  ·-- an immutable slice
   rename_i es cap nl
   simp only[xqk]at hs
   obtain⟨l,hl,hh,hhh,hs⟩:=hs
   split at hs
   ·simp only[xqa,xqd]at hs
    obtain⟨rfl,rfl,rfl⟩:=hs
    obtain⟨c0,cw,c1,c2,c3,c4⟩:=hc
    have hs0:(s==0)=false:=by simpa using c0
    simp only[hs0,xqn,↓reduceIte]at h6
    split at h6
    case h_2=>cases h6
    rename_i e he
    exact qBY h hg hop k1 he (F6 h6) ha cw (Nw h hg hl c1 k2) (Nw h hg hhh c2 k3) c3 c4
   ·rename_i m0
    simp only[xqb,xqd]at hs
    obtain⟨m,hm,rfl,rfl,rfl⟩:=hs
    obtain⟨c0,cw,c1,c2,c2',c3,c4,c5⟩:=hc
    have hs0:(s==0)=false:=by simpa using c0
    simp only[hs0,xqn,↓reduceIte]at h6
    split at h6
    case h_2=>cases h6
    rename_i e he
    have hhi:hi.isSome=true:=by simpa using h5
    obtain⟨hi,rfl⟩:=Option.isSome_iff_exists.1 hhi
    exact qAE h hg hop k1 he (F6 h6) ha cw (Nw h hg hl c1 k2) (Nw h hg hhh c2 k3) (Nw h hg hm c2' k4) c3 c4 c5
  ·-- a part of a region
   rename_i id off len cap
   simp only[xqk]at hs
   obtain⟨l,hl,hh,hhh,hs⟩:=hs
   split at hs
   case h_2=>cases hs
   rename_i ty q es hlk
   split at hs
   ·simp only[xqa,xqd]at hs
    obtain⟨rfl,rfl,rfl⟩:=hs
    obtain⟨c0,cq,c1,c2,c3,c4⟩:=hc
    have hs0:(s==0)=false:=by simpa using c0
    simp only[hs0,xqn,↓reduceIte]at h6
    split at h6
    case h_2=>cases h6
    rename_i e he
    exact qBZ h hg hop k1 he (F6 h6) ha hlk cq (Nw h hg hl c1 k2) (Nw h hg hhh c2 k3) c3 c4
   ·rename_i m0
    simp only[xqb,xqd]at hs
    obtain⟨m,hm,rfl,rfl,rfl⟩:=hs
    obtain⟨c0,cq,c1,c2,c2',c3,c4,c5⟩:=hc
    have hs0:(s==0)=false:=by simpa using c0
    simp only[hs0,xqn,↓reduceIte]at h6
    split at h6
    case h_2=>cases h6
    rename_i e he
    have hhi:hi.isSome=true:=by simpa using h5
    obtain⟨hi,rfl⟩:=Option.isSome_iff_exists.1 hhi
    exact qAF h hg hop k1 he (F6 h6) ha hlk cq (Nw h hg hl c1 k2) (Nw h hg hhh c2 k3) (Nw h hg hm c2' k4) c3 c4 c5
  ·cases hs
 | mk ty s zs l c1 =>
  generalize hop:o.op=op' at hchk
  simp only[Nc]at hchk
  split at hchk
  case h_2=>cases hchk
  rename_i t l' c'
  simp only[xqc,xqu]at hchk
  obtain⟨⟨⟨⟨⟨⟨⟨h1,h2⟩,h3⟩,h4⟩,h5⟩,h6⟩,h7⟩,h8⟩:=hchk
  have:=Af h1;subst this
  have:=Af h2;subst this
  simp only[Bt.opds,List.all_cons,xqc]at hok
  obtain⟨hz,hzl⟩:E9 P ty=some zs/\zs.length=s:=by
   split at h6
   ·rename_i z hz
    simp only[xqc]at h6
    have:=Rb h6.1;subst this
    exact⟨hz,by simpa using h6.2⟩
   ·cases h6
  have hel:Ew P t ty s:=by
   refine⟨F6 h3,F6 h4,h5,⟨zs,hz,hzl⟩,?_⟩
   split at h8
   ·rename_i n hn;exact⟨n,hn,by simpa using h8⟩
   ·cases h8
  simp only[Ak]at hs
  split at hs
  ·rename_i k n k2 m e1 e2
   simp only[xqa,xqd]at hs
   obtain⟨rfl,rfl,rfl⟩:=hs
   exact qMH hel hz h7 h hg hop hok.1 hok.2.1 e1 e2 hc.2.1 hc.2.2.1 hc.2.2.2 hc.1 hd
  ·cases hs
 | mkE ty s zs l c1 =>
  generalize hop:o.op=op' at hchk
  simp only[Nc]at hchk
  split at hchk
  case h_2=>cases hchk
  rename_i t l' c'
  simp only[xqc,xqu]at hchk
  obtain⟨⟨⟨⟨⟨⟨⟨h1,h2⟩,h3⟩,h4⟩,h5⟩,h6⟩,h7⟩,h8⟩:=hchk
  have:=Af h1;subst this
  have:=Af h2;subst this
  simp only[Bt.opds,List.all_cons,xqc]at hok
  obtain⟨hz,hzl⟩:E9 P ty=some zs/\zs.length=s:=by
   split at h6
   ·rename_i z hz
    simp only[xqc]at h6
    have:=Rb h6.1;subst this
    exact⟨hz,by simpa using h6.2⟩
   ·cases h6
  have hel:Ew P t ty s:=by
   refine⟨F6 h3,F6 h4,h5,⟨zs,hz,hzl⟩,?_⟩
   split at h8
   ·rename_i n hn;exact⟨n,hn,by simpa using h8⟩
   ·cases h8
  simp only[Ak]at hs
  split at hs
  ·rename_i k n k2 m e1 e2
   simp only[xqa,xqd]at hs
   obtain⟨rfl,rfl,rfl⟩:=hs
   exact qKk hel hz h7 h hg hop hok.1 hok.2.1 e1 e2 hc.2.1 hc.2.2.1 hc.2.2.2 hc.1 hd
  ·cases hs
 | mkf f xs =>
  generalize hop:o.op=op' at hchk
  simp only[Nc]at hchk
  split at hchk
  case h_2=>cases hchk
  rename_i f' first caps
  simp only[xqc]at hchk
  obtain⟨⟨⟨h1,h2⟩,h3⟩,h4⟩:=hchk
  have h4:f<1000000000:=by simpa using h4
  have:f=f':=by simpa using h1
  subst this
  have hf:first=#[]:=by simpa using h2
  subst hf
  have:=Jc h3;subst this
  simp only[Ak,xqb,xqd]at hs
  obtain⟨as,ha,_,rfl,rfl⟩:=hs
  exact qKh h4 h hg (by rw[hop];simp[Bt.opds]) hok ha
 | mkfB f xs =>
  generalize hop:o.op=op' at hchk
  simp only[Nc]at hchk
  split at hchk
  case h_2=>cases hchk
  rename_i f' first caps
  simp only[xqc]at hchk
  obtain⟨⟨h1,h2⟩,h3⟩:=hchk
  have:f=f':=by simpa using h1
  subst this
  have hf:caps=#[]:=by simpa using h2
  subst hf
  have:=Jc h3;subst this
  simp only[Ak,xqb,xqd]at hs
  obtain⟨as,ha,_,rfl,rfl⟩:=hs
  exact qIY h hg (by rw[hop];simp[Bt.opds]) hok ha
 | ext x i =>
  have hk:Ai x=true:=by simpa[Bt.opds]using hok
  generalize hop:o.op=op' at hchk
  simp only[Nc]at hchk
  split at hchk
  case h_2=>cases hchk
  simp only[xqc]at hchk
  have:=Af hchk.1;subst this
  rename_i y j
  have:i=j:=by simpa using hchk.2
  subst this
  simp only[Ak]at hs
  split at hs
  ·rename_i vs e1
   simp only[xqb,xqd]at hs
   obtain⟨t,ht,_,rfl,rfl⟩:=hs
   exact qKc h hg hop e1 hk ht
  ·rename_i vs e1
   simp only[xqb,xqd]at hs
   obtain⟨t,ht,_,rfl,rfl⟩:=hs
   exact qIX h hg hop e1 hk ht
  ·cases hs
 | nck x =>
  have hk:Ai x=true:=by simpa[Bt.opds]using hok
  generalize hop:o.op=op' at hchk
  simp only[Nc]at hchk
  split at hchk
  case h_2=>cases hchk
  have:=Af hchk;subst this
  simp only[Ak]at hs
  split at hs<;>first|(cases hs;done)|skip
  ·rename_i cs k e1
   simp only[xqa,xqd]at hs
   obtain⟨_,rfl,rfl⟩:=hs
   exact qCc h hg hop e1 hk (.inl ⟨_,_,rfl⟩)
  ·rename_i id i k e1
   simp only[xqa,xqd]at hs
   obtain⟨_,rfl,rfl⟩:=hs
   exact qCc h hg hop e1 hk (.inr (.inl ⟨_,_,_,rfl⟩))
  ·rename_i f cs e1
   simp only[xqa,xqd]at hs
   obtain⟨_,rfl,rfl⟩:=hs
   exact qCc h hg hop e1 hk (.inr (.inr (.inl ⟨_,_,rfl⟩)))
  ·rename_i f cs e1
   simp only[xqa,xqd]at hs
   obtain⟨_,rfl,rfl⟩:=hs
   exact qCc h hg hop e1 hk (.inr (.inr (.inr ⟨_,_,rfl⟩)))
 | mkmap =>
  generalize hop:o.op=op' at hchk
  simp only[Nc]at hchk
  split at hchk
  case h_2=>cases hchk
  simp only[xqc,Option.isNone_iff_eq_none]at hchk
  obtain⟨rfl,_⟩:=hchk
  simp only[Ak,xqa,xqd]at hs
  obtain⟨rfl,rfl,rfl⟩:=hs
  exact qGl h hop hc hd
 | mkB ty zs l c1 =>
  generalize hop:o.op=op' at hchk
  simp only[Nc]at hchk
  split at hchk
  case h_2=>cases hchk
  rename_i t l' c'
  simp only[xqc,xqu]at hchk
  obtain⟨⟨⟨⟨⟨⟨h1,h2⟩,h3⟩,h4⟩,h6⟩,h7⟩,h8⟩:=hchk
  have:=Af h1;subst this
  have:=Af h2;subst this
  simp only[Bt.opds,List.all_cons,xqc]at hok
  obtain⟨hz,hzl⟩:E9 P ty=some zs/\zs.length=1:=by
   split at h6
   ·rename_i z hz
    simp only[xqc]at h6
    have:=Rb h6.1;subst this
    exact⟨hz,by simpa using h6.2⟩
   ·cases h6
  have hel:Ew P t ty 1:=by
   refine⟨F6 h3,F6 h4,Nat.zero_lt_one,⟨zs,hz,hzl⟩,?_⟩
   split at h8
   ·rename_i n hn;exact⟨n,hn,by simpa using h8⟩
   ·cases h8
  simp only[Ak]at hs
  split at hs
  ·rename_i k n k2 m e1 e2
   simp only[xqa,xqd]at hs
   obtain⟨rfl,rfl,rfl⟩:=hs
   exact qKm hel hz h7 h hg hop hok.1 hok.2.1 e1 e2 hc.2.1 hc.2.2.1 hc.2.2.2 hc.1 hd
  ·cases hs
 | rng x =>
  have hk:Ai x=true:=by simpa[Bt.opds]using hok
  generalize hop:o.op=op' at hchk
  simp only[Nc]at hchk
  split at hchk
  case h_2=>cases hchk
  simp only[xqc]at hchk
  have:=Af hchk.1;subst this
  simp only[Ak]at hs
  split at hs
  ·rename_i s e1
   simp only[xqa,xqd]at hs
   obtain⟨rfl,rfl,rfl⟩:=hs
   exact qKn h hg hop hk hchk.2 e1 hc hd
  ·cases hs
 | nxt x =>
  have hk:Ai x=true:=by simpa[Bt.opds]using hok
  generalize hop:o.op=op' at hchk
  simp only[Nc]at hchk
  split at hchk
  case h_2=>cases hchk
  simp only[xqc]at hchk
  have:=Af hchk.1;subst this
  rw[hchk.2]at hop
  simp only[Ak]at hs
  split at hs
  case h_2=>cases hs
  rename_i id e1
  split at hs
  case h_2=>cases hs
  rename_i s pos hl
  obtain⟨g1,g2⟩:=qKo (ds:=ds) h hg hop hk e1 hl
  split at hs<;>rename_i hp<;>simp only[xqa,xqd]at hs<;>obtain⟨_,rfl,rfl⟩:=hs
  ·exact g1 hp
  ·exact g2 hp
 | lkup kt zv ok m k =>
  generalize hop:o.op=op' at hchk
  simp only[Nc]at hchk
  split at hchk
  case h_2=>cases hchk
  simp only[xqc]at hchk
  obtain⟨⟨⟨h1,h2⟩,h3⟩,h4⟩:=hchk
  have:=Af h1;subst this
  have:=Af h2;subst this
  rename_i t ok'
  have:ok=ok':=by simpa using h3
  subst this
  split at h4
  case h_2=>cases h4
  rename_i q e hm
  simp only[xqc]at h4
  obtain⟨⟨h5,h6⟩,h7⟩:=h4
  have hz:(P.info? e).bind (·.zero)=some zv:=by
   split at h6
   ·rename_i z hz;rw[hz,q9W h6]
   ·cases h6
  simp only[Bt.opds,List.all_cons,xqc]at hok
  simp only[Ak]at hs
  split at hs
  case h_2=>cases hs
  rename_i kv e1
  split at hs
  ·rename_i es e2
   simp only[xqa,xqd]at hs
   obtain⟨rfl,rfl,rfl⟩:=hs
   exact qEm h hg hop hok.1 hok.2.1 hm h5 hz h7 e1 e2 (.inl rfl) hc.1 hc.2
  ·rename_i id e2
   split at hs
   ·rename_i es hl
    simp only[xqa,xqd]at hs
    obtain⟨rfl,rfl,rfl⟩:=hs
    exact qEm h hg hop hok.1 hok.2.1 hm h5 hz h7 e1 e2 (.inr ⟨id,rfl,hl⟩) hc.1 hc.2
   ·cases hs
  ·cases hs
 | mup kt m k x =>
  generalize hop:o.op=op' at hchk
  simp only[Nc]at hchk
  split at hchk
  case h_2=>cases hchk
  simp only[xqc]at hchk
  obtain⟨⟨⟨h1,h2⟩,h3⟩,h4⟩:=hchk
  have:=Af h1;subst this
  have:=Af h2;subst this
  have:=Af h3;subst this
  split at h4
  case h_2=>cases h4
  rename_i q e hm
  simp only[Bt.opds,List.all_cons,xqc]at hok
  simp only[Ak]at hs
  split at hs
  case h_2=>cases hs
  rename_i kv id e1 e2
  split at hs
  case h_2=>cases hs
  rename_i es hl
  simp only[xqb,xqk,xqd]at hs
  obtain⟨y,⟨a,ha,hy⟩,rfl,rfl,rfl⟩:=hs
  exact qKl h hg hop hok.1 hok.2.1 hok.2.2.1 hm h4 e1 e2 hl ha hy hc.1 hc.2
 | lkupA kt zv m k =>
  generalize hop:o.op=op' at hchk
  simp only[Nc]at hchk
  split at hchk
  case h_2=>cases hchk
  simp only[xqc]at hchk
  obtain⟨⟨⟨h1,h2⟩,h3⟩,h4⟩:=hchk
  have:=Af h1;subst this
  have:=Af h2;subst this
  rename_i t ok'
  have:ok'=false:=by simpa using h3
  subst this
  split at h4
  case h_2=>cases h4
  rename_i q e hm
  simp only[xqc]at h4
  obtain⟨⟨h5,h6⟩,h7⟩:=h4
  have hz:(P.info? e).bind (·.zero)=some zv:=by
   split at h6
   ·rename_i z hz;rw[hz,q9W h6]
   ·cases h6
  simp only[Bt.opds,List.all_cons,xqc]at hok
  simp only[Ak]at hs
  split at hs
  case h_2=>cases hs
  rename_i kv id e1 e2
  split at hs
  case h_2=>cases hs
  rename_i es hl
  simp only[xqa,xqd]at hs
  obtain⟨rfl,rfl,rfl⟩:=hs
  exact qGm h hg hop hok.1 hok.2.1 hm h5 hz h7 e1 e2 hl hc.1 hc.2
 | mupA kt m k x =>
  generalize hop:o.op=op' at hchk
  simp only[Nc]at hchk
  split at hchk
  case h_2=>cases hchk
  simp only[xqc]at hchk
  obtain⟨⟨⟨h1,h2⟩,h3⟩,h4⟩:=hchk
  have:=Af h1;subst this
  have:=Af h2;subst this
  have:=Af h3;subst this
  split at h4
  case h_2=>cases h4
  rename_i q e hm
  simp only[Bt.opds,List.all_cons,xqc]at hok
  simp only[Ak]at hs
  split at hs
  case h_2=>cases hs
  rename_i kv id e1 e2
  split at hs
  case h_2=>cases hs
  rename_i es hl
  simp only[xqb,xqd]at hs
  obtain⟨a,ha,rfl,rfl,rfl⟩:=hs
  exact qIc h hg hop hok.1 hok.2.1 hok.2.2.1 hm h4 e1 e2 hl ha hc.1 hc.2
 | mdel kt m k =>
  generalize hop:o.op=op' at hchk
  simp only[Nc]at hchk
  split at hchk
  case h_2=>cases hchk
  split at hchk
  case h_2=>cases hchk
  rename_i cc _ _ _ x' y' t t' e1 e2 e3
  simp only[xqc]at hchk
  obtain⟨⟨h1,h2⟩,h3⟩:=hchk
  have:=Af h1;subst this
  have:=Af h2;subst this
  have hce:=Pl e1 e2 e3
  subst hce
  simp only[Bt.opds,List.all_cons,xqc]at hok
  split at h3
  case h_2=>cases h3
  rename_i q e hm
  simp only[Ak]at hs
  split at hs
  case h_2=>cases hs
  rename_i kv id f1 f2
  split at hs
  case h_2=>cases hs
  rename_i es hl
  simp only[xqa,xqd]at hs
  obtain⟨rfl,rfl,rfl⟩:=hs
  exact qId h hg hop hok.1 hok.2.1 hm h3 f1 f2 hl hc.1 hc.2
 | isNilP pos x =>
  have hk:Ai x=true:=by simpa[Bt.opds]using hok
  generalize hop:o.op=op' at hchk
  simp only[Nc]at hchk
  split at hchk
  case h_2=>cases hchk
  simp only[xqc,xqu,xzz]at hchk
  obtain⟨⟨rfl,hpq⟩,he⟩:=hchk
  rename_i t p q u
  have hpq':(p=x/\q=.const (.pointer none))\/(q=x/\p=.const (.pointer none)):=by
   rcases hpq with⟨h1,h2⟩|⟨h1,h2⟩
   ·exact .inl ⟨(Af h1).symm,(Af h2).symm⟩
   ·exact .inr ⟨(Af h1).symm,(Af h2).symm⟩
  split at he
  case h_2=>cases he
  rename_i e hu
  simp only[Ak]at hs
  split at hs
  ·rename_i i j k e1
   simp only[xqa,xqd]at hs
   obtain⟨_,rfl,rfl⟩:=hs
   exact q6t h hg hop hpq' hk hu e1 (.inl ⟨⟨_,_,_,rfl⟩,rfl⟩)
  ·rename_i cs k e1
   simp only[xqa,xqd]at hs
   obtain⟨_,rfl,rfl⟩:=hs
   exact q6t h hg hop hpq' hk hu e1 (.inr (.inl ⟨⟨_,_,rfl⟩,rfl⟩))
  ·rename_i e1
   simp only[xqa,xqd]at hs
   obtain⟨_,rfl,rfl⟩:=hs
   exact q6t h hg hop hpq' hk hu e1 (.inr (.inr ⟨rfl,rfl⟩))
  ·cases hs
 | mvP x=>cases hn6
 | nckP x=>cases hn6
 | fadP off x=>cases hn6
 | ldP n x=>cases hn6
 | appT ty s b x=>exact absurd rfl (hnt ty s b x)
 | stR id n a x=>exact absurd rfl (hns id n a x)
 | ldR id n g a=>exact absurd rfl (hnl id n g a)
 | ldT n g a=>exact absurd rfl (hn4 n g a)
 | lkT kt zv ok m k=>exact absurd rfl (hn5 kt zv ok m k)
 | hcall f xs rs base=>simp[Ak]at hs
 | hcallv x xs rs base=>simp[Ak]at hs
 | hcallW f xs base=>simp[Ak]at hs
 | hcallvW x xs base=>simp[Ak]at hs
 | hcallB x xs base=>simp[Ak]at hs
 | ncall f xs base=>simp[Ak]at hs
 | callT f xs=>simp[Ak]at hs
 | rcall f xs rs=>simp[Ak]at hs
 | call f xs=>simp[Ak]at hs
 | callv x xs=>simp[Ak]at hs
theorem q6u {io:Bt} {d:Nat} {c:Prop} {r:AV} {st1:St} (h:Sim w0 B κ X μ st tm w) (hg:Gl Γ w X) (hn6:q3M io=none) (hchk:Nc P io o.op=true) (hok:io.opds.all Ai=true) (hd:d<1000000) (hs:Ak Γ d io st=some (c,r,st1)) (hc:c):Ao P w0 B κ X o r st1 tm w ds:=by
 by_cases ht:∃ ty s b x,io=.appT ty s b x
 ·obtain⟨ty,s,b,x,rfl⟩:=ht
  simp only[Ak,xqk]at hs
  obtain⟨news,⟨a,ha,hn⟩,hs⟩:=hs
  split at hs
  ·rename_i es q nl hb
   simp only[xqa,xqd]at hs
   obtain⟨rfl,rfl,rfl⟩:=hs
   obtain⟨h1,h2,h3,h4⟩:=hc
   refine Rj (io:=.app true ty s b x) (c:=Es s news/\Es s es/\q=es.length/\es.length+news.length<=2147483648/\(true=true\/news≠[]\/es=[])) (by simp) (by simp) (by simp) (by simp) (by simp) rfl h hg hchk hok hd ?_ ⟨h1,h2,h3,h4,.inl rfl⟩
   simp[Ak,ha,hn,hb]
  ·cases hs
 ·by_cases ht2:∃ id n a x,io=.stR id n a x
  ·obtain⟨id,n,a,x,rfl⟩:=ht2
   simp only[Ak]at hs
   split at hs
   ·exact Rj (io:=.store n a x) (by simp) (by simp) (by simp) (by simp) (by simp) rfl h hg hchk hok hd (by simp only[Ak];exact hs) hc
   ·cases hs
  ·by_cases ht3:∃ id n g a,io=.ldR id n g a
   ·obtain⟨id,n,g,a,rfl⟩:=ht3
    simp only[Ak]at hs
    split at hs
    ·exact Rj (io:=.load n g a) (by simp) (by simp) (by simp) (by simp) (by simp) rfl h hg hchk hok hd (by simp only[Ak];exact hs) hc
    ·cases hs
   ·by_cases ht4:∃ n g a,io=.ldT n g a
    ·obtain⟨n,g,a,rfl⟩:=ht4
     simp only[Ak]at hs
     split at hs
     ·rename_i ha
      exact Rj (io:=.load n g a) (by simp) (by simp) (by simp) (by simp) (by simp) rfl h hg hchk hok hd (by simp only[Ak,ha];exact hs) hc
     ·cases hs
    ·by_cases ht5:∃ kt zv ok m k,io=.lkT kt zv ok m k
     ·obtain⟨kt,zv,ok,m,k,rfl⟩:=ht5
      simp only[Ak]at hs
      split at hs
      ·rename_i hk hm
       exact Rj (io:=.lkup kt zv ok m k) (by simp) (by simp) (by simp) (by simp) (by simp) rfl h hg hchk hok hd (by simp only[Ak,hk,hm];exact hs) hc
      ·cases hs
     ·exact Rj (fun ty s b x e=>ht ⟨ty,s,b,x,e⟩) (fun id n a x e=>ht2 ⟨id,n,a,x,e⟩) (fun id n g a e=>ht3 ⟨id,n,g,a,e⟩) (fun n g a e=>ht4 ⟨n,g,a,e⟩) (fun kt zv ok m k e=>ht5 ⟨kt,zv,ok,m,k,e⟩) hn6 h hg hchk hok hd hs hc
theorem qDw {io:Bt} {d:Nat} {c:Prop} {r:AV} {st1:St} (h:Sim w0 B κ X μ st tm w) (hg:Gl Γ w X) (hchk:Nc P io o.op=true) (hok:io.opds.all Ai=true) (hd:d<1000000) (hs:Ak Γ d io st=some (c,r,st1)) (hc:c):Ao P w0 B κ X o r st1 tm w ds:=by
 cases hb:q3M io with
 | none=>exact q6u h hg hb hchk hok hd hs hc
 | some io' =>
  obtain⟨c',hs',hc'⟩:=qEq hb hs hc
  have h2:Nc P io' o.op=true/\io'.opds.all Ai=true/\q3M io'=none:=by
   unfold q3M at hb
   split at hb<;>simp only[xqa,reduceCtorEq]at hb<;>subst hb<;>exact⟨hchk,hok,rfl⟩
  exact q6u h hg h2.2.2 h2.1 h2.2.1 hd hs' hc'
end
end Go.Lg
namespace Go.Lg
open Go
def Yj (P:Program) (f:FuncId) (vs:Array Value) (w:World) (R:Value->World->Prop):Prop :=
 ((callFunc f vs).run P w=.ok (.enter f vs) w/\Calls P f vs w fun e w'=>∃ v,e=.returned v/\R v w')\/∃ v,(callFunc f vs).run P w=.ok (.value v) w/\R v w
theorem Yj.mono {P:Program} {f:FuncId} {vs:Array Value} {w:World} {R R':Value->World->Prop} (h:Yj P f vs w R) (hr:∀ v w',R v w'->R' v w'):Yj P f vs w R':=by
 rcases h with⟨h1,h2⟩|⟨v,h1,h2⟩
 ·exact .inl ⟨h1,h2.mono fun e w' ⟨v,he,hR⟩=>⟨v,he,hr v w' hR⟩⟩
 ·exact .inr ⟨v,h1,hr v w h2⟩
def B9 (P:Program) (Γ:Tables) (f:FuncId) (args:List T) (res:T):Prop :=
 ∀ (w:World) (X:Nat->Prop) (vs:List Value),Gl Γ w X->(∀ b,X b->b<w.heap.size)->Fp w X args vs ->
  Yj P f vs.toArray w fun v w'=>RowKit.Below w.heap.size w w'/\TR w' (fun b=>X b\/(w.heap.size<=b/\b<w'.heap.size)) res v
def A7 (P:Program) (Γ:Tables) (f:FuncId) (args:List T) (res:T):Prop :=
 ∀ (w:World) (X:Nat->Prop) (vs:List Value),Gl Γ w X->(∀ b,X b->b<w.heap.size)->Fp w X args vs ->
  Yj P f vs.toArray w fun v w'=>RowKit.Below w.heap.size w w'/\TR w' (fun b=>w.heap.size<=b/\b<w'.heap.size) res v
theorem A7.pure {P:Program} {Γ:Tables} {f:FuncId} {args:List T} {res:T} (h:A7 P Γ f args res):B9 P Γ f args res :=
 fun w X vs hg hx hr=>(h w X vs hg hx hr).mono fun v w' ⟨hb,ht⟩=>⟨hb,ht.mono (fun _ _=>rfl) (fun _ hb=>.inr hb)⟩
def Xp:T->Bool
 | .v _=>true
 | .sl [] _ _=>true
 | _=>false
def Ar:T->Bool
 | .tup vs=>vs.all Xp
 | .agg vs=>vs.all Xp
 | t=>Xp t
theorem qAK {w:World} {X Y:Nat->Prop} {t:T} {x:Value} (h:TR w X t x) (hf:Xp t=true):TR w Y t x:=by
 cases h with
 | v x=>exact .v x
 | nil cap nl a c hc hn hz=>exact .nil cap nl a c hc hn hz
 | sl es cap nl s b off c f hcell hlen hrel hone hx hle hc hn =>
  cases es with
  | nil=>exact .nil cap nl _ c hc (fun q hq=>by rw[hn q hq];rfl) (fun e=>by cases e)
  | cons e es=>simp[Xp]at hf
 | agg=>simp[Xp]at hf
 | tup=>simp[Xp]at hf
 | ip=>simp[Xp]at hf
 | fn=>simp[Xp]at hf
 | mpnil=>simp[Xp]at hf
 | mp=>simp[Xp]at hf
 | pin=>simp[Xp]at hf
theorem q6v {w:World} {X Y:Nat->Prop} {t:T} {x:Value} (h:TR w X t x) (hf:Ar t=true):TR w Y t x:=by
 have one:∀ {ts:List T} {xs:List Value},ts.all Xp=true->Fp w X ts xs->Fp w Y ts xs:=by
  intro ts xs h1 h2
  exact⟨h2.1,fun k t x ht hx=>qAK (h2.2 k t x ht hx) (xqz.1 h1 t (xqp ht))⟩
 cases t with
 | tup vs=>obtain⟨xs,rfl,hr⟩:=h.tup_inv;exact TR.mk_tup (one hf hr)
 | agg vs=>obtain⟨xs,rfl,h1,hr⟩:=h.agg_inv;exact TR.mk_agg h1 (one hf hr)
 | _=>exact qAK h hf
structure RO where
 dst:Option Nat
 op:Bt
 guard:Option (Nat×Bool):=none
 rid:Option Nat:=none
def RO.d (ro:RO):Nat:=match ro.rid with
 | some r=>r
 | none=>ro.dst.getD 0
def St.put (st:St) (d:Option Nat) (a:AV):St:=match d with
 | some d=>⟨(d,a)::st.env,st.hp⟩
 | none=>st
def q9b (st:St) (μ:D7) (b:Nat):Prop:=∃ id n,st.sh id≠none/\μ id=some (b,n)
section
variable {P:Program} {Γ:Tables} {w0:World} {B:Nat} {κ:D7} {X:Nat->Prop} {μ:D7} {st:St} {tm:Array Value} {w:World} {ds:List Deferred} {o:Oper}
theorem O5 {Y:Nat->Prop} {f:AV->Option T}:∀ {cs:List AV} {xs:List Value} {ts:List T},Ir w X μ st.sh cs xs->(∀ c∈cs,∀ t x,AR w X μ st.sh c x->f c=some t->TR w Y t x)->Ag (cs.map f)=some ts->Fp w Y ts xs
 | [],xs,ts,h,hf,ho=>by
  simp only[xq3,Ag,xqa]at ho
  subst ho;rw[h.nil_inv];exact Fp.nil _ _
 | c::cs,xs,ts,h,hf,ho=>by
  obtain⟨x,ys,rfl,hx,hs⟩:=h.cons_inv
  simp only[xqm]at ho
  cases hc:f c with
  | none=>rw[hc]at ho;simp[Ag]at ho
  | some t =>
   rw[hc]at ho
   simp only[Ag,xqb]at ho
   obtain⟨ts',ho',rfl⟩:=ho
   exact Fp.cons (hf c (by simp) t x hx hc) (O5 hs (fun c hm=>hf c (by simp[hm])) ho')
theorem q8h:∀ {n:Nat} {hp:List (Nat×Aw)} {a:AV} {t:T},a.one=true->Aj hp n a=some t->t.one=true:=by
 intro n hp a t h1 h
 cases a with
 | t x=>cases n<;>simp only[Aj,xqa]at h<;>subst h<;>exact h1
 | ag cs=>simp[AV.one]at h1
 | un=>simp[AV.one]at h1
 | tu=>simp[AV.one]at h1
 | dead=>cases n<;>simp[Aj]at h
 | ls id off len cap =>
  cases n with
  | zero=>simp[Aj]at h
  | succ n =>
   simp only[Aj]at h
   split at h
   ·simp at h;subst h;rfl
   ·simp only[xqb]at h;obtain⟨ts,_,rfl⟩:=h;rfl
   ·cases h
 | lp id i k =>
  cases n with
  | zero=>simp[Aj]at h
  | succ n =>
   simp only[Aj]at h
   split at h
   ·simp at h;subst h;rfl
   ·simp only[xqb]at h;obtain⟨ts,_,rfl⟩:=h;rfl
   ·simp only[xqb]at h;obtain⟨ts,_,rfl⟩:=h;rfl
   ·cases h
 | li id=>cases n<;>simp[Aj]at h
 | lb id m =>
  cases n with
  | zero=>simp[Aj]at h
  | succ n =>
   simp only[Aj]at h
   split at h
   ·simp only[xqb]at h;obtain⟨ts,_,rfl⟩:=h;rfl
   ·cases h
 | lm id =>
  cases n with
  | zero=>simp[Aj]at h
  | succ n=>simp only[Aj]at h;split at h<;>simp at h;subst h;rfl
 | fn f cs =>
  cases n with
  | zero=>simp[Aj]at h
  | succ n =>
   simp only[Aj]at h
   split at h
   ·simp only[xqb]at h;obtain⟨ts,_,rfl⟩:=h;rfl
   ·cases h
theorem Oh {n:Nat} {hp:List (Nat×Aw)}:∀ {cs:List AV} {ts:List T},C7 cs=true->Ag (cs.map (Aj hp n))=some ts->D9 ts=true
 | [],ts,h,ho=>by simp only[xq3,Ag,xqa]at ho;subst ho;rfl
 | c::cs,ts,h,ho=>by
  simp only[C7,List.all_cons,xqc]at h
  simp only[xqm]at ho
  cases hc:Aj hp n c with
  | none=>rw[hc]at ho;simp[Ag]at ho
  | some t =>
   rw[hc]at ho
   simp only[Ag,xqb]at ho
   obtain⟨ts',ho',rfl⟩:=ho
   simp only[D9,List.all_cons,xqc]
   exact⟨q8h h.1 hc,Oh h.2 ho'⟩
theorem qCj {Y:Nat->Prop} {id off len s n ty:Nat} {cap:Option Nat} {x:Value} {seg:List (List T)} (ha:AR w X μ st.sh (.ls id off len cap) x) (hs0:st.sh id=some (.sl s n)) (hlen:off+len<=n->seg.length=len)
  (hreg:(n=0/\μ id=none)\/∃ g arr,μ id=some (g,arr.size)/\w.heap[g]? = some (.cells arr ty (0,0))/\n*s<=arr.size/\∀ (i k:Nat) (e:List T) (t:T) (y:Value),seg[i]? = some e->e[k]? = some t->arr[(off+i)*s+k]? = some y->TR w Y t y)
  (hw:∀ e∈seg,e.length=s/\D9 e=true) (hY:∀ g m,μ id=some (g,m)->Y g):TR w Y (.sl seg cap none) x:=by
 obtain⟨s',n',hs,hcase⟩:=ha.ls_inv
 rw[hs0]at hs
 simp only[xqa,Sh.sl.injEq]at hs
 obtain⟨rfl,rfl⟩:=hs
 have nil0:∀ q:List (List T),q.length=0->q=[]:=fun q h=>xqo h
 rcases hcase with⟨hm,⟨oa,rfl⟩,rfl,rfl,hc⟩|⟨g,m,c,ad,hm,rfl,hle,hlc,hcm,hfit,hfull,hcq,had⟩
 ·rw[nil0 seg (hlen (by omega))]
  exact .nil _ _ _ _ (fun q hq=>(hc q hq).symm) (fun b hb=>by cases hb) (fun _=>rfl)
 ·have hlen:=hlen hle
  by_cases h0:len=0
  ·subst h0
   rw[nil0 seg hlen]
   exact .nil _ _ _ _ hcq (fun b hb=>by cases hb) (fun e=>by cases e)
  ·rcases hreg with⟨_,hm0⟩|⟨g',arr,hm',hg,hle',hrel⟩
   ·rw[hm]at hm0;cases hm0
   rw[hm]at hm';cases hm'
   have:=TR.mk_sl (w:=w) (X:=Y) (es:=seg) (cap:=cap) (nl:=none) (s:=s) (b:=g) (off:=off*s) (c:=c) (f:=fun i k=>(arr[(off+i)*s+k]?).getD undef)
    (hY g _ hm) (by omega) hcq (fun q hq=>by cases hq) (fun e hme=>(hw e hme).1) (fun e hme=>(hw e hme).2)
    (fun i k hi hk=>by
     rw[hlen]at hi
     have hf:=Nv (s:=s) (i:=off+i) (len:=n) (by omega)
     have hin:(off+i)*s+k<arr.size:=by omega
     rw[cell_of_row _ _ _ _ _ _ hg,show off*s+i*s+k=(off+i)*s+k by rw[Nat.add_mul]]
     simp[hin])
    (fun i k e t he ht=>by
     have hi:=(xqi.1 he).1
     rw[hlen]at hi
     have hk:k<s:=by rw[<- (hw e (xqp he)).1];exact(xqi.1 ht).1
     have hf:=Nv (s:=s) (i:=off+i) (len:=n) (by omega)
     have hin:(off+i)*s+k<arr.size:=by omega
     have:=hrel i k e t arr[(off+i)*s+k] he ht (by simp[hin])
     simp only[hin,getElem?_pos,xzy]
     exact this)
   rw[hlen]at this
   rw[had (.inl (by omega))]
   exact this
theorem q8i {α:Type} {l:List (Option α)} {r:List α} (h:Ag l=some r) {i:Nat} {y:α} (hy:r[i]? = some y):l[i]? = some (some y):=by
 rw[Rf h];simp[hy]
theorem q6w (h:Sim w0 B κ X μ st tm w):∀ (n:Nat) {a:AV} {x:Value} {t:T},AR w X μ st.sh a x->Aj st.hp n a=some t->TR w (fun b=>X b\/q9b st μ b) t x:=by
 have hmono:∀ {t:T} {x:Value},TR w X t x->TR w (fun b=>X b\/q9b st μ b) t x:=fun ht=>ht.mono (fun _ _=>rfl) (fun _ hb=>.inl hb)
 intro n
 induction n with
 | zero =>
  intro a x t ha hr
  cases a<;>simp only[Aj,xqa,reduceCtorEq]at hr
  subst hr;exact hmono ha.t_inv
 | succ n ih =>
  intro a x t ha hr
  cases a with
  | t y=>simp only[Aj,xqa]at hr;subst hr;exact hmono ha.t_inv
  | ag cs =>
   simp only[Aj,xqb]at hr
   obtain⟨ts,hts,rfl⟩:=hr
   obtain⟨xs,rfl,h1,hs⟩:=ha.ag_inv
   exact TR.mk_agg (Oh h1 hts) (O5 hs (fun c _ t x hc hf=>ih hc hf) hts)
  | fn f cs =>
   simp only[Aj]at hr
   split at hr
   case isFalse=>cases hr
   rename_i hlt
   simp only[xqb]at hr
   obtain⟨ts,hts,rfl⟩:=hr
   cases ha with
   | fn f cs xs hlen hrel =>
    have:=O5 (w:=w) (μ:=μ) (st:=st) (X:=X) (cs:=cs) (xs:=xs) ⟨hlen,hrel⟩ (fun c _ t x hc hf=>ih hc hf) hts
    rw[q9V hlt]
    exact .fn f ts xs this.1 this.2
  | ls id off len cap =>
   simp only[Aj]at hr
   split at hr
   ·rename_i ty s es hl
    simp only[xqa]at hr;subst hr
    obtain⟨hw,hcase⟩:=h.reg id _ hl
    have hmem:∀ e∈(es.drop off).take len,∃ i,es[i]? = some e:=fun e hme=>by
     obtain⟨i,hi,rfl⟩:=xqt (List.mem_of_mem_drop (xz6 hme))
     exact⟨i,xqg hi⟩
    refine qCj (ty:=ty) ha (Eh hl) (fun hle=>by simp;omega) (hcase.imp (fun⟨h1,h2⟩=>⟨by simp[h1],h2⟩) fun⟨g,arr,hm,hg,hle,hrel⟩=>⟨g,arr,hm,hg,hle,fun i k e t y he ht hy=>?_⟩)
     (fun e hme=>by
      obtain⟨i,hi⟩:=hmem e hme
      exact⟨(hw i e hi).1,xqz.2 fun t ht=>by obtain⟨k,hk,rfl⟩:=xqt ht;exact(hw i e hi).2 k _ (xqg hk)⟩)
     fun g m hm=>.inr ⟨id,_,by simp[Eh hl],hm⟩
    have hi:i<len:=by have:=(xqi.1 he).1;simp at this;omega
    rw[xq0,if_pos hi,xzc]at he
    exact hmono (hrel (off+i) k e t y he ht hy)
   ·rename_i ty s es hl
    simp only[xqb]at hr
    obtain⟨tss,hts,rfl⟩:=hr
    obtain⟨hw,hcase⟩:=h.reg id _ hl
    have hat:∀ (i:Nat) (e:List T),tss[i]? = some e->∃ e0,es[off+i]? = some e0/\i<len/\Ag (e0.map (Aj st.hp n))=some e:=fun i e he=>by
     have:=q8i hts he
     simp only[xqr,xqb]at this
     obtain⟨e0,he0,h1⟩:=this
     have hi:i<len:=by have:=(xqi.1 he0).1;simp at this;omega
     rw[xq0,if_pos hi,xzc]at he0
     exact⟨e0,he0,hi,h1⟩
    have hlen:tss.length=((es.drop off).take len).length:=by have:=congrArg List.length (Rf hts);simpa using this.symm
    refine qCj (ty:=ty) ha (Eh hl) (fun(hle:off+len<=es.length)=>by rw[hlen];simp;omega) (hcase.imp (fun⟨h1,h2⟩=>⟨by simp[h1],h2⟩) fun⟨g,arr,hm,hg,hle,hrel⟩=>⟨g,arr,hm,hg,hle,fun i k e t y he ht hy=>?_⟩)
     (fun e hme=>by
      obtain⟨i,hi,rfl⟩:=xqt hme
      obtain⟨e0,he0,_,h1⟩:=hat i _ (xqg hi)
      have hl0:e0.length=tss[i].length:=by have:=congrArg List.length (Rf h1);simpa using this
      exact⟨by rw[<- hl0];exact(hw _ e0 he0).1,Oh (xqz.2 fun a ha=>by obtain⟨k,hk,rfl⟩:=xqt ha;exact(hw _ e0 he0).2 k _ (xqg hk)) h1⟩)
     fun g m hm=>.inr ⟨id,_,by simp[Eh hl],hm⟩
    obtain⟨e0,he0,hi,h1⟩:=hat i e he
    have h2:=q8i h1 ht
    simp only[xqr,xqb]at h2
    obtain⟨a0,ha0,h3⟩:=h2
    exact ih (hrel (off+i) k e0 a0 y he0 ha0 hy) h3
   ·cases hr
  | lp id i k =>
   simp only[Aj]at hr
   obtain⟨g,m,hm,hp⟩:=ha.lp_inv
   split at hr
   ·rename_i ty s es hl
    simp only[xqa]at hr;subst hr
    rcases hp with⟨s',n',hs,rfl⟩|⟨hs,_,_⟩
    case inr=>rw[Eh hl]at hs;cases hs
    rw[Eh hl]at hs
    simp only[Aw.sh,xqa,Sh.sl.injEq]at hs
    obtain⟨rfl,rfl⟩:=hs
    have hx:X g\/q9b st μ g:=.inr ⟨id,_,by simp[Eh hl],hm⟩
    by_cases hi:i<es.length
    ·obtain⟨g',arr,hm',hheap,hle,hlen,h1,hrr⟩:=(h.reg id _ hl).elem hi
     rw[hm]at hm';cases hm'
     refine TR.mk_ip h1 (hrr.mono (fun _ _=>rfl) (fun _ hb=>.inl hb)) hx (fun j y hy=>?_)
     rw[cell_of_row _ _ _ _ _ _ hheap]
     rw[xq0]at hy
     split at hy
     ·rw[xzc]at hy;simpa using hy
     ·cases hy
    ·have:es.getD i []=[]:=by simp[List.getD,hi]
     rw[this]
     exact TR.mk_ip rfl (Fp.nil _ _) hx (fun j y hy=>by simp at hy)
   ·rename_i ty s es hl
    simp only[xqb]at hr
    obtain⟨ts,hts,rfl⟩:=hr
    rcases hp with⟨s',n',hs,rfl⟩|⟨hs,_,_⟩
    case inr=>rw[Eh hl]at hs;cases hs
    rw[Eh hl]at hs
    simp only[Aw.sh,xqa,Sh.sl.injEq]at hs
    obtain⟨rfl,rfl⟩:=hs
    have hx:X g\/q9b st μ g:=.inr ⟨id,_,by simp[Eh hl],hm⟩
    by_cases hi:i<es.length
    ·obtain⟨g',arr,hm',hheap,hle,hlen,h1,hrr⟩:=(h.reg id _ hl).elemA hi
     rw[hm]at hm';cases hm'
     refine TR.mk_ip (Oh h1 hts) (O5 hrr (fun c _ t x hc hf=>ih hc hf) hts) hx (fun j y hy=>?_)
     rw[cell_of_row _ _ _ _ _ _ hheap]
     rw[xq0]at hy
     split at hy
     ·rw[xzc]at hy;simpa using hy
     ·cases hy
    ·have:es.getD i []=[]:=by simp[List.getD,hi]
     rw[this]at hts
     simp only[xq3,Ag,xqa]at hts
     subst hts
     exact TR.mk_ip rfl (Fp.nil _ _) hx (fun j y hy=>by simp at hy)
   ·rename_i cs hl
    simp only[xqb]at hr
    obtain⟨ts,hts,rfl⟩:=hr
    rcases hp with⟨s',n',hs,rfl⟩|⟨hs,rfl,rfl⟩
    ·rw[Eh hl]at hs;cases hs
    obtain⟨hone,g',arr,ty,hm',hheap,hsz,hrel⟩:=h.reg id _ hl
    rw[hm]at hm';cases hm'
    have hcs:Ir w X μ st.sh cs arr.toList:=⟨by simp[hsz],fun j a y h2 h3=>hrel j a y h2 (by simpa using h3)⟩
    have h1:C7 cs=true:=xqz.2 fun t ht=>by obtain⟨j,hj,rfl⟩:=xqt ht;exact hone j _ (xqg hj)
    have:=TR.mk_ip (w:=w) (X:=fun b=>X b\/q9b st μ b) (k:=k) (b:=g) (off:=0) (Oh h1 hts) (O5 hcs (fun c _ t x hc hf=>ih hc hf) hts) (.inr ⟨id,_,by simp[Eh hl],hm⟩) (fun j y hy=>by
     rw[cell_of_row _ _ _ _ _ _ hheap];simpa using hy)
    simpa using this
   ·cases hr
  | li id=>simp[Aj]at hr
  | lb id m =>
   simp only[Aj]at hr
   obtain⟨g,hsb,hm,hmx,rfl⟩:=ha.lb_inv
   split at hr
   ·rename_i cs hl
    simp only[xqb]at hr
    obtain⟨ts,hts,rfl⟩:=hr
    obtain⟨hone,g',arr,ty,hm',hheap,hsz,hrel⟩:=h.reg id _ hl
    rw[hm]at hm';cases hm'
    have hcs:Ir w X μ st.sh cs arr.toList:=⟨by simp[hsz],fun j a y h2 h3=>hrel j a y h2 (by simpa using h3)⟩
    have h1:C7 cs=true:=xqz.2 fun t ht=>by obtain⟨j,hj,rfl⟩:=xqt ht;exact hone j _ (xqg hj)
    have h1t:=Oh h1 hts
    have hrt:=O5 hcs (fun c _ t x hc hf=>ih hc hf) hts
    have hlen:(ts.map fun t=>[t]).length=arr.size:=by have:=hrt.1;simpa using this
    by_cases h0:ts=[]
    ·subst h0
     have h00:arr.size=0:=by simpa using hlen.symm
     rw[h00]
     exact .nil _ _ _ _ (fun q hq=>by cases hq;rfl) (fun b hb=>by cases hb) (fun e=>by cases e)
    ·have:=TR.mk_sl (w:=w) (X:=fun b=>X b\/q9b st μ b) (es:=ts.map fun t=>[t]) (cap:=some arr.size) (nl:=none) (s:=1) (b:=g) (off:=0) (c:=arr.size) (f:=fun i k=>(arr[i+k]?).getD undef)
      (.inr ⟨id,_,by simp[Eh hl],hm⟩) (by omega) (fun q hq=>by cases hq;rfl) (fun q hq=>by cases hq) (fun e hme=>by obtain⟨t,_,rfl⟩:=xqy.1 hme;rfl)
      (fun e hme=>by
       obtain⟨t,ht,rfl⟩:=xqy.1 hme
       simpa[D9]using xqz.1 h1t t ht)
      (fun i k hi hk=>by
       rw[cell_of_row _ _ _ _ _ _ hheap,show 0+i*1+k=i+k by omega]
       rw[hlen]at hi
       have:i+k<arr.size:=by omega
       simp[this])
      (fun i k e t he ht=>by
       have hi:=(xqi.1 he).1
       simp only[xqr,xqb]at he
       obtain⟨t',ht',rfl⟩:=he
       have hk:k=0:=by have:=(xqi.1 ht).1;simpa using this
       subst hk
       simp only[xzq,xqa]at ht;subst ht
       rw[hlen]at hi
       have:=hrt.2 i t' arr[i] ht' (by simp[hi])
       simpa[hi]using this)
     rw[hlen]at this
     exact this
   ·cases hr
  | lm id =>
   simp only[Aj]at hr
   split at hr
   ·rename_i es hl
    simp only[xqa]at hr;subst hr
    obtain⟨g,n',hs,hm,rfl⟩:=ha.lm_inv
    obtain⟨g',n2,clock,ms,hm',hh,hlen,hrel⟩:=h.reg _ _ hl
    rw[hm]at hm';cases hm'
    exact .mp es g clock ms hh (.inr ⟨id,_,by simp[Eh hl],hm⟩) hlen (fun i e m h1 h2=>(hrel i e m h1 h2).1) (fun i e m h1 h2=>hmono (hrel i e m h1 h2).2)
   ·cases hr
  | dead=>simp[Aj]at hr
  | un=>simp[Aj]at hr
  | tu=>simp[Aj]at hr
end
end Go.Lg
namespace Go.Lg
open Go
def ren0 (φ:Nat->Option Nat):AV->AV
 | .ls i off len cap=>match φ i with|some j=>.ls j off len cap|none=>.dead
 | .lp i a k=>match φ i with|some j=>.lp j a k|none=>.dead
 | .lm i=>match φ i with|some j=>.lm j|none=>.dead
 | .lb i m=>match φ i with|some j=>.lb j m|none=>.dead
 | .li i=>match φ i with|some j=>.li j|none=>.dead
 | .fn f []=>.fn f []
 | .fn _ (_::_)=>.dead
 | .t x=>.t x
 | .dead=>.dead
 | .un=>.un
 | .ag cs=>.ag cs
 | .tu cs=>.tu cs
def ren1 (φ:Nat->Option Nat):AV->AV
 | .fn f cs=>if cs.all Cf then .fn f (cs.map (ren0 φ))else .dead
 | a=>ren0 φ a
def A8 (φ:Nat->Option Nat):AV->AV
 | .ag cs=>.ag (cs.map (ren1 φ))
 | .tu cs=>.tu (cs.map (ren1 φ))
 | a=>ren1 φ a
def Au (φ:Nat->Option Nat):Aw->Aw
 | .bx cs=>.bx (cs.map (A8 φ))
 | .rs ty s es=>.rs ty s (es.map fun e=>e.map (A8 φ))
 | .mr es=>.mr (es.map fun e=>(e.1,A8 φ e.2))
 | q=>q
theorem Oi {φ:Nat->Option Nat} (q:Aw):(Au φ q).sh=q.sh:=by cases q<;>simp[Au,Aw.sh]
section
variable {P:Program} {Γ:Tables} {w0:World} {B:Nat} {κ:D7} {X X':Nat->Prop} {μ μ':D7} {st:St} {tm:Array Value} {w w':World} {sh sh':Nat->Option Sh} {φ:Nat->Option Nat}
theorem AR.ren0 (hsh:∀ i j q,φ i=some j->sh i=some q->sh' j=some q/\μ' j=μ i) {a:AV} {x:Value} (ha:AR w X μ sh a x) (hna:Cf a=true):AR w X μ' sh' (Lg.ren0 φ a) x:=by
 cases ha with
 | t y v hy=>exact .t _ _ hy
 | lsnil i s n hs hm oa cap hq =>
  simp only[Lg.ren0];split
  ·rename_i j hj;exact .lsnil j s n (hsh _ _ _ hj hs).1 ((hsh _ _ _ hj hs).2.trans hm) oa cap hq
  ·exact .dead _ rfl
 | ls i off len s n g m c cap hs hm hle hlc hcm hfit hfull hq ad had =>
  simp only[Lg.ren0];split
  ·rename_i j hj;exact .ls j off len s n g m c cap (hsh _ _ _ hj hs).1 ((hsh _ _ _ hj hs).2.trans hm) hle hlc hcm hfit hfull hq ad had
  ·exact .dead _ rfl
 | lpsl i a k s n g m hs hm =>
  simp only[Lg.ren0];split
  ·rename_i j hj;exact .lpsl j a k s n g m (hsh _ _ _ hj hs).1 ((hsh _ _ _ hj hs).2.trans hm)
  ·exact .dead _ rfl
 | lpbx i k g m hs hm =>
  simp only[Lg.ren0];split
  ·rename_i j hj;exact .lpbx j k g m (hsh _ _ _ hj hs).1 ((hsh _ _ _ hj hs).2.trans hm)
  ·exact .dead _ rfl
 | lm i g m hs hm =>
  simp only[Lg.ren0];split
  ·rename_i j hj;exact .lm j g m (hsh _ _ _ hj hs).1 ((hsh _ _ _ hj hs).2.trans hm)
  ·exact .dead _ rfl
 | lb i g m hs hm hle =>
  simp only[Lg.ren0];split
  ·rename_i j hj;exact .lb j g m (hsh _ _ _ hj hs).1 ((hsh _ _ _ hj hs).2.trans hm) hle
  ·exact .dead _ rfl
 | li i g m hs hm =>
  simp only[Lg.ren0];split
  ·rename_i j hj;exact .li j g m (hsh _ _ _ hj hs).1 ((hsh _ _ _ hj hs).2.trans hm)
  ·exact .dead _ rfl
 | fn f cs xs hlen hrel =>
  cases cs with
  | nil=>exact .fn f [] xs hlen (fun k a x h=>by simp at h)
  | cons c cs=>exact .dead _ (q2F _ _)
 | dead v h=>exact .dead _ h
 | un=>exact .un
 | ag=>simp[Cf]at hna
 | tu=>simp[Cf]at hna
theorem AR.ren1 (hsh:∀ i j q,φ i=some j->sh i=some q->sh' j=some q/\μ' j=μ i) {a:AV} {x:Value} (ha:AR w X μ sh a x) (hna:Cf a=true):AR w X μ' sh' (Lg.ren1 φ a) x:=by
 by_cases hf:∃ f cs,a=.fn f cs
 ·obtain⟨f,cs,rfl⟩:=hf
  simp only[Lg.ren1]
  split
  ·rename_i hall
   cases ha with
   | fn f cs xs hlen hrel =>
    refine .fn f _ xs (by simpa using hlen) fun k a x ha hx=>?_
    simp only[xqr,xqb]at ha
    obtain⟨b,hb,rfl⟩:=ha
    exact(hrel k b x hb hx).ren0 hsh (xqz.1 hall b (xqp hb))
  ·cases ha;exact .dead _ (q2F _ _)
 ·have e:Lg.ren1 φ a=Lg.ren0 φ a:=by cases a<;>first|rfl|exact absurd ⟨_,_,rfl⟩ hf
  rw[e];exact ha.ren0 hsh hna
theorem qEr {a:AV} (h:a.one=true):(Lg.ren0 φ a).one=true:=by
 cases a with
 | fn f cs=>cases cs<;>rfl
 | ag cs=>simp[AV.one]at h
 | tu cs=>simp[AV.one]at h
 | un=>simp[AV.one]at h
 | t x=>exact h
 | dead=>rfl
 | ls i off len cap=>simp only[Lg.ren0];split<;>rfl
 | lp i j k=>simp only[Lg.ren0];split<;>rfl
 | lm i=>simp only[Lg.ren0];split<;>rfl
 | lb i m=>simp only[Lg.ren0];split<;>rfl
 | li i=>simp only[Lg.ren0];split<;>rfl
theorem qAL {a:AV} (h:a.one=true):(Lg.ren1 φ a).one=true:=by
 by_cases hf:∃ f cs,a=.fn f cs
 ·obtain⟨f,cs,rfl⟩:=hf
  simp only[Lg.ren1];split<;>rfl
 ·have e:Lg.ren1 φ a=Lg.ren0 φ a:=by cases a<;>first|rfl|exact absurd ⟨_,_,rfl⟩ hf
  rw[e];exact qEr h
theorem q6x {a:AV} (h:a.one=true):(A8 φ a).one=true:=by
 have e:A8 φ a=Lg.ren1 φ a:=by cases a<;>first|rfl|simp[AV.one]at h
 rw[e];exact qAL h
theorem qBc {a:AV} (h:Cf a=true):Cf (Lg.ren0 φ a)=true:=by
 cases a with
 | ag=>simp[Cf]at h
 | tu=>simp[Cf]at h
 | fn f cs=>cases cs<;>rfl
 | t|dead|un=>rfl
 | _=>simp only[Lg.ren0];split<;>rfl
theorem qBd {a:AV} (h:Cf a=true):Cf (Lg.ren1 φ a)=true:=by
 by_cases hf:∃ f cs,a=.fn f cs
 ·obtain⟨f,cs,rfl⟩:=hf
  simp only[Lg.ren1];split<;>rfl
 ·have e:Lg.ren1 φ a=Lg.ren0 φ a:=by cases a<;>first|rfl|exact absurd ⟨_,_,rfl⟩ hf
  rw[e];exact qBc h
theorem AR.ren (hsh:∀ i j q,φ i=some j->sh i=some q->sh' j=some q/\μ' j=μ i) {a:AV} {x:Value} (ha:AR w X μ sh a x):AR w X μ' sh' (A8 φ a) x:=by
 by_cases hg:Cf a=true
 ·have e:A8 φ a=Lg.ren1 φ a:=by cases a<;>first|rfl|simp[Cf]at hg
  rw[e];exact ha.ren1 hsh hg
 ·cases a with
  | ag cs =>
   obtain⟨xs,rfl,h1,hr⟩:=ha.ag_inv
   refine AR.mk_ag (xqz.2 fun b hb=>?_) ⟨by simpa using hr.1,fun k b y hb hy=>?_⟩
   ·obtain⟨c,hc,rfl⟩:=xqy.1 hb
    exact qAL (xqz.1 h1 c hc)
   ·simp only[xqr,xqb]at hb
    obtain⟨c,hc',rfl⟩:=hb
    exact(hr.2 k c y hc' hy).ren1 hsh (q2G (Re h1 hc'))
  | tu cs =>
   obtain⟨xs,rfl,h1,hr⟩:=ha.tu_inv
   refine AR.mk_tu (fun k b hb=>?_) ⟨by simpa using hr.1,fun k b y hb hy=>?_⟩
   ·simp only[xqr,xqb]at hb
    obtain⟨c,hc',rfl⟩:=hb
    exact qBd (h1 k c hc')
   ·simp only[xqr,xqb]at hb
    obtain⟨c,hc',rfl⟩:=hb
    exact(hr.2 k c y hc' hy).ren1 hsh (h1 k c hc')
  | _=>exact absurd rfl hg
theorem Ir.ren (hsh:∀ i j q,φ i=some j->sh i=some q->sh' j=some q/\μ' j=μ i) {as:List AV} {xs:List Value} (ha:Ir w X μ sh as xs):Ir w X μ' sh' (as.map (A8 φ)) xs :=
 ⟨by simpa using ha.1,fun k a x h hx=>by
  simp only[xqr,xqb]at h
  obtain⟨b,hb,rfl⟩:=h
  exact(ha.2 k b x hb hx).ren hsh⟩
theorem Dc.ren {id id':Nat} {r:Aw} (hsh:∀ i j q,φ i=some j->sh i=some q->sh' j=some q/\μ' j=μ i) (hid:μ' id'=μ id) (h:Dc w X μ sh id r):Dc w X μ' sh' id' (Au φ r):=by
 cases r with
 | sl ty s es =>
  refine⟨h.1,h.2.imp (fun⟨h1,h2⟩=>⟨h1,hid.trans h2⟩) fun⟨g,arr,hm,hr⟩=>⟨g,arr,hid.trans hm,hr⟩⟩
 | mp es=>obtain⟨g,n,clock,ms,hm,hr⟩:=h;exact⟨g,n,clock,ms,hid.trans hm,hr⟩
 | it s pos=>obtain⟨g,n,hm,hr⟩:=h;exact⟨g,n,hid.trans hm,hr⟩
 | rs ty s es=>exact Dc.rs_map (fun a=>A8 φ a) (fun _ q=>q6x q) (fun _ _ q=>q.ren hsh) hid (fun _ _ _=>rfl) h
 | mr es=>exact Dc.mr_map (fun a=>A8 φ a) (fun _ _ q=>q.ren hsh) hid (fun _ _ _=>rfl) h
 | bx cs =>
  obtain⟨h1,g,arr,ty,hm,hg,hle,hr⟩:=h
  refine⟨fun k a ha=>?_,g,arr,ty,hid.trans hm,hg,by simpa using hle,fun k a x ha hx=>?_⟩
  ·simp only[xqr,xqb]at ha
   obtain⟨b,hb,rfl⟩:=ha
   exact q6x (h1 k b hb)
  ·simp only[xqr,xqb]at ha
   obtain⟨b,hb,rfl⟩:=ha
   exact(hr k b x hb hx).ren hsh
def Bf (P:Program) (Γ:Tables) (f:FuncId) (hp:List (Nat×Aw)) (args:List AV) (res:AV) (hp':List (Nat×Aw)):Prop :=
 ∀ (w:World) (X:Nat->Prop) (κ:D7) (vs:List Value),Gl Γ w X->(∀ id,κ id≠none->A0 hp id≠none)->Sim w w.heap.size κ X κ ⟨[],hp⟩ #[] w->Ir w X κ (St.sh ⟨[],hp⟩) args vs ->
  Yj P f vs.toArray w fun v w'=>∃ X' μ',Sim w w.heap.size κ X' μ' ⟨[],hp'⟩ #[] w'/\AR w' X' μ' (St.sh ⟨[],hp'⟩) res v/\(∀ b,X b->X' b)/\(∀ b,X' b->X b\/w.heap.size<=b\/∃ id n,κ id=some (b,n))
theorem Bf.alike {f:FuncId} {hp hq:List (Nat×Aw)} {args:List AV} {res:AV} {hp':List (Nat×Aw)} (hl:∀ t,A0 hq t=A0 hp t) (h:Bf P Γ f hp args res hp'):Bf P Γ f hq args res hp':=by
 intro w X κ vs hg hk hs ha
 have e:St.sh ⟨[],hq⟩=St.sh ⟨[],hp⟩:=funext fun t=>by simp only[St.sh,hl]
 refine h w X κ vs hg (fun id hi=>by rw[<- hl];exact hk id hi) ?_ (by rw[<- e];exact ha)
 refine⟨fun t a ht=>by simp[A0]at ht,fun id r hr=>?_,?_,?_,?_,hs.kbig,hs.xlt,hs.os,hs.tape,hs.output,hs.size,hs.fr⟩
 ·rw[<- e];exact hs.reg id r (by show A0 hq id=_;rw[hl];exact hr)
 ·rw[<- e];exact hs.inj
 ·rw[<- e];exact hs.loc
 ·rw[<- e];exact hs.kap
def Qh (rs:List Nat) (i:Nat):Option Nat:=if rs.contains i then some (1000000+rs.idxOf i)else none
def Us (rs:List Nat) (base j:Nat):Nat:=if j<1000000 then base+j else rs.getD (j-1000000) 0
def Bv (rs:List Nat) (hp:List (Nat×Aw)):List (Nat×Aw):=rs.filterMap fun i=>(A0 hp i).map fun r=>(1000000+rs.idxOf i,Au (Qh rs) r)
def Jp (rs:List Nat) (base:Nat):List (Nat×Aw)->List (Nat×Aw)
 | []=>[]
 | (j,r)::l=>if j<1000000 then(base+j,Au (fun i=>some (Us rs base i)) r)::Jp rs base l else Jp rs base l
def N3 (rs:List Nat) (hp':List (Nat×Aw)) (i:Nat):Option Nat:=if rs.contains i&&(A0 hp' (1000000+rs.idxOf i)).isNone then none else some i
def q2g (rs:List Nat) (base:Nat) (hp':List (Nat×Aw)):List (Nat×Aw)->List (Nat×Aw)
 | []=>[]
 | (t,q)::l =>
  if rs.contains t then(match A0 hp' (1000000+rs.idxOf t) with
   | some r=>(t,Au (fun i=>some (Us rs base i)) r)::q2g rs base hp' l
   | none=>q2g rs base hp' l)
  else(t,Au (N3 rs hp') q)::q2g rs base hp' l
def Ea (rs:List Nat) (base:Nat) (hp':List (Nat×Aw)) (st:St):St:=⟨st.env.map fun p=>(p.1,A8 (N3 rs hp') p.2),Jp rs base hp'++q2g rs base hp' st.hp⟩
def Uk (rs:List Nat) (base:Nat) (hp:List (Nat×Aw)):List (Nat×Aw)->Prop
 | []=>True
 | (j,r)::l=>(if j<1000000 then A0 hp (base+j)=none/\base+j<1000000 else j-1000000<rs.length/\(A0 hp (rs.getD (j-1000000) 0)).map Aw.sh=some r.sh)/\Uk rs base hp l
theorem q42 {rs:List Nat} {base:Nat} {hp:List (Nat×Aw)}:∀ {hp':List (Nat×Aw)} {j:Nat} {r:Aw},Uk rs base hp hp'->A0 hp' j=some r ->
  if j<1000000 then A0 hp (base+j)=none/\base+j<1000000 else j-1000000<rs.length/\(A0 hp (rs.getD (j-1000000) 0)).map Aw.sh=some r.sh
 | [],j,r,_,h=>by simp[A0]at h
 | (k,q)::l,j,r,ho,h=>by
  simp only[A0]at h
  split at h
  ·rename_i e;subst e;simp only[xqa]at h;subst h;exact ho.1
  ·exact q42 ho.2 h
theorem Z2 {rs:List Nat} {base t:Nat}:∀ {hp':List (Nat×Aw)},A0 (Jp rs base hp') t=if base<=t/\t-base<1000000 then(A0 hp' (t-base)).map (Au fun i=>some (Us rs base i))else none
 | []=>by simp[Jp,A0]
 | (j,r)::l=>by
  have ih:=Z2 (rs:=rs) (base:=base) (t:=t) (hp':=l)
  simp only[Jp]
  split
  ·rename_i hj
   simp only[A0,ih]
   by_cases e:base+j=t
   ·have h1:base<=t/\t-base<1000000:=by omega
    have h2:j=t-base:=by omega
    simp[e,h1,h2]
   ·by_cases h1:base<=t/\t-base<1000000
    ·have h2:¬ j=t-base:=by omega
     simp[e,h1,h2]
    ·simp[e,h1]
  ·rename_i hj
   rw[ih]
   by_cases h1:base<=t/\t-base<1000000
   ·have h2:¬ j=t-base:=by omega
    simp[h1,A0,h2]
   ·simp[h1]
theorem Jn {rs:List Nat} {base t:Nat} {hp':List (Nat×Aw)}:∀ {hp:List (Nat×Aw)},A0 (q2g rs base hp' hp) t =
  if rs.contains t then(A0 hp t).bind fun _=>(A0 hp' (1000000+rs.idxOf t)).map (Au fun i=>some (Us rs base i)) else(A0 hp t).map (Au (N3 rs hp'))
 | []=>by simp[q2g,A0]
 | (k,q)::l=>by
  have ih:=Jn (rs:=rs) (base:=base) (t:=t) (hp':=hp') (hp:=l)
  simp only[q2g]
  by_cases e:k=t
  ·subst e
   by_cases hc:rs.contains k
   ·simp only[hc,↓reduceIte]at ih ⊢
    split
    ·rename_i r hr;simp[A0,hr]
    ·rename_i hr;rw[ih];simp[A0,hr]
   ·simp only[hc,xqn,↓reduceIte,A0,xql]
  ·by_cases hc:rs.contains k
   ·simp only[hc,↓reduceIte]
    split
    ·simp only[A0,e,↓reduceIte,ih]
    ·simp only[A0,e,↓reduceIte,ih]
   ·simp only[hc,xqn,↓reduceIte,A0,e,ih]
theorem Cb {α:Type} {a b:List (Nat×α)} {t:Nat}:A0 (a++b) t=(A0 a t).or (A0 b t):=by
 induction a with
 | nil=>simp[A0]
 | cons p a ih =>
  simp only[List.cons_append,A0]
  split
  ·simp
  ·exact ih
theorem q2J {rs:List Nat} {hp:List (Nat×Aw)} {j:Nat} {r:Aw} (h:A0 (Bv rs hp) j=some r):∃ i q,i∈rs/\A0 hp i=some q/\j=1000000+rs.idxOf i/\r=Au (Qh rs) q:=by
 have key:∀ l:List Nat,(∀ i∈l,i∈rs)->A0 (l.filterMap fun i=>(A0 hp i).map fun r=>(1000000+rs.idxOf i,Au (Qh rs) r)) j=some r->∃ i q,i∈rs/\A0 hp i=some q/\j=1000000+rs.idxOf i/\r=Au (Qh rs) q:=by
  intro l
  induction l with
  | nil=>intro _ h;simp[A0]at h
  | cons i l ih =>
   intro hm h
   rw[List.filterMap_cons]at h
   cases hq:A0 hp i with
   | none=>rw[hq]at h;exact ih (fun i hi=>hm i (xqf _ hi)) h
   | some q =>
    rw[hq]at h
    simp only[xql,A0]at h
    split at h
    ·rename_i e
     simp only[xqa]at h
     exact⟨i,q,hm i xqh,hq,e.symm,h.symm⟩
    ·exact ih (fun i hi=>hm i (xqf _ hi)) h
 exact key rs (fun _ h=>h) h
theorem q09 {rs:List Nat} {hp:List (Nat×Aw)} {i:Nat} {q:Aw} (hi:i∈rs) (hq:A0 hp i=some q):A0 (Bv rs hp) (1000000+rs.idxOf i)=some (Au (Qh rs) q):=by
 have key:∀ l:List Nat,i∈l->(∀ i∈l,i∈rs)->A0 (l.filterMap fun i=>(A0 hp i).map fun r=>(1000000+rs.idxOf i,Au (Qh rs) r)) (1000000+rs.idxOf i)=some (Au (Qh rs) q):=by
  intro l
  induction l with
  | nil=>intro h;cases h
  | cons k l ih =>
   intro h hm
   rw[List.filterMap_cons]
   by_cases e:k=i
   ·subst e;simp[hq,A0]
   ·have hne:rs.idxOf k≠rs.idxOf i:=by
     intro he
     have h1:=List.getElem_idxOf (List.idxOf_lt_length_of_mem (hm k xqh))
     have h2:=List.getElem_idxOf (List.idxOf_lt_length_of_mem hi)
     apply e
     rw[<- h1,<- h2]
     simp only[he]
    have ih':=ih (by rcases xqv.1 h with h|h;exact absurd h.symm e;exact h) (fun i hi=>hm i (xqf _ hi))
    cases A0 hp k with
    | none=>exact ih'
    | some r =>
     simp only[xql,A0]
     rw[if_neg (by omega)]
     exact ih'
 exact key rs hi (fun _ h=>h)
theorem q6y {rs:List Nat} {k:Nat} (h:k<rs.length):rs.getD k 0=rs[k]:=by simp[List.getD,h]
def Nh (μ:D7) (st:St) (rs:List Nat):D7:=fun j=>if 1000000<=j/\j-1000000<rs.length/\st.sh (rs.getD (j-1000000) 0)≠none then μ (rs.getD (j-1000000) 0)else none
theorem Gw {rs:List Nat} {j:Nat} {l:Nat×Nat} (h:Nh μ st rs j=some l):∃ t,t∈rs/\st.sh t≠none/\μ t=some l:=by
 unfold Nh at h
 split at h
 ·rename_i hc
  refine⟨_,?_,hc.2.2,h⟩
  simp[List.getD,hc.2.1]
 ·cases h
theorem Pm {rs:List Nat} {t:Nat} (ht:t∈rs) (hs:st.sh t≠none):Nh μ st rs (1000000+rs.idxOf t)=μ t:=by
 have hlt:=List.idxOf_lt_length_of_mem ht
 have e:rs.getD (rs.idxOf t) 0=t:=by simp[List.getD,hlt]
 unfold Nh
 have e2:1000000+rs.idxOf t-1000000=rs.idxOf t:=by omega
 rw[e2,e,if_pos ⟨by omega,hlt,hs⟩]
theorem q0A {rs:List Nat} {t:Nat} {q:Sh} (ht:t∈rs) (hs:st.sh t=some q):St.sh ⟨[],Bv rs st.hp⟩ (1000000+rs.idxOf t)=some q:=by
 simp only[St.sh,xqb]at hs ⊢
 obtain⟨r,hr,rfl⟩:=hs
 exact⟨_,q09 ht hr,Oi _⟩
theorem Xq {rs:List Nat} {j:Nat} (hs:St.sh ⟨[],Bv rs st.hp⟩ j≠none):∃ t,t∈rs/\j=1000000+rs.idxOf t/\st.sh t≠none:=by
 cases h:A0 (Bv rs st.hp) j with
 | none=>exact absurd (by simp[St.sh,h]) hs
 | some r =>
  obtain⟨i,q,h1,h2,h3,_⟩:=q2J h
  exact⟨i,h1,h3,by simp[St.sh,h2]⟩
theorem qGn {rs:List Nat} {a b:Nat} (ha:a∈rs) (hb:b∈rs) (h:rs.idxOf a=rs.idxOf b):a=b:=by
 have h1:=List.getElem_idxOf (List.idxOf_lt_length_of_mem ha)
 have h2:=List.getElem_idxOf (List.idxOf_lt_length_of_mem hb)
 rw[<- h1,<- h2]
 simp only[h]
theorem Sim.hand (h:Sim w0 B κ X μ st tm w) (rs:List Nat):Sim w w.heap.size (Nh μ st rs) X (Nh μ st rs) ⟨[],Bv rs st.hp⟩ #[] w:=by
 have hfw:∀ i j q,Qh rs i=some j->st.sh i=some q->St.sh ⟨[],Bv rs st.hp⟩ j=some q/\Nh μ st rs j=μ i:=by
  intro i j q hj hs
  unfold Qh at hj
  split at hj
  ·rename_i hc
   have hm:i∈rs:=by simpa using hc
   simp only[xqa]at hj;subst hj
   exact⟨q0A hm hs,Pm hm (by simp[hs])⟩
  ·cases hj
 refine⟨fun t a ht=>by simp[A0]at ht,?_,?_,?_,fun _ _ _=>rfl,?_,h.xlt,rfl,rfl,rfl,xzo _,fun _ _ _=>rfl⟩
 ·intro id r hr
  obtain⟨i,q,h1,h2,rfl,rfl⟩:=q2J hr
  exact(h.reg i q h2).ren hfw (Pm h1 (by simp[St.sh,h2]))
 ·intro a b g n n' ha hb hma hmb
  obtain⟨i,h1,rfl,h2⟩:=Xq ha
  obtain⟨j,h3,rfl,h4⟩:=Xq hb
  rw[Pm h1 h2]at hma
  rw[Pm h3 h4]at hmb
  rw[h.inj i j g n n' h2 h4 hma hmb]
 ·intro a g n ha hm
  obtain⟨i,h1,rfl,h2⟩:=Xq ha
  have hm':=hm
  rw[Pm h1 h2]at hm'
  obtain⟨h5,h6,_⟩:=h.loc i g n h2 hm'
  exact⟨h5,h6,fun _=>⟨_,_,hm⟩⟩
 ·intro j l hk
  unfold Nh at hk
  split at hk
  ·rename_i hc;exact hc.1
  ·cases hk
theorem q53 {rs:List Nat} {as:List AV} {xs:List Value} (h:Sim w0 B κ X μ st tm w) (ha:Ir w X μ st.sh as xs):Ir w X (Nh μ st rs) (St.sh ⟨[],Bv rs st.hp⟩) (as.map (A8 (Qh rs))) xs:=by
 refine ha.ren fun i j q hj hs=>?_
 unfold Qh at hj
 split at hj
 ·rename_i hc
  have hm:i∈rs:=by simpa using hc
  simp only[xqa]at hj;subst hj
  exact⟨q0A hm hs,Pm hm (by simp[hs])⟩
 ·cases hj
def Oj (μ μ':D7) (base:Nat) (hp':List (Nat×Aw)):D7:=fun t=>if base<=t/\t-base<1000000/\A0 hp' (t-base)≠none then μ' (t-base)else μ t
theorem Sim.back {rs:List Nat} {base:Nat} {hp':List (Nat×Aw)} (hnd:rs.Nodup) (h:Sim w0 B κ X μ st tm w) (h':Sim w w.heap.size (Nh μ st rs) X' μ' ⟨[],hp'⟩ #[] w') (hok:Uk rs base st.hp hp') (hX:∀ b,X b->X' b)
  (hX':∀ b,X' b->X b\/w.heap.size<=b\/∃ id n,Nh μ st rs id=some (b,n)) :
  Sim w0 B κ X' (Oj μ μ' base hp') (Ea rs base hp' st) tm w'/\Same X w w' /\
   ∀ i q,St.sh ⟨[],hp'⟩ i=some q->(Ea rs base hp' st).sh (Us rs base i)=some q/\Oj μ μ' base hp' (Us rs base i)=μ' i:=by
 have hsame:Same X w w':=by
  intro b hb
  refine h'.fr b (h.xlt b hb) fun id n hk=>?_
  obtain⟨t,_,h2,h3⟩:=Gw hk
  exact(h.loc t b n h2 h3).1 hb
 have hlook:∀ t,A0 (Ea rs base hp' st).hp t=((if base<=t/\t-base<1000000 then(A0 hp' (t-base)).map (Au fun i=>some (Us rs base i))else none).or
   (if rs.contains t then(A0 st.hp t).bind fun _=>(A0 hp' (1000000+rs.idxOf t)).map (Au fun i=>some (Us rs base i)) else(A0 st.hp t).map (Au (N3 rs hp')))):=fun t=>by
  simp only[Ea,Cb,Z2,Jn]
 have hnew:∀ t,base<=t/\t-base<1000000/\A0 hp' (t-base)≠none->A0 st.hp t=none/\t<1000000:=by
  intro t ⟨h1,h2,h3⟩
  cases hr:A0 hp' (t-base) with
  | none=>exact absurd hr h3
  | some r =>
   have:=q42 hok hr
   rw[if_pos h2]at this
   have e:base+(t-base)=t:=by omega
   rw[e]at this;exact this
 have hold:∀ j r,A0 hp' j=some r->¬ j<1000000->∃ t,t∈rs/\j=1000000+rs.idxOf t/\Us rs base j=t/\st.sh t=some r.sh:=by
  intro j r hr hj
  have:=q42 hok hr
  rw[if_neg hj]at this
  obtain⟨h1,h2⟩:=this
  have hg:rs.getD (j-1000000) 0=rs[j-1000000]:=by simp[List.getD,h1]
  refine⟨rs[j-1000000],xqj h1,?_,by simp only[Us,hj,↓reduceIte,hg],by rw[hg]at h2;exact h2⟩
  rw[hnd.idxOf_getElem];omega
 have hbwd:∀ i q,St.sh ⟨[],hp'⟩ i=some q->(Ea rs base hp' st).sh (Us rs base i)=some q/\Oj μ μ' base hp' (Us rs base i)=μ' i:=by
  intro i q hq
  simp only[St.sh,xqb]at hq
  obtain⟨r,hr,rfl⟩:=hq
  by_cases hi:i<1000000
  ·have e:base+i-base=i:=by omega
   have hb:Us rs base i=base+i:=by simp[Us,hi]
   rw[hb]
   constructor
   ·simp only[St.sh,hlook,e]
    rw[if_pos ⟨by omega,hi⟩]
    simp[hr,Oi]
   ·simp only[Oj,e]
    rw[if_pos ⟨by omega,hi,by simp[hr]⟩]
  ·obtain⟨t,ht,rfl,hb,hs⟩:=hold i r hr hi
   rw[hb]
   have hnn:¬ (base<=t/\t-base<1000000/\A0 hp' (t-base)≠none):=fun hc=>by
    have:=(hnew t hc).1
    simp[St.sh,this]at hs
   have hts:st.sh t≠none:=by simp[hs]
   have hz:(if base<=t/\t-base<1000000 then(A0 hp' (t-base)).map (Au fun i=>some (Us rs base i))else none)=none:=by
    split
    ·rename_i hc
     cases hl:A0 hp' (t-base) with
     | none=>rfl
     | some _=>exact absurd ⟨hc.1,hc.2,by simp[hl]⟩ hnn
    ·rfl
   constructor
   ·obtain⟨q0,hq0⟩:∃ q0,A0 st.hp t=some q0:=by
     cases hl:A0 st.hp t with
     | none=>simp[St.sh,hl]at hs
     | some q0=>exact⟨q0,rfl⟩
    have hct:rs.contains t=true:=by simpa using ht
    show(A0 (Ea rs base hp' st).hp t).map Aw.sh=_
    rw[hlook,hz]
    simp[ht,hq0,hr,Oi]
   ·simp only[Oj]
    rw[if_neg hnn,h'.kap _ (by omega) (by simp[St.sh,hr]),Pm ht hts]
 have hgone:∀ i j q,N3 rs hp' i=some j->st.sh i=some q->(Ea rs base hp' st).sh j=some q/\Oj μ μ' base hp' j=μ i:=by
  intro i j q hg hs
  unfold N3 at hg
  split at hg
  ·cases hg
  rename_i hc
  simp only[xqa]at hg;subst hg
  have his:A0 st.hp i≠none:=fun e=>by simp[St.sh,e]at hs
  have hnn:¬ (base<=i/\i-base<1000000/\A0 hp' (i-base)≠none):=fun hc=>his (hnew i hc).1
  have hz:(if base<=i/\i-base<1000000 then(A0 hp' (i-base)).map (Au fun i=>some (Us rs base i))else none)=none:=by
   split
   ·rename_i hc
    cases hl:A0 hp' (i-base) with
    | none=>rfl
    | some _=>exact absurd ⟨hc.1,hc.2,by simp[hl]⟩ hnn
   ·rfl
  refine⟨?_,by simp only[Oj];rw[if_neg hnn]⟩
  obtain⟨q0,hq0⟩:∃ q0,A0 st.hp i=some q0:=by
   cases hl:A0 st.hp i with
   | none=>exact absurd hl his
   | some q0=>exact⟨q0,rfl⟩
  have hq0s:q0.sh=q:=by simpa[St.sh,hq0]using hs
  by_cases hm:i∈rs
  ·have hct:rs.contains i=true:=by simpa using hm
   simp only[hct,Bool.true_and,xzm,Option.isNone_eq_false_iff,Option.isSome_iff_exists]at hc
   obtain⟨r,hr⟩:=hc
   obtain⟨t,ht,he,_,hs'⟩:=hold _ r hr (by omega)
   have:=qGn hm ht (by omega)
   subst this
   have hrs:r.sh=q:=by rw[hs]at hs';simpa using hs'.symm
   show(A0 (Ea rs base hp' st).hp i).map Aw.sh=_
   rw[hlook,hz]
   simp[hm,hq0,hr,Oi,hrs]
  ·show(A0 (Ea rs base hp' st).hp i).map Aw.sh=_
   rw[hlook,hz]
   simp[hm,hq0,Oi,hq0s]
 -- every region behind the call: a new one, one that came back, one that was not handed over
 have hcase:∀ t r,A0 (Ea rs base hp' st).hp t=some r->(∃ r',base<=t/\t-base<1000000/\A0 hp' (t-base)=some r'/\r=Au (fun i=>some (Us rs base i)) r'/\Oj μ μ' base hp' t=μ' (t-base)) \/
   (t∈rs/\st.sh t≠none/\Oj μ μ' base hp' t=μ t/\∃ r',A0 hp' (1000000+rs.idxOf t)=some r'/\r=Au (fun i=>some (Us rs base i)) r') \/
   (t∉rs/\Oj μ μ' base hp' t=μ t/\∃ q,A0 st.hp t=some q/\r=Au (N3 rs hp') q):=by
  intro t r hr
  rw[hlook]at hr
  by_cases hn:base<=t/\t-base<1000000/\A0 hp' (t-base)≠none
  ·obtain⟨r',hr'⟩:∃ r',A0 hp' (t-base)=some r':=by
    cases hl:A0 hp' (t-base) with
    | none=>exact absurd hl hn.2.2
    | some r'=>exact⟨r',rfl⟩
   rw[if_pos ⟨hn.1,hn.2.1⟩]at hr
   simp only[hr',xql,Option.some_or,xqa]at hr
   exact .inl ⟨r',hn.1,hn.2.1,hr',hr.symm,by simp only[Oj];rw[if_pos hn]⟩
  ·have hz:(if base<=t/\t-base<1000000 then(A0 hp' (t-base)).map (Au fun i=>some (Us rs base i))else none)=none:=by
    split
    ·rename_i hc
     cases hl:A0 hp' (t-base) with
     | none=>rfl
     | some _=>exact absurd ⟨hc.1,hc.2,by simp[hl]⟩ hn
    ·rfl
   have hbm:Oj μ μ' base hp' t=μ t:=by simp only[Oj];rw[if_neg hn]
   rw[hz]at hr
   simp only[Option.none_or]at hr
   by_cases hm:t∈rs
   ·have hct:rs.contains t=true:=by simpa using hm
    simp only[hct,↓reduceIte,xqk,xqb]at hr
    obtain⟨q,hq,r',hr',rfl⟩:=hr
    exact .inr (.inl ⟨hm,by simp[St.sh,hq],hbm,r',hr',rfl⟩)
   ·have hct:rs.contains t=false:=by simpa using hm
    simp only[hct,xqn,↓reduceIte,xqb]at hr
    obtain⟨q,hq,rfl⟩:=hr
    exact .inr (.inr ⟨hm,hbm,q,hq,rfl⟩)
 have hshc:∀ t,(Ea rs base hp' st).sh t≠none->(∃ r',base<=t/\t-base<1000000/\A0 hp' (t-base)=some r'/\Oj μ μ' base hp' t=μ' (t-base)) \/
   (t∈rs/\st.sh t≠none/\Oj μ μ' base hp' t=μ t/\A0 hp' (1000000+rs.idxOf t)≠none)\/(t∉rs/\st.sh t≠none/\Oj μ μ' base hp' t=μ t):=by
  intro t ht
  cases hl:A0 (Ea rs base hp' st).hp t with
  | none=>exact absurd (by simp[St.sh,hl]) ht
  | some r =>
   rcases hcase t r hl with⟨r',h1,h2,h3,_,h4⟩|⟨h1,h2,h3,r',h4,_⟩|⟨h1,h2,q,h3,_⟩
   ·exact .inl ⟨r',h1,h2,h3,h4⟩
   ·exact .inr (.inl ⟨h1,h2,h3,by simp[h4]⟩)
   ·exact .inr (.inr ⟨h1,by simp[St.sh,h3],h2⟩)
 have shp:∀ j r,A0 hp' j=some r->St.sh ⟨[],hp'⟩ j≠none:=fun j r hr=>by simp[St.sh,hr]
 have hmono:∀ {a:AV} {x:Value} {sh0:Nat->Option Sh} {μ0:D7},AR w X μ0 sh0 a x->AR w' X' μ0 sh0 a x:=fun ha=>ha.mono hsame hX (fun _ _ hq=>⟨hq,rfl⟩)
 refine⟨⟨?_,?_,?_,?_,?_,h.kbig,h'.xlt,h'.os.trans h.os,h'.tape.trans h.tape,h'.output.trans h.output,Nat.le_trans h.size h'.size,?_⟩,hsame,hbwd⟩
 ·intro t a ht
  have h1:A0 (st.env.map fun p=>(p.1,A8 (N3 rs hp') p.2)) t=(A0 st.env t).map (A8 (N3 rs hp')):=Dz _ _ _
  have ht':A0 (st.env.map fun p=>(p.1,A8 (N3 rs hp') p.2)) t=some a:=ht
  rw[h1,xqb]at ht'
  obtain⟨b,hb,rfl⟩:=ht'
  exact(hmono (h.env t b hb)).ren hgone
 ·intro t r hr
  rcases hcase t r hr with⟨r',h1,h2,h3,rfl,h4⟩|⟨h1,h2,h3,r',h4,rfl⟩|⟨h1,h2,q,h3,rfl⟩
  ·exact(h'.reg _ r' h3).ren (fun i j q hj hs=>by cases hj;exact hbwd i q hs) h4
  ·refine(h'.reg _ r' h4).ren (fun i j q hj hs=>by cases hj;exact hbwd i q hs) ?_
   rw[h3,h'.kap _ (by omega) (shp _ _ h4),Pm h1 h2]
  ·refine((h.reg t q h3).mono hsame hX (fun _ _ hq=>⟨hq,rfl⟩) rfl fun g n hm=>?_).ren hgone h2
   obtain⟨h5,h6,h7⟩:=h.loc t g n (by simp[St.sh,h3]) hm
   refine h'.fr g h6 fun id n' hk=>?_
   obtain⟨t',h8,h9,h10⟩:=Gw hk
   exact h1 (h.inj t t' g n n' (by simp[St.sh,h3]) h9 hm h10 ▸ h8)
 ·intro a b g n n' ha hb hma hmb
  -- an old one's block lies below; a new one's block, if below, was a handed region's that is N3
  have hno:∀ t u g n n' r',base<=t->t-base<1000000->A0 hp' (t-base)=some r'->μ' (t-base)=some (g,n)->st.sh u≠none->μ u=some (g,n')->(u∈rs->A0 hp' (1000000+rs.idxOf u)≠none)->False:=by
   intro t u g n n' r' h1 h2 h3 h4 h5 h6 h7
   obtain⟨_,h8,_⟩:=h.loc u g n' h5 h6
   obtain⟨id',n2,hk⟩:=(h'.loc (t-base) g n (shp _ _ h3) h4).2.2 h8
   obtain⟨t',h9,h10,h11⟩:=Gw hk
   have:=h.inj u t' g n' n2 h5 h10 h6 h11
   subst this
   have h12:=h7 h9
   have h13:St.sh ⟨[],hp'⟩ (1000000+rs.idxOf u)≠none:=by
    cases hl:A0 hp' (1000000+rs.idxOf u) with
    | none=>exact absurd hl h12
    | some r=>exact shp _ r hl
   have h14:μ' (1000000+rs.idxOf u)=some (g,n'):=by rw[h'.kap _ (by omega) h13,Pm h9 h5];exact h6
   have:=h'.inj (t-base) (1000000+rs.idxOf u) g n n' (shp _ _ h3) h13 h4 h14
   omega
  rcases hshc a ha with⟨r',h1,h2,h3,h4⟩|⟨h1,h2,h3,h4⟩|⟨h1,h2,h3⟩<;>rcases hshc b hb with⟨q',k1,k2,k3,k4⟩|⟨k1,k2,k3,k4⟩|⟨k1,k2,k3⟩
  ·rw[h4]at hma;rw[k4]at hmb
   have:=h'.inj (a-base) (b-base) g n n' (shp _ _ h3) (shp _ _ k3) hma hmb
   omega
  ·rw[h4]at hma;rw[k3]at hmb
   exact(hno a b g n n' r' h1 h2 h3 hma k2 hmb fun _=>k4).elim
  ·rw[h4]at hma;rw[k3]at hmb
   exact(hno a b g n n' r' h1 h2 h3 hma k2 hmb fun hc=>absurd hc k1).elim
  ·rw[h3]at hma;rw[k4]at hmb
   exact(hno b a g n' n q' k1 k2 k3 hmb h2 hma fun _=>h4).elim
  ·rw[h3]at hma;rw[k3]at hmb;exact h.inj a b g n n' h2 k2 hma hmb
  ·rw[h3]at hma;rw[k3]at hmb;exact h.inj a b g n n' h2 k2 hma hmb
  ·rw[h3]at hma;rw[k4]at hmb
   exact(hno b a g n' n q' k1 k2 k3 hmb h2 hma fun hc=>absurd hc h1).elim
  ·rw[h3]at hma;rw[k3]at hmb;exact h.inj a b g n n' h2 k2 hma hmb
  ·rw[h3]at hma;rw[k3]at hmb;exact h.inj a b g n n' h2 k2 hma hmb
 ·intro t g n ht hm
  rcases hshc t ht with⟨r',h1,h2,h3,h4⟩|⟨h1,h2,h3,h4⟩|⟨h1,h2,h3⟩
  ·rw[h4]at hm
   obtain⟨h5,h6,h7⟩:=h'.loc _ g n (shp _ _ h3) hm
   refine⟨h5,h6,fun hlt=>?_⟩
   obtain⟨id',n',hk⟩:=h7 (Nat.lt_of_lt_of_le hlt h.size)
   obtain⟨t',h8,h9,h10⟩:=Gw hk
   exact(h.loc t' g n' h9 h10).2.2 hlt
  ·rw[h3]at hm
   obtain⟨h5,h6,h7⟩:=h.loc t g n h2 hm
   have h13:St.sh ⟨[],hp'⟩ (1000000+rs.idxOf t)≠none:=by
    cases hl:A0 hp' (1000000+rs.idxOf t) with
    | none=>exact absurd hl h4
    | some r=>exact shp _ r hl
   have h14:μ' (1000000+rs.idxOf t)=some (g,n):=by rw[h'.kap _ (by omega) h13,Pm h1 h2];exact hm
   obtain⟨h8,h9,_⟩:=h'.loc _ g n h13 h14
   exact⟨h8,h9,h7⟩
  ·rw[h3]at hm
   obtain⟨h5,h6,h7⟩:=h.loc t g n h2 hm
   refine⟨fun hx=>?_,Nat.lt_of_lt_of_le h6 h'.size,h7⟩
   rcases hX' g hx with hx|hx|⟨id,n',hk⟩
   ·exact h5 hx
   ·omega
   ·obtain⟨t',h8,h9,h10⟩:=Gw hk
    exact h1 (h.inj t t' g n n' h2 h9 hm h10 ▸ h8)
 ·intro t hbig ht
  rcases hshc t ht with⟨r',h1,h2,h3,h4⟩|⟨h1,h2,h3,h4⟩|⟨h1,h2,h3⟩
  ·have:=(hnew t ⟨h1,h2,by simp[h3]⟩).2;omega
  ·rw[h3];exact h.kap t hbig h2
  ·rw[h3];exact h.kap t hbig h2
 ·intro k hk hn
  refine(h'.fr k (Nat.lt_of_lt_of_le hk h.size) fun id n hkk=>?_).trans (h.fr k hk hn)
  obtain⟨t',h8,h9,h10⟩:=Gw hkk
  obtain⟨id',n',hq⟩:=(h.loc t' k n h9 h10).2.2 hk
  exact hn id' n' hq
theorem Sim.news {base:Nat} {hp':List (Nat×Aw)} (h:Sim w0 B κ X μ st tm w) (h':Sim w w.heap.size (Nh μ st []) X' μ' ⟨[],hp'⟩ #[] w') (hok:Uk [] base st.hp hp') (hX:∀ b,X b->X' b)
  (hX':∀ b,X' b->X b\/w.heap.size<=b\/∃ id n,Nh μ st [] id=some (b,n)) :
  Sim w0 B κ X' (Oj μ μ' base hp') ⟨st.env,Jp [] base hp'++st.hp⟩ tm w'/\Same X w w' /\
   ∀ i q,St.sh ⟨[],hp'⟩ i=some q->St.sh ⟨st.env,Jp [] base hp'++st.hp⟩ (Us [] base i)=some q/\Oj μ μ' base hp' (Us [] base i)=μ' i:=by
 obtain⟨h2,hsame,hb⟩:=h.back List.nodup_nil h' hok hX hX'
 have hk0:∀ id,Nh μ st [] id=none:=fun id=>by
  unfold Nh
  rw[if_neg]
  rintro⟨_,hlt,_⟩
  simp at hlt
 have hall:∀ k,k<w.heap.size->w'.heap[k]? = w.heap[k]? := fun k hk=>h'.fr k hk fun id n e=>by rw[hk0]at e;cases e
 have hshE:(Ea [] base hp' st).sh=St.sh ⟨st.env,Jp [] base hp'++st.hp⟩:=by
  funext t
  simp only[St.sh,Ea,Cb,Jn]
  cases A0 (Jp [] base hp') t with
  | some q=>rfl
  | none =>
   simp only[Option.none_or]
   have:([]:List Nat).contains t=false:=rfl
   rw[this]
   simp only[xqn,if_false,Option.map_map]
   cases A0 st.hp t with
   | none=>rfl
   | some q=>simp[Oi]
 have hfree:∀ t,base<=t->t-base<1000000->A0 hp' (t-base)≠none->A0 st.hp t=none:=by
  intro t h1 h3 h4
  cases hr:A0 hp' (t-base) with
  | none=>exact absurd hr h4
  | some r =>
   have:=q42 hok hr
   rw[if_pos h3]at this
   have e:base+(t-base)=t:=by omega
   rw[e]at this;exact this.1
 have hold:∀ id q,st.sh id=some q->St.sh ⟨st.env,Jp [] base hp'++st.hp⟩ id=some q/\Oj μ μ' base hp' id=μ id:=by
  intro id q hq
  have hne:A0 st.hp id≠none:=fun e=>by simp[St.sh,e]at hq
  have hn:A0 (Jp [] base hp') id=none:=by
   rw[Z2]
   split
   ·rename_i hc
    cases hl:A0 hp' (id-base) with
    | none=>rfl
    | some r=>exact absurd (hfree id hc.1 hc.2 (by simp[hl])) hne
   ·rfl
  refine⟨?_,?_⟩
  ·simp only[St.sh,Cb,hn,Option.none_or];exact hq
  ·unfold Oj
   rw[if_neg]
   rintro⟨h1,h3,h4⟩
   exact hne (hfree id h1 h3 h4)
 refine⟨⟨fun t a ht=>(h.env t a ht).mono hsame hX hold,fun id r hr=>?_,?_,?_,?_,h2.kbig,h2.xlt,h2.os,h2.tape,h2.output,h2.size,h2.fr⟩,hsame,fun i q hq=>by rw[<- hshE];exact hb i q hq⟩
 ·simp only[Cb]at hr
  cases hn:A0 (Jp [] base hp') id with
  | some q =>
   rw[hn]at hr
   simp only[Option.some_or,xqa]at hr
   subst hr
   rw[<- hshE]
   exact h2.reg id q (by simp only[Ea,Cb,hn,Option.some_or])
  | none =>
   rw[hn,Option.none_or]at hr
   have hq:st.sh id=some r.sh:=by simp[St.sh,hr]
   refine(h.reg id r hr).mono hsame hX hold (hold id _ hq).2 fun g m hm=>hall g (h.loc id g m (by simp[hq]) hm).2.1
 ·rw[<- hshE];exact h2.inj
 ·rw[<- hshE];exact h2.loc
 ·rw[<- hshE];exact h2.kap
theorem Sim.looked {rs:List Nat} (hnd:rs.Nodup) (hsl:∀ i∈rs,∃ ty s es,A0 st.hp i=some (.sl ty s es)) (h:Sim w0 B κ X μ st tm w) (h':Sim w w.heap.size (Nh μ st rs) X' μ' ⟨[],Bv rs st.hp⟩ #[] w') (hX:∀ b,X b->X' b)
  (hX':∀ b,X' b->X b\/w.heap.size<=b\/∃ id n,Nh μ st rs id=some (b,n)) :
  Sim w0 B κ X' μ st tm w'/\Same X w w'/\∀ i q,St.sh ⟨[],Bv rs st.hp⟩ i=some q->st.sh (Us rs 0 i)=some q/\μ (Us rs 0 i)=μ' i:=by
 have hsame:Same X w w':=by
  intro b hb
  refine h'.fr b (h.xlt b hb) fun id n hk=>?_
  obtain⟨t,_,h2,h3⟩:=Gw hk
  exact(h.loc t b n h2 h3).1 hb
 have hshr:∀ t∈rs,∃ q,st.sh t=some q:=fun t ht=>by
  obtain⟨ty,s,es,hl⟩:=hsl t ht
  exact⟨_,by simp[St.sh,hl];rfl⟩
 have hat:∀ t∈rs,μ' (1000000+rs.idxOf t)=μ t:=fun t ht=>by
  obtain⟨q,hq⟩:=hshr t ht
  rw[h'.kap _ (by omega) (by rw[q0A ht hq];simp),Pm ht (by simp[hq])]
 have hxn:∀ t∈rs,∀ g n,μ t=some (g,n)->¬ X' g:=fun t ht g n hm=>by
  obtain⟨q,hq⟩:=hshr t ht
  exact(h'.loc (1000000+rs.idxOf t) g n (by rw[q0A ht hq];simp) (by rw[hat t ht];exact hm)).1
 refine⟨⟨fun t a ht=>(h.env t a ht).mono hsame hX fun _ _ hq=>⟨hq,rfl⟩,fun id r hr=>?_,h.inj,fun id g n hs hm=>?_,h.kap,h.kbig,h'.xlt,h'.os.trans h.os,h'.tape.trans h.tape,h'.output.trans h.output,Nat.le_trans h.size h'.size,fun k hk hn=>?_⟩,hsame,fun i q hq=>?_⟩
 ·by_cases hid:id∈rs
  ·obtain⟨ty,s,es,hl⟩:=hsl id hid
   rw[hl]at hr
   simp only[xqa]at hr
   subst hr
   have hh:=q09 (hp:=st.hp) hid hl
   have:=h'.reg _ _ hh
   simp only[Au,Dc,hat id hid]at this ⊢
   exact this
  ·have hq:st.sh id=some r.sh:=by simp[St.sh,hr]
   refine(h.reg id r hr).mono hsame hX (fun _ _ hq=>⟨hq,rfl⟩) rfl fun g m hm=>?_
   refine h'.fr g (h.loc id g m (by simp[hq]) hm).2.1 fun id' n hk=>?_
   obtain⟨t,ht,h2,h3⟩:=Gw hk
   have:=h.inj id t g m n (by simp[hq]) h2 hm h3
   subst this
   exact hid ht
 ·obtain⟨h1,h2,h3⟩:=h.loc id g n hs hm
  refine⟨fun hx=>?_,Nat.lt_of_lt_of_le h2 h'.size,h3⟩
  rcases hX' g hx with hx' | hx' | ⟨id',n',hk⟩
  ·exact h1 hx'
  ·omega
  ·obtain⟨t,ht,h4,h5⟩:=Gw hk
   exact hxn t ht g n' h5 hx
 ·rw[h'.fr k (Nat.lt_of_lt_of_le hk h.size) fun id n e=>?_]
  ·exact h.fr k hk hn
  ·obtain⟨t,ht,h4,h5⟩:=Gw e
   obtain⟨id',n',hq⟩:=(h.loc t k n h4 h5).2.2 hk
   exact hn id' n' hq
 ·obtain⟨t,ht,rfl,hs⟩:=Xq (by rw[hq];simp)
  obtain⟨q0,hq0⟩:=hshr t ht
  have hb:Us rs 0 (1000000+rs.idxOf t)=t:=by
   have hi:rs.idxOf t<rs.length:=List.idxOf_lt_length_iff.2 ht
   unfold Us
   rw[if_neg (by omega),Nat.add_sub_cancel_left,q6y hi,List.getElem_idxOf]
  rw[hb,hat t ht]
  have:=q0A ht hq0
  rw[hq]at this
  exact⟨by rw[hq0,this],rfl⟩
end
end Go.Lg
namespace Go.Lg
open Go
def q3N (P:Program) (Γ:Tables) (hp:List (Nat×Aw)) (f:FuncId) (as:List AV) (res:T):Prop :=
 (∃ ts,Ag (as.map toT)=some ts/\B9 P Γ f ts res)\/∃ ts,Ag (as.map (Aj hp 4))=some ts/\A7 P Γ f ts res
def q68:AV->Option (FuncId×List AV)
 | .t (.fn f cs)=>some (f,cs.map .t)
 | .fn f cs=>if f<1000000000 then some (f,cs)else none
 | _=>none
def q8j:AV->Option (FuncId×List AV)
 | .fn f cs=>if f<1000000000 then none else some (f-1000000000,cs)
 | _=>none
def Fg (P:Program) (Γ:Tables) (d:Nat) (io:Bt) (st:St) (r:AV) (st1:St):Prop :=
 match io with
 | .call f args=>∃ as res,Qi Γ st.env args=some as/\q3N P Γ st.hp f as res/\r=.t res/\st1=st
 | .callv x args=>∃ a f cs as res,ev Γ st.env x=some a/\q68 a=some (f,cs)/\Qi Γ st.env args=some as/\q3N P Γ st.hp f (as++cs) res/\r=.t res/\st1=st
 | .hcall f args rs base=>∃ as res hp',Qi Γ st.env args=some as/\rs.Nodup/\Bf P Γ f (Bv rs st.hp) (as.map (A8 (Qh rs))) res hp'/\Uk rs base st.hp hp'/\r=A8 (fun i=>some (Us rs base i)) res/\st1=Ea rs base hp' st
 | .hcallv x args rs base=>∃ a f cs as res hp',ev Γ st.env x=some a/\q68 a=some (f,cs)/\Qi Γ st.env args=some as/\rs.Nodup/\Bf P Γ f (Bv rs st.hp) ((as++cs).map (A8 (Qh rs))) res hp'/\Uk rs base st.hp hp'/\r=A8 (fun i=>some (Us rs base i)) res/\st1=Ea rs base hp' st
 | .hcallW f args base=>∃ rs as res hp',Qi Γ st.env args=some as/\rs.Nodup/\Bf P Γ f (Bv rs st.hp) (as.map (A8 (Qh rs))) res hp'/\Uk rs base st.hp hp'/\r=A8 (fun i=>some (Us rs base i)) res/\st1=Ea rs base hp' st
 | .hcallvW x args base=>∃ rs a f cs as res hp',ev Γ st.env x=some a/\q68 a=some (f,cs)/\Qi Γ st.env args=some as/\rs.Nodup/\Bf P Γ f (Bv rs st.hp) ((as++cs).map (A8 (Qh rs))) res hp'/\Uk rs base st.hp hp'/\r=A8 (fun i=>some (Us rs base i)) res/\st1=Ea rs base hp' st
 | .hcallB x args base=>∃ rs a f cs as res hp',ev Γ st.env x=some a/\q8j a=some (f,cs)/\Qi Γ st.env args=some as/\rs.Nodup/\Bf P Γ f (Bv rs st.hp) ((cs++as).map (A8 (Qh rs))) res hp'/\Uk rs base st.hp hp'/\r=A8 (fun i=>some (Us rs base i)) res/\st1=Ea rs base hp' st
 | .ncall f args base=>∃ as res hp',Qi Γ st.env args=some as/\Bf P Γ f [] (as.map (A8 (Qh []))) res hp'/\Uk [] base st.hp hp'/\r=A8 (fun i=>some (Us [] base i)) res/\st1=⟨st.env,Jp [] base hp'++st.hp⟩
 | .callT f args=>∃ as ts res,Qi Γ st.env args=some as/\Ag (as.map toT)=some ts/\(B9 P Γ f ts res\/A7 P Γ f ts res)/\r=.t res/\st1=st
 | .rcall f args rs=>∃ as res,Qi Γ st.env args=some as/\rs.Nodup/\(∀ i∈rs,∃ ty s es,A0 st.hp i=some (.sl ty s es))/\Bf P Γ f (Bv rs st.hp) (as.map (A8 (Qh rs))) res (Bv rs st.hp)/\r=A8 (fun i=>some (Us rs 0 i)) res/\st1=st
 | io=>∃ c,Ak Γ d io st=some (c,r,st1)/\c
def G7 (env:List (Nat×AV)):Option (Nat×Bool)->Option Bool
 | none=>some true
 | some (g,b)=>match A0 env g with
  | some (.t (.v (.bool p)))=>some (p==b)
  | some .un=>some false
  | _=>none
def Ei (P:Program) (Γ:Tables) (ro:RO) (st st2:St):Prop :=
 (G7 st.env ro.guard=some true/\∃ r st1,Fg P Γ ro.d ro.op st r st1/\st2=st1.put ro.dst r)\/(G7 st.env ro.guard=some false/\st2=st.put ro.dst .un)
def Kw (P:Program) (Γ:Tables):List RO->St->St->Prop
 | [],st,st2=>st2=st
 | ro::ros,st,st2=>∃ st1,Ei P Γ ro st st1/\Kw P Γ ros st1 st2
def q9c (P:Program) (N:Nat) (ops:List Oper) (ro:RO) (o:Oper):Bool :=
 decide (ro.dst=o.dst)&&Nc P ro.op o.op&&ro.op.opds.all Ai&&(match ro.dst with|some d=>decide (d<N)|none=>true)&&decide (ro.d<1000000) &&
 match ro.guard,o.guard with
 | none,none=>true
 | some (g,b),some (j,b')=>b==b' && decide ((ops[j]?).bind (·.dst)=some g)
 | _,_=>false
def Ut (Γ:Tables) (w0:World) (B:Nat) (κ:D7) (X0:Nat->Prop) (N:Nat) (st:St) (a:Act) (w:World):Prop :=
 ∃ X μ,Sim w0 B κ X μ st a.tmps w/\Gl Γ w X/\(∀ b,X0 b->X b)/\(∀ b,X b->X0 b\/B<=b\/∃ id n,κ id=some (b,n))/\a.tmps.size=N/\a.defers=[]
section
variable {P:Program} {Γ:Tables} {w0:World} {B:Nat} {κ:D7} {X0 X:Nat->Prop} {μ:D7} {st st1:St} {tm:Array Value} {w:World} {N:Nat} {a:Act} {o:Oper} {K:Act->World->Prop} {Q:Exit->Act->World->Prop}
theorem q6T {a:Act} (h:a.defers=[]):a=⟨a.tmps,[]⟩:=by cases a;simp at h;subst h;rfl
theorem q54 (h:Sim w0 B κ X μ st a.tmps w) (hsz:a.tmps.size=N) {d:Option Nat} (hd:∀ t,d=some t->t<N) {r:AV} {v:Value} (hv:AR w X μ st.sh r v):Sim w0 B κ X μ (st.put d r) (a.put d v).tmps w/\(a.put d v).tmps.size=N/\(a.put d v).defers=a.defers:=by
 cases d with
 | none=>exact⟨h,hsz,rfl⟩
 | some t =>
  refine⟨h.put (by rw[hsz];exact hd t rfl) hv,?_,rfl⟩
  simp[Act.put,hsz]
theorem q0B {hp:List (Nat×Aw)}:∀ {as:List AV} {xs:List Value} {ts:List T},Ir w X μ st.sh as xs->Ag (as.map toT)=some ts->Fp w X ts xs
 | [],xs,ts,h,ho=>by
  simp only[xq3,Ag,xqa]at ho
  subst ho;rw[h.nil_inv];exact Fp.nil _ _
 | c::cs,xs,ts,h,ho=>by
  obtain⟨x,ys,rfl,hx,hs⟩:=h.cons_inv
  simp only[xqm]at ho
  cases hc:toT c with
  | none=>rw[hc]at ho;simp[Ag]at ho
  | some t =>
   rw[hc]at ho
   simp only[Ag,xqb]at ho
   obtain⟨ts',ho',rfl⟩:=ho
   exact Fp.cons (q3J hx hc) (q0B (hp:=hp) hs ho')
theorem q8k {f:FuncId} {as:List AV} {xs:List Value} {res:T} (h:Sim w0 B κ X μ st tm w) (hg:Gl Γ w X) (has:Ir w X μ st.sh as xs) (hc:q3N P Γ st.hp f as res) :
  Yj P f xs.toArray w fun v w'=>RowKit.Below w.heap.size w w'/\TR w' (fun b=>X b\/(w.heap.size<=b/\b<w'.heap.size)) res v:=by
 rcases hc with⟨ts,hts,hp⟩|⟨ts,hts,hp⟩
 ·exact hp w X xs hg h.xlt (q0B (hp:=st.hp) has hts)
 ·have h1:=O5 has (fun c _ t x hc hf=>q6w h 4 hc hf) hts
  refine(hp w (fun b=>X b\/q9b st μ b) xs (hg.mono (fun _ _=>rfl) (fun _ hb=>.inl hb)) (fun b hb=>?_) h1).mono fun v w' ⟨hb,ht⟩=>⟨hb,ht.mono (fun _ _=>rfl) (fun _ hb=>.inr hb)⟩
  rcases hb with hb|⟨id,n,hi,hm⟩
  ·exact h.xlt b hb
  ·exact(h.loc id b n hi hm).2.1
theorem qBe {f:FuncId} {as:List AV} {ts:List T} {xs:List Value} {res:T} (h:Sim w0 B κ X μ st tm w) (hg:Gl Γ w X) (has:Ir w X μ st.sh as xs) (hts:Ag (as.map toT)=some ts) (hc:B9 P Γ f ts res\/A7 P Γ f ts res) :
  Yj P f xs.toArray w fun v w'=>RowKit.Below w.heap.size w w'/\TR w' (fun b=>X b\/(w.heap.size<=b/\b<w'.heap.size)) res v:=by
 rcases hc with hp|hp
 ·exact hp w X xs hg h.xlt (q0B (hp:=st.hp) has hts)
 ·exact(hp w X xs hg h.xlt (q0B (hp:=st.hp) has hts)).mono fun v w' ⟨hb,ht⟩=>⟨hb,ht.mono (fun _ _=>rfl) (fun _ hb=>.inr hb)⟩
theorem qBf {f:FuncId} {xs:List Value} {res:T} (hsim:Sim w0 B κ X μ st a.tmps w) (hg:Gl Γ w X) (h0:∀ b,X0 b->X b) (hbd:∀ b,X b->X0 b\/B<=b\/∃ id n,κ id=some (b,n)) (hsz:a.tmps.size=N) (hds:a.defers=[]) (hd:∀ t,o.dst=some t->t<N)
  (hrun:(execOp a.eval o).run P w=(callFunc f xs.toArray).run P w)
  (hr:Yj P f xs.toArray w fun v w'=>RowKit.Below w.heap.size w w'/\TR w' (fun b=>X b\/(w.heap.size<=b/\b<w'.heap.size)) res v)
  (hK:∀ a' w',Ut Γ w0 B κ X0 N (st.put o.dst (.t res)) a' w'->K a' w'):o.wp P a w K Q:=by
 have fin:∀ v w',RowKit.Below w.heap.size w w'->TR w' (fun b=>X b\/(w.heap.size<=b/\b<w'.heap.size)) res v->K (a.put o.dst v) w':=by
  intro v w' hb ht
  have hs2:=hsim.grow (X':=fun b=>X b\/(w.heap.size<=b/\b<w'.heap.size)) hb (fun _ hx=>.inl hx) (fun _ hx=>hx)
  obtain⟨h1,h2,h3⟩:=q54 hs2 hsz hd (AR.t _ _ ht)
  refine hK _ _ ⟨_,_,h1,hg.mono (fun b hx=>hb.block b (hsim.xlt b hx)) (fun _ hx=>.inl hx),fun b hx=>.inl (h0 b hx),fun b hx=>?_,h2,h3.trans hds⟩
  rcases hx with hx|hx
  ·exact hbd b hx
  ·exact .inr (.inl (Nat.le_trans hsim.size hx.1))
 unfold Oper.wp
 rcases hr with⟨hr1,hr2⟩|⟨v,hr1,hb,ht⟩
 ·rw[hrun,hr1,Oper.upon_enter]
  exact hr2.mono fun e w' ⟨v,he,hb,ht⟩=>by subst he;exact fin v w' hb ht
 ·rw[hrun,hr1,Oper.upon_value]
  exact fin v w hb ht
theorem We {f:FuncId} {as:List AV} {xs:List Value} {rs:List Nat} {base:Nat} {res:AV} {hp':List (Nat×Aw)} (hsim:Sim w0 B κ X μ st a.tmps w) (hg:Gl Γ w X) (h0:∀ b,X0 b->X b) (hbd:∀ b,X b->X0 b\/B<=b\/∃ id n,κ id=some (b,n)) (hsz:a.tmps.size=N) (hds:a.defers=[]) (hd:∀ t,o.dst=some t->t<N)
  (hars:Ir w X μ st.sh as xs) (hnd:rs.Nodup) (hcall:Bf P Γ f (Bv rs st.hp) (as.map (A8 (Qh rs))) res hp') (hokB:Uk rs base st.hp hp') (hrun:(execOp a.eval o).run P w=(callFunc f xs.toArray).run P w)
  (hK:∀ a' w',Ut Γ w0 B κ X0 N ((Ea rs base hp' st).put o.dst (A8 (fun i=>some (Us rs base i)) res)) a' w'->K a' w'):o.wp P a w K Q:=by
 have hr:=hcall w X (Nh μ st rs) xs hg (fun id hi=>by
  cases hk:Nh μ st rs id with
  | none=>exact absurd hk hi
  | some l =>
   unfold Nh at hk
   split at hk
   ·rename_i hc
    have e0:=q6y hc.2.1
    have hm:rs.getD (id-1000000) 0∈rs:=by rw[e0];exact xqj _
    have hidx:rs.idxOf (rs.getD (id-1000000) 0)=id-1000000:=by rw[e0,hnd.idxOf_getElem]
    obtain⟨q,hq⟩:∃ q,st.sh (rs.getD (id-1000000) 0)=some q:=by
     cases he:st.sh (rs.getD (id-1000000) 0) with
     | none=>exact absurd he hc.2.2
     | some q=>exact⟨q,rfl⟩
    have:=q0A hm hq
    rw[hidx]at this
    have e:1000000+(id-1000000)=id:=by have:=hc.1;omega
    rw[e]at this
    intro hn
    simp only[St.sh,hn,xzx,reduceCtorEq]at this
   ·cases hk) (hsim.hand rs) (q53 hsim hars)
 have fin:∀ v w',(∃ X' μ',Sim w w.heap.size (Nh μ st rs) X' μ' ⟨[],hp'⟩ #[] w'/\AR w' X' μ' (St.sh ⟨[],hp'⟩) res v/\(∀ b,X b->X' b)/\(∀ b,X' b->X b\/w.heap.size<=b\/∃ id n,Nh μ st rs id=some (b,n)))->K (a.put o.dst v) w':=by
  rintro v w' ⟨X',μ',hs',hav,hX,hX'⟩
  obtain⟨hs2,hsame,hbw⟩:=hsim.back hnd hs' hokB hX hX'
  obtain⟨h1,h2,h3⟩:=q54 hs2 hsz hd (hav.ren (φ:=fun i=>some (Us rs base i)) fun i j q hj hs=>by simp only[xqa]at hj;subst hj;exact hbw i q hs)
  refine hK _ _ ⟨X',_,h1,hg.mono hsame hX,fun b hb=>hX b (h0 b hb),fun b hb=>?_,h2,h3.trans hds⟩
  rcases hX' b hb with hb|hb|⟨id,n,hk⟩
  ·exact hbd b hb
  ·exact .inr (.inl (Nat.le_trans hsim.size hb))
  ·obtain⟨t',h8,h9,h10⟩:=Gw hk
   rcases Nat.lt_or_ge b B with hlt|hge
   ·obtain⟨id',n',hq⟩:=(hsim.loc t' b n h9 h10).2.2 hlt
    exact .inr (.inr ⟨id',n',hq⟩)
   ·exact .inr (.inl hge)
 unfold Oper.wp
 rcases hr with⟨hr1,hr2⟩|⟨v,hr1,hp⟩
 ·rw[hrun,hr1,Oper.upon_enter]
  exact hr2.mono fun e w' ⟨v,he,hp⟩=>by subst he;exact fin v w' hp
 ·rw[hrun,hr1,Oper.upon_value]
  exact fin v w hp
theorem qBg {av:AV} {f:FuncId} {cs:List AV} {v:Value} (hfn:q68 av=some (f,cs)) (harx:AR w X μ st.sh av v):∃ ys:List Value,v=.func (.func f) #[] ys.toArray/\Ir w X μ st.sh cs ys:=by
 unfold q68 at hfn
 split at hfn
 ·simp only[xqa,xqd]at hfn
  obtain⟨rfl,rfl⟩:=hfn
  cases harx.t_inv with
  | fn f cs xs hlen hrel=>exact⟨xs,rfl,Ir.ofT ⟨hlen,hrel⟩⟩
 ·split at hfn
  case isFalse=>cases hfn
  rename_i hlt
  simp only[xqa,xqd]at hfn
  obtain⟨rfl,rfl⟩:=hfn
  cases harx with
  | fn f cs xs hlen hrel=>exact⟨xs,q9V hlt,hlen,hrel⟩
 ·cases hfn
theorem qGo {av:AV} {f:FuncId} {cs:List AV} {v:Value} (hfn:q8j av=some (f,cs)) (harx:AR w X μ st.sh av v):∃ ys:List Value,v=.func (.func f) ys.toArray #[]/\Ir w X μ st.sh cs ys:=by
 unfold q8j at hfn
 split at hfn
 ·split at hfn
  case isTrue=>cases hfn
  rename_i hlt
  simp only[xqa,xqd]at hfn
  obtain⟨rfl,rfl⟩:=hfn
  cases harx with
  | fn f cs xs hlen hrel=>exact⟨xs,if_neg hlt,hlen,hrel⟩
 ·cases hfn
theorem q6z {f:FuncId} {args:List Operand} (hds:a.defers=[]) (hch:(match o.op with | .call c=>(match c.callee with | .value (.func f')=>f==f' && Oe args c.args.toList|_=>false)|_=>false)=true) :
  (execOp a.eval o).run P w=(callFunc f (args.map (Act.eval ⟨a.tmps,[]⟩)).toArray).run P w:=by
 have hae:a.eval=Act.eval ⟨a.tmps,[]⟩:=by rw[<- q6T hds]
 generalize hoo:o.op=op at hch
 split at hch
 case h_2=>cases hch
 split at hch
 case h_2=>cases hch
 rename_i c f' hcal
 simp only[xqc]at hch
 have hf:f=f':=by simpa using hch.1
 subst hf
 have:=Jc hch.2;subst this
 rw[hae]
 rw[<- Array.toList_map,xz5]
 simp[execOp,hoo,resolve,hcal,Deferred.ofValue,Act.eval,invoke]
theorem q8l {f:FuncId} {x:Operand} {args:List Operand} {ys:List Value} (hds:a.defers=[]) (hy:Act.eval ⟨a.tmps,[]⟩ x=.func (.func f) #[] ys.toArray) (hch:(match o.op with | .call c=>(match c.callee with | .value y=>Bq x y&&Oe args c.args.toList|_=>false)|_=>false)=true) :
  (execOp a.eval o).run P w=(callFunc f (args.map (Act.eval ⟨a.tmps,[]⟩)++ys).toArray).run P w:=by
 have hae:a.eval=Act.eval ⟨a.tmps,[]⟩:=by rw[<- q6T hds]
 generalize hoo:o.op=op at hch
 split at hch
 case h_2=>cases hch
 split at hch
 case h_2=>cases hch
 rename_i cc c y hcal
 simp only[xqc]at hch
 have:=Af hch.1;subst this
 have:=Jc hch.2;subst this
 rw[hae]
 rw[show(List.map (Act.eval ⟨a.tmps,[]⟩) cc.args.toList++ys).toArray=cc.args.map (Act.eval ⟨a.tmps,[]⟩)++ys.toArray from by simp]
 simp[execOp,hoo,resolve,hcal,Deferred.ofValue,hy,invoke]
theorem qBh {f:FuncId} {x:Operand} {args:List Operand} {ys:List Value} (hds:a.defers=[]) (hy:Act.eval ⟨a.tmps,[]⟩ x=.func (.func f) ys.toArray #[]) (hch:(match o.op with | .call c=>(match c.callee with | .value y=>Bq x y&&Oe args c.args.toList|_=>false)|_=>false)=true) :
  (execOp a.eval o).run P w=(callFunc f (ys++args.map (Act.eval ⟨a.tmps,[]⟩)).toArray).run P w:=by
 have hae:a.eval=Act.eval ⟨a.tmps,[]⟩:=by rw[<- q6T hds]
 generalize hoo:o.op=op at hch
 split at hch
 case h_2=>cases hch
 split at hch
 case h_2=>cases hch
 rename_i cc c y hcal
 simp only[xqc]at hch
 have:=Af hch.1;subst this
 have:=Jc hch.2;subst this
 rw[hae]
 rw[show(ys++List.map (Act.eval ⟨a.tmps,[]⟩) cc.args.toList).toArray=ys.toArray++cc.args.map (Act.eval ⟨a.tmps,[]⟩) from by simp]
 simp[execOp,hoo,resolve,hcal,Deferred.ofValue,hy,invoke]
theorem qBi {ro:RO} {ops:List Oper} {r:AV} (hI:Ut Γ w0 B κ X0 N st a w) (hN:N<=1000000) (hchk:q9c P N ops ro o=true) (hx:Fg P Γ ro.d ro.op st r st1) (hK:∀ a' w',Ut Γ w0 B κ X0 N (st1.put ro.dst r) a' w'->K a' w'):o.wp P a w K Q:=by
 obtain⟨X,μ,hsim,hg,h0,hbd,hsz,hds⟩:=hI
 simp only[q9c,xqc,xqu]at hchk
 obtain⟨⟨⟨⟨⟨hdst,hch⟩,hok⟩,hdn⟩,hd1⟩,_⟩:=hchk
 have hd:∀ t,o.dst=some t->t<N:=fun t ht=>by
  rw[<- hdst]at ht
  rw[ht]at hdn
  simpa using hdn
 have hae:a.eval=Act.eval ⟨a.tmps,[]⟩:=by rw[<- q6T hds]
 have plain:(∃ c,Ak Γ ro.d ro.op st=some (c,r,st1)/\c)->o.wp P a w K Q:=by
  rintro⟨c,hs,hc⟩
  obtain⟨nx,v,w',μ',X',hrun,hnx,hsim',har,hX,hsame,hX'⟩:=qDw (ds:=[]) hsim hg hch hok hd1 hs hc
  unfold Oper.wp
  rw[hae,hrun]
  obtain⟨h1,h2,h3⟩:=q54 hsim' hsz hd har
  have hfin:K (a.put o.dst v) w':=hK _ _ ⟨X',μ',by rw[hdst];exact h1,hg.mono hsame hX,fun b hb=>hX b (h0 b hb),fun b hb=>by
   rcases hX' b hb with hb|hb
   ·exact hbd b hb
   ·exact .inr hb,h2,h3.trans hds⟩
  rcases hnx with rfl|⟨rfl,rfl⟩
  ·exact hfin
  ·exact hfin
 have callee:∀ (f:FuncId) (xs:List Value) (res:T),(execOp a.eval o).run P w=(callFunc f xs.toArray).run P w->r=.t res->st1=st ->
   Yj P f xs.toArray w (fun v w'=>RowKit.Below w.heap.size w w'/\TR w' (fun b=>X b\/(w.heap.size<=b/\b<w'.heap.size)) res v)->o.wp P a w K Q:=by
  rintro f xs res hrun rfl rfl hr
  exact qBf hsim hg h0 hbd hsz hds hd hrun hr (by rw[<- hdst];exact hK)
 cases hop:ro.op with
 | hcall f args rs base =>
  rw[hop]at hx hch hok
  obtain⟨as,res,hp',has,hnd,hcall,hokB,rfl,rfl⟩:=hx
  exact We hsim hg h0 hbd hsz hds hd (I5 (ds:=[]) hsim hg has (by simpa[Bt.opds]using hok)) hnd hcall hokB (q6z hds (by simp only[Nc]at hch;exact hch)) (by rw[<- hdst];exact hK)
 | hcallW f args base =>
  rw[hop]at hx hch hok
  obtain⟨rs,as,res,hp',has,hnd,hcall,hokB,rfl,rfl⟩:=hx
  exact We hsim hg h0 hbd hsz hds hd (I5 (ds:=[]) hsim hg has (by simpa[Bt.opds]using hok)) hnd hcall hokB (q6z hds (by simp only[Nc]at hch;exact hch)) (by rw[<- hdst];exact hK)
 | hcallv x args rs base =>
  rw[hop]at hx hch hok
  obtain⟨av,f,cs,as,res,hp',hxv,hfn,has,hnd,hcall,hokB,rfl,rfl⟩:=hx
  simp only[Bt.opds,List.all_cons,xqc]at hok
  obtain⟨ys,hy,hys⟩:=qBg hfn (Az (ds:=[]) hsim hg hxv hok.1)
  exact We hsim hg h0 hbd hsz hds hd ((I5 (ds:=[]) hsim hg has hok.2).append hys) hnd hcall hokB (q8l hds hy (by simp only[Nc]at hch;exact hch)) (by rw[<- hdst];exact hK)
 | hcallvW x args base =>
  rw[hop]at hx hch hok
  obtain⟨rs,av,f,cs,as,res,hp',hxv,hfn,has,hnd,hcall,hokB,rfl,rfl⟩:=hx
  simp only[Bt.opds,List.all_cons,xqc]at hok
  obtain⟨ys,hy,hys⟩:=qBg hfn (Az (ds:=[]) hsim hg hxv hok.1)
  exact We hsim hg h0 hbd hsz hds hd ((I5 (ds:=[]) hsim hg has hok.2).append hys) hnd hcall hokB (q8l hds hy (by simp only[Nc]at hch;exact hch)) (by rw[<- hdst];exact hK)
 | hcallB x args base =>
  rw[hop]at hx hch hok
  obtain⟨rs,av,f,cs,as,res,hp',hxv,hfn,has,hnd,hcall,hokB,rfl,rfl⟩:=hx
  simp only[Bt.opds,List.all_cons,xqc]at hok
  obtain⟨ys,hy,hys⟩:=qGo hfn (Az (ds:=[]) hsim hg hxv hok.1)
  exact We hsim hg h0 hbd hsz hds hd (hys.append (I5 (ds:=[]) hsim hg has hok.2)) hnd hcall hokB (qBh hds hy (by simp only[Nc]at hch;exact hch)) (by rw[<- hdst];exact hK)
 | ncall f args base =>
  rw[hop]at hx hch hok
  obtain⟨as,res,hp',has,hcall,hokB,rfl,rfl⟩:=hx
  have hars:=I5 (ds:=[]) hsim hg has (by simpa[Bt.opds]using hok)
  have hrun:(execOp a.eval o).run P w=(callFunc f (args.map (Act.eval ⟨a.tmps,[]⟩)).toArray).run P w:=by
   generalize hoo:o.op=op at hch
   simp only[Nc]at hch
   split at hch
   case h_2=>cases hch
   split at hch
   case h_2=>cases hch
   rename_i c f' hcal
   simp only[xqc]at hch
   have hf:f=f':=by simpa using hch.1
   subst hf
   have:=Jc hch.2;subst this
   rw[hae]
   rw[<- Array.toList_map,xz5]
   simp[execOp,hoo,resolve,hcal,Deferred.ofValue,Act.eval,invoke]
  have hk0:∀ id,Nh μ st [] id=none:=fun id=>by
   unfold Nh
   rw[if_neg]
   rintro⟨_,hlt,_⟩
   simp at hlt
  have hr:=hcall w X (Nh μ st []) (args.map (Act.eval ⟨a.tmps,[]⟩)) hg (fun id hi=>absurd (hk0 id) hi) (hsim.hand []) (q53 hsim hars)
  have fin:∀ v w',(∃ X' μ',Sim w w.heap.size (Nh μ st []) X' μ' ⟨[],hp'⟩ #[] w'/\AR w' X' μ' (St.sh ⟨[],hp'⟩) res v/\(∀ b,X b->X' b)/\(∀ b,X' b->X b\/w.heap.size<=b\/∃ id n,Nh μ st [] id=some (b,n)))->K (a.put o.dst v) w':=by
   rintro v w' ⟨X',μ',hs',hav,hX,hX'⟩
   obtain⟨hs2,hsame,hbw⟩:=hsim.news hs' hokB hX hX'
   obtain⟨h1,h2,h3⟩:=q54 hs2 hsz hd (hav.ren (φ:=fun i=>some (Us [] base i)) fun i j q hj hs=>by simp only[xqa]at hj;subst hj;exact hbw i q hs)
   refine hK _ _ ⟨X',_,by rw[hdst];exact h1,hg.mono hsame hX,fun b hb=>hX b (h0 b hb),fun b hb=>?_,h2,h3.trans hds⟩
   rcases hX' b hb with hb|hb|⟨id,n,hk⟩
   ·exact hbd b hb
   ·exact .inr (.inl (Nat.le_trans hsim.size hb))
   ·rw[hk0]at hk;cases hk
  unfold Oper.wp
  rcases hr with⟨hr1,hr2⟩|⟨v,hr1,hp⟩
  ·rw[hrun,hr1,Oper.upon_enter]
   exact hr2.mono fun e w' ⟨v,he,hp⟩=>by subst he;exact fin v w' hp
  ·rw[hrun,hr1,Oper.upon_value]
   exact fin v w hp
 | rcall f args rs =>
  rw[hop]at hx hch hok
  obtain⟨as,res,has,hnd,hsl,hcall,rfl,hst⟩:=hx
  have hst:=hst.symm
  subst hst
  have hars:=I5 (ds:=[]) hsim hg has (by simpa[Bt.opds]using hok)
  have hrun:(execOp a.eval o).run P w=(callFunc f (args.map (Act.eval ⟨a.tmps,[]⟩)).toArray).run P w:=by
   generalize hoo:o.op=op at hch
   simp only[Nc]at hch
   split at hch
   case h_2=>cases hch
   split at hch
   case h_2=>cases hch
   rename_i c f' hcal
   simp only[xqc]at hch
   have hf:f=f':=by simpa using hch.1
   subst hf
   have:=Jc hch.2;subst this
   rw[hae]
   rw[<- Array.toList_map,xz5]
   simp[execOp,hoo,resolve,hcal,Deferred.ofValue,Act.eval,invoke]
  have hr:=hcall w X (Nh μ st rs) (args.map (Act.eval ⟨a.tmps,[]⟩)) hg (fun id hi=>by
   cases hk:Nh μ st rs id with
   | none=>exact absurd hk hi
   | some l =>
    unfold Nh at hk
    split at hk
    ·rename_i hc
     have e0:=q6y hc.2.1
     have hm:rs.getD (id-1000000) 0∈rs:=by rw[e0];exact xqj _
     have hidx:rs.idxOf (rs.getD (id-1000000) 0)=id-1000000:=by rw[e0,hnd.idxOf_getElem]
     obtain⟨q,hq⟩:∃ q,st.sh (rs.getD (id-1000000) 0)=some q:=by
      cases he:st.sh (rs.getD (id-1000000) 0) with
      | none=>exact absurd he hc.2.2
      | some q=>exact⟨q,rfl⟩
     have:=q0A hm hq
     rw[hidx]at this
     have e:1000000+(id-1000000)=id:=by have:=hc.1;omega
     rw[e]at this
     intro hn
     simp only[St.sh,hn,xzx,reduceCtorEq]at this
    ·cases hk) (hsim.hand rs) (q53 hsim hars)
  have fin:∀ v w',(∃ X' μ',Sim w w.heap.size (Nh μ st rs) X' μ' ⟨[],Bv rs st.hp⟩ #[] w'/\AR w' X' μ' (St.sh ⟨[],Bv rs st.hp⟩) res v/\(∀ b,X b->X' b)/\(∀ b,X' b->X b\/w.heap.size<=b\/∃ id n,Nh μ st rs id=some (b,n)))->K (a.put o.dst v) w':=by
   rintro v w' ⟨X',μ',hs',hav,hX,hX'⟩
   obtain⟨hs2,hsame,hbw⟩:=hsim.looked hnd hsl hs' hX hX'
   obtain⟨h1,h2,h3⟩:=q54 hs2 hsz hd (hav.ren (φ:=fun i=>some (Us rs 0 i)) fun i j q hj hs=>by simp only[xqa]at hj;subst hj;exact hbw i q hs)
   refine hK _ _ ⟨X',_,by rw[hdst];exact h1,hg.mono hsame hX,fun b hb=>hX b (h0 b hb),fun b hb=>?_,h2,h3.trans hds⟩
   rcases hX' b hb with hb|hb|⟨id,n,hk⟩
   ·exact hbd b hb
   ·exact .inr (.inl (Nat.le_trans hsim.size hb))
   ·obtain⟨t',h8,h9,h10⟩:=Gw hk
    rcases Nat.lt_or_ge b B with hlt|hge
    ·obtain⟨id',n',hq⟩:=(hsim.loc t' b n h9 h10).2.2 hlt
     exact .inr (.inr ⟨id',n',hq⟩)
    ·exact .inr (.inl hge)
  unfold Oper.wp
  rcases hr with⟨hr1,hr2⟩|⟨v,hr1,hp⟩
  ·rw[hrun,hr1,Oper.upon_enter]
   exact hr2.mono fun e w' ⟨v,he,hp⟩=>by subst he;exact fin v w' hp
  ·rw[hrun,hr1,Oper.upon_value]
   exact fin v w hp
 | callT f args =>
  rw[hop]at hx hch hok
  obtain⟨as,ts,res,has,hts,hcall,hr,hst⟩:=hx
  have hars:=I5 (ds:=[]) hsim hg has (by simpa[Bt.opds]using hok)
  refine callee f (args.map (Act.eval ⟨a.tmps,[]⟩)) res ?_ hr hst (qBe hsim hg hars hts hcall)
  generalize hoo:o.op=op at hch
  simp only[Nc]at hch
  split at hch
  case h_2=>cases hch
  split at hch
  case h_2=>cases hch
  rename_i c f' hcal
  simp only[xqc]at hch
  have hf:f=f':=by simpa using hch.1
  subst hf
  have:=Jc hch.2;subst this
  rw[hae]
  rw[<- Array.toList_map,xz5]
  simp[execOp,hoo,resolve,hcal,Deferred.ofValue,Act.eval,invoke]
 | call f args =>
  rw[hop]at hx hch hok
  obtain⟨as,res,has,hcall,hr,hst⟩:=hx
  have hars:=I5 (ds:=[]) hsim hg has (by simpa[Bt.opds]using hok)
  refine callee f (args.map (Act.eval ⟨a.tmps,[]⟩)) res ?_ hr hst (q8k hsim hg hars hcall)
  generalize hoo:o.op=op at hch
  simp only[Nc]at hch
  split at hch
  case h_2=>cases hch
  split at hch
  case h_2=>cases hch
  rename_i c f' hcal
  simp only[xqc]at hch
  have hf:f=f':=by simpa using hch.1
  subst hf
  have:=Jc hch.2;subst this
  rw[hae]
  rw[<- Array.toList_map,xz5]
  simp[execOp,hoo,resolve,hcal,Deferred.ofValue,Act.eval,invoke]
 | callv x args =>
  rw[hop]at hx hch hok
  obtain⟨av,f,cs,as,res,hxv,hfn,has,hcall,hr,hst⟩:=hx
  simp only[Bt.opds,List.all_cons,xqc]at hok
  have hars:=I5 (ds:=[]) hsim hg has hok.2
  have harx:=Az (ds:=[]) hsim hg hxv hok.1
  have hfv:=qBg hfn harx
  obtain⟨ys,hy,hys⟩:=hfv
  refine callee f (args.map (Act.eval ⟨a.tmps,[]⟩)++ys) res ?_ hr hst (q8k hsim hg (hars.append hys) hcall)
  generalize hoo:o.op=op at hch
  simp only[Nc]at hch
  split at hch
  case h_2=>cases hch
  split at hch
  case h_2=>cases hch
  rename_i cc c y hcal
  simp only[xqc]at hch
  have:=Af hch.1;subst this
  have:=Jc hch.2;subst this
  rw[hae]
  rw[show(List.map (Act.eval ⟨a.tmps,[]⟩) cc.args.toList++ys).toArray=cc.args.map (Act.eval ⟨a.tmps,[]⟩)++ys.toArray from by simp]
  simp[execOp,hoo,resolve,hcal,Deferred.ofValue,hy,invoke]
 | _=>exact plain (by simpa only[Fg,hop]using hx)
theorem qGp {tm:Array Value} {g:Nat} {p:Bool} (h:tm.getD g undef=.bool p):tm[g]? = some (.bool p):=by
 rw[Array.getD_eq_getD_getElem?]at h
 cases hg:tm[g]? with
 | none=>rw[hg]at h;simp[undef]at h
 | some v=>rw[hg]at h;simp at h;rw[h]
theorem qCk {ops:List Oper} {ro:RO} {q:Bool} (hsim:Sim w0 B κ X μ st a.tmps w) (hchk:q9c P N ops ro o=true) (hw:G7 st.env ro.guard=some q):Region.wanted o (yielded ops.toArray a.tmps)=q:=by
 simp only[q9c,xqc]at hchk
 have hgd:=hchk.2
 cases hr:ro.guard with
 | none =>
  rw[hr]at hw hgd
  simp only[G7,xqa]at hw;subst hw
  cases ho:o.guard with
  | none=>simp[Region.wanted,ho]
  | some x=>rw[ho]at hgd;cases hgd
 | some gb =>
  obtain⟨g,b⟩:=gb
  rw[hr]at hw hgd
  cases ho:o.guard with
  | none=>rw[ho]at hgd;cases hgd
  | some jb =>
   obtain⟨j,b'⟩:=jb
   rw[ho]at hgd
   simp only[xqc,xqu]at hgd
   obtain⟨hb,hj⟩:=hgd
   have hb:b=b':=by simpa using hb
   subst hb
   have hy:yielded ops.toArray a.tmps j=match a.tmps[g]? with|some (.bool b)=>some b|_=>none:=by
    simp only[yielded,List.getElem?_toArray,hj,xqs]
    rfl
   simp only[G7]at hw
   split at hw
   ·rename_i p hl
    simp only[xqa]at hw;subst hw
    have hv:=(hsim.env g _ hl).t_inv.v_inv
    have hv:a.tmps.getD g undef=.bool p:=hv
    simp only[Region.wanted,ho,hy,qGp hv]
    cases p<;>cases b<;>rfl
   ·rename_i hl
    simp only[xqa]at hw;subst hw
    have hu:=hsim.env g _ hl
    have hv:a.tmps.getD g undef=undef:=by
     generalize a.tmps.getD g undef=v at hu
     cases hu;rfl
    have:(match a.tmps[g]? with|some (.bool b)=>some b|_=>none)=(none:Option Bool):=by
     rw[Array.getD_eq_getD_getElem?]at hv
     cases hg:a.tmps[g]? with
     | none=>rfl
     | some v=>rw[hg]at hv;simp[undef]at hv;subst hv;rfl
    simp only[Region.wanted,ho,hy,this]
    cases b<;>rfl
   ·cases hw
theorem q3O {ro:RO} {ops:List Oper} {st2:St} (hI:Ut Γ w0 B κ X0 N st a w) (hN:N<=1000000) (hchk:q9c P N ops ro o=true) (hx:Ei P Γ ro st st2) (hK:∀ a' w',Ut Γ w0 B κ X0 N st2 a' w'->K a' w') :
  if Region.wanted o (yielded ops.toArray a.tmps)then o.wp P a w K Q\/(o.asks P a w/\LetsOut Q)else K (a.put o.dst undef) w:=by
 obtain⟨X,μ,hsim,hrest⟩:=id hI
 rcases hx with⟨hw,r,st1,hex,rfl⟩|⟨hw,rfl⟩
 ·rw[qCk hsim hchk hw,if_pos rfl]
  exact .inl (qBi hI hN hchk hex hK)
 ·rw[qCk hsim hchk hw,if_neg (by simp)]
  obtain⟨hg,h0,hbd,hsz,hds⟩:=hrest
  simp only[q9c,xqc,xqu]at hchk
  obtain⟨⟨⟨⟨⟨hdst,hch⟩,hok⟩,hdn⟩,_⟩,_⟩:=hchk
  have hd:∀ t,ro.dst=some t->t<N:=fun t ht=>by rw[ht]at hdn;simpa using hdn
  obtain⟨h1,h2,h3⟩:=q54 hsim hsz hd AR.un
  rw[<- hdst]
  exact hK _ _ ⟨X,μ,h1,hg,h0,hbd,h2,h3.trans hds⟩
def Uu (P:Program) (N:Nat) (ops:List Oper):List RO->List Oper->Bool
 | [],[]=>true
 | ro::ros,o::os=>q9c P N ops ro o&&Uu P N ops ros os
 | _,_=>false
theorem q5j {ops:List Oper} (hN:N<=1000000):∀ {ros:List RO} {os:List Oper} {st st2:St} {a:Act} {w:World},Ut Γ w0 B κ X0 N st a w->Uu P N ops ros os=true->Kw P Γ ros st st2->(∀ a' w',Ut Γ w0 B κ X0 N st2 a' w'->Q .normal a' w')->wpList P ops.toArray Q os a w
 | [],[],st,st2,a,w,hI,hc,hs,hQ=>by
  simp only[Kw]at hs;subst hs
  exact hQ a w hI
 | [],_::_,_,_,_,_,_,hc,_,_=>by simp[Uu]at hc
 | _::_,[],_,_,_,_,_,hc,_,_=>by simp[Uu]at hc
 | ro::ros,o::os,st,st2,a,w,hI,hc,hs,hQ=>by
  simp only[Uu,xqc]at hc
  obtain⟨st1,h1,h2⟩:=hs
  unfold wpList
  exact q3O hI hN hc.1 h1 (fun a' w' hI'=>q5j hN hI' hc.2 h2 hQ)
end
end Go.Lg
namespace Go.Lg
open Go
def Bt.kd:Bt->Nat
 | .alloc fz _ | .box fz _ | .bsl fz _ _ _=>if fz then 0 else 2
 | .app _ _ _ _ _ | .appR _ _ _ _ _ | .hcall _ _ _ _ | .hcallv _ _ _ _ | .hcallW _ _ _ | .hcallvW _ _ _ | .hcallB _ _ _=>3
 | .cpy _ _ _ | .ncall _ _ _ | .mk _ _ _ _ _ | .mkE _ _ _ _ _ | .mkB _ _ _ _ | .appZ _ _ _ _ _ | .appN _ _ _ | .mkmap | .rng _ | .nxt _ | .store _ _ _ | .stR _ _ _ _ | .mup _ _ _ _ | .mupA _ _ _ _ | .mdel _ _ _=>2
 | .load _ _ _ | .ldR _ _ _ _ | .bytesStr _ | .len _ _ | .iadr _ _ _ | .slice _ _ _ _ _ | .appT _ _ _ _ | .appB _ _ | .lkup _ _ _ _ _ | .lkupA _ _ _ _ | .mvP _ | .nckP _ | .fadP _ _ | .ldP _ _ | .call _ _ | .callv _ _ | .rcall _ _ _=>1
 | _=>0
section
variable {P:Program} {Γ:Tables} {d:Nat} {io:Bt} {e e':List (Nat×AV)} {h h':List (Nat×Aw)} {c:Prop} {r:AV} {s st st1:St}
theorem Gx:∀ {xs:List Operand},(∀ o∈xs,ev Γ e' o=ev Γ e o)->Qi Γ e' xs=Qi Γ e xs
 | [],_=>rfl
 | x::xs,hx=>by
  have h1:=Gx (xs:=xs) (fun o ho=>hx o (xqf _ ho))
  unfold Qi at h1 ⊢
  simp only[xqm,hx x xqh]
  cases ev Γ e x<;>simp[Ag,h1]
theorem q3P {o:Option Operand} {n:Nat} (hx:∀ x∈o.toList,ev Γ e' x=ev Γ e x):Jb Γ e' o n=Jb Γ e o n:=by
 cases o with
 | none=>rfl
 | some x=>simp only[Jb,hx x (by simp)]
theorem q6U (hk:io.kd<=2) (hx:∀ o∈io.opds,ev Γ e' o=ev Γ e o):Ak Γ d io ⟨e',h⟩=(Ak Γ d io ⟨e,h⟩).map fun q=>(q.1,q.2.1,⟨e',q.2.2.hp⟩):=by
 cases io
 case app=>simp[Bt.kd]at hk
 case appR=>simp[Bt.kd]at hk
 case hcall=>simp[Bt.kd]at hk
 case hcallv=>simp[Bt.kd]at hk
 case hcallW=>simp[Bt.kd]at hk
 case hcallvW=>simp[Bt.kd]at hk
 case hcallB=>simp[Bt.kd]at hk
 case call=>simp[Ak]
 case callv=>simp[Ak]
 case slice s0 x lo hi mx =>
  have h1:=hx x (by simp[Bt.opds])
  have h2:∀ n,Jb Γ e' lo n=Jb Γ e lo n:=fun n=>q3P fun y hy=>hx y (by simp[Bt.opds];simp at hy;simp[hy])
  have h3:∀ n,Jb Γ e' hi n=Jb Γ e hi n:=fun n=>q3P fun y hy=>hx y (by simp[Bt.opds];simp at hy;simp[hy])
  have h4:∀ n,Jb Γ e' mx n=Jb Γ e mx n:=fun n=>q3P fun y hy=>hx y (by simp[Bt.opds];simp at hy;simp[hy])
  simp only[Ak,h1,h2,h3,h4]
  cases ev Γ e x with
  | none=>simp
  | some a =>
   simp only[xqs]
   split
   ·cases Jb Γ e lo 0<;>simp only[Option.bind_none,xqs,xzx,Option.map_map,Function.comp_def]
   ·cases Jb Γ e lo 0<;>simp only[Option.bind_none,xqs,xzx]
    cases Jb Γ e hi _<;>simp only[Option.bind_none,xqs,xzx]
    cases mx<;>simp only[xql,Option.map_map,Function.comp_def]
   ·cases Jb Γ e lo 0<;>simp only[Option.bind_none,xqs,xzx]
    cases Jb Γ e hi _<;>simp only[Option.bind_none,xqs,xzx]
    split<;>try rfl
    cases mx<;>simp only[xql,Option.map_map,Function.comp_def]
   ·rfl
 case appZ ty s0 zs b n =>
  have h1:=hx b (by simp[Bt.opds])
  have h2:=hx n (by simp[Bt.opds])
  simp only[Ak,h1,h2]
  split<;>rfl
 all_goals
  try simp only[Bt.opds,xqv,xz2,or_false,false_or,forall_eq_or_imp,forall_eq]at hx
  try have hxs:=Gx hx
  simp only[Ak]
  try simp only[hx]
  try simp only[hxs]
  try rfl
  try simp only[Option.map_map,Option.map_bind,Function.comp_def]
  repeat' (first|rfl|split|(refine congrArg _ (funext fun _=>?_))|simp only[Option.map_map,Option.map_bind,Function.comp_def])
theorem qEs (hk:io.kd<=1):Ak Γ d io ⟨e,h⟩=(Ak Γ d io ⟨e,h⟩).map fun q=>(q.1,q.2.1,⟨e,h⟩):=by
 cases io
 all_goals try (simp[Bt.kd]at hk;done)
 case alloc fz zs=>cases fz;(simp[Bt.kd]at hk);rfl
 case box fz zs=>cases fz;(simp[Bt.kd]at hk);(simp[Ak,Option.map_bind,Option.map_map,Function.comp_def])
 case bsl fz ty s zs=>cases fz;(simp[Bt.kd]at hk);(simp[Ak,Option.map_bind,Option.map_map,Function.comp_def])
 case slice s0 x lo hi mx =>
  simp only[Ak]
  cases ev Γ e x with
  | none=>simp
  | some a =>
   simp only[xqs]
   split
   ·cases Jb Γ e lo 0<;>simp only[Option.bind_none,xqs,xzx,Option.map_map,Function.comp_def]
   ·cases Jb Γ e lo 0<;>simp only[Option.bind_none,xqs,xzx]
    cases Jb Γ e hi _<;>simp only[Option.bind_none,xqs,xzx]
    cases mx<;>simp only[xql,Option.map_map,Function.comp_def]
   ·cases Jb Γ e lo 0<;>simp only[Option.bind_none,xqs,xzx]
    cases Jb Γ e hi _<;>simp only[Option.bind_none,xqs,xzx]
    split<;>try rfl
    cases mx<;>simp only[xql,Option.map_map,Function.comp_def]
   ·rfl
 all_goals
  simp only[Ak]
  try rfl
  try simp only[Option.map_map,Option.map_bind,Function.comp_def]
  repeat' (first|rfl|split|(refine congrArg _ (funext fun _=>?_))|simp only[Option.map_map,Option.map_bind,Function.comp_def])
theorem qEt (hk:io.kd=0):Ak Γ d io ⟨e,h'⟩=(Ak Γ d io ⟨e,h⟩).map fun q=>(q.1,q.2.1,⟨e,h'⟩):=by
 cases io
 all_goals try (simp[Bt.kd]at hk;done)
 case alloc fz zs=>cases fz;(simp[Bt.kd]at hk);rfl
 case box fz zs=>cases fz;(simp[Bt.kd]at hk);(simp[Ak,Option.map_bind,Option.map_map,Function.comp_def])
 case bsl fz ty s zs=>cases fz;(simp[Bt.kd]at hk);(simp[Ak,Option.map_bind,Option.map_map,Function.comp_def])
 all_goals
  simp only[Ak]
  try rfl
  try simp only[Option.map_map,Option.map_bind,Function.comp_def]
  repeat' (first|rfl|split|(refine congrArg _ (funext fun _=>?_))|simp only[Option.map_map,Option.map_bind,Function.comp_def])
def Bt.isNew:Bt->Bool
 | .alloc _ _ | .box _ _ | .bsl _ _ _ _ | .mk _ _ _ _ _ | .mkE _ _ _ _ _ | .mkB _ _ _ _ | .appZ _ _ _ _ _ | .appN _ _ _ | .mkmap | .rng _=>true
 | _=>false
theorem qGq (hn:io.isNew=true) (hs:Ak Γ d io ⟨e,h⟩=some (c,r,s)) (hc:c):s.hp=h\/∃ q,s.hp=(d,q)::h/\A0 h d=none:=by
 cases io
 all_goals try (simp[Bt.isNew]at hn;done)
 case alloc fz zs =>
  cases fz<;>simp[Ak]at hs
  ·obtain⟨hcc,rfl,rfl⟩:=hs;exact .inr ⟨_,rfl,hcc.2 hc⟩
  ·obtain⟨_,rfl,rfl⟩:=hs;exact .inl rfl
 case box fz x =>
  simp only[Ak,xqk]at hs
  obtain⟨a,ha,hs⟩:=hs
  cases fz<;>simp at hs
  ·obtain⟨hcc,rfl,rfl⟩:=hs;exact .inr ⟨_,rfl,(hcc.2 hc).1⟩
  ·obtain⟨_,_,_,_,rfl⟩:=hs;exact .inl rfl
 case bsl fz ty s0 parts =>
  simp only[Ak,xqk,xqb]at hs
  obtain⟨as,ha,es,he,hs⟩:=hs
  cases fz<;>simp at hs
  ·obtain⟨hcc,rfl,rfl⟩:=hs;exact .inr ⟨_,rfl,(hcc.2 hc).1⟩
  ·obtain⟨_,_,rfl⟩:=hs;exact .inl rfl
 case mk ty s0 zs l cc =>
  simp only[Ak]at hs
  split at hs
  ·simp only[xqa,xqd]at hs
   obtain⟨rfl,rfl,rfl⟩:=hs;exact .inr ⟨_,rfl,hc.1⟩
  ·cases hs
 case mkE ty s0 zs l cc =>
  simp only[Ak]at hs
  split at hs
  ·simp only[xqa,xqd]at hs
   obtain⟨rfl,rfl,rfl⟩:=hs;exact .inr ⟨_,rfl,hc.1⟩
  ·cases hs
 case appZ ty s0 zs l cc =>
  simp only[Ak]at hs
  split at hs
  ·simp only[xqa,xqd]at hs
   obtain⟨rfl,rfl,rfl⟩:=hs;exact .inr ⟨_,rfl,hc.1⟩
  ·cases hs
 case appN ty s0 x =>
  simp only[Ak]at hs
  split at hs
  ·simp only[xqa,xqd]at hs
   obtain⟨rfl,rfl,rfl⟩:=hs;exact .inr ⟨_,rfl,hc.1⟩
  ·cases hs
 case mkB ty zs l cc =>
  simp only[Ak]at hs
  split at hs
  ·simp only[xqa,xqd]at hs
   obtain⟨rfl,rfl,rfl⟩:=hs;exact .inr ⟨_,rfl,hc.1⟩
  ·cases hs
 case rng x =>
  simp only[Ak]at hs
  split at hs
  ·simp only[xqa,xqd]at hs
   obtain⟨rfl,rfl,rfl⟩:=hs;exact .inr ⟨_,rfl,hc⟩
  ·cases hs
 case mkmap =>
  simp only[Ak,xqa,xqd]at hs
  obtain⟨rfl,rfl,rfl⟩:=hs;exact .inr ⟨_,rfl,hc⟩
theorem q1H (hl:∀ id x,A0 h id=some x->A0 h' id=some x) {a:AV} {es:List (List T)} (hs:C3 h a=some es):C3 h' a=some es:=by
 unfold C3 at hs ⊢
 split at hs
 ·exact hs
 ·split at hs
  ·rename_i hq;rw[hl _ _ hq];exact hs
  ·cases hs
 ·cases hs
theorem qDx (hl:∀ id x,A0 h id=some x->A0 h' id=some x) {a:AV} {n:Nat} (hs:lenOf h a=some n):lenOf h' a=some n:=by
 unfold lenOf at hs ⊢
 split at hs
 ·exact hs
 ·exact hs
 ·exact hs
 ·exact hs
 ·exact hs
 ·split at hs
  ·rename_i hq;rw[hl _ _ hq];exact hs
  ·rename_i hq;rw[hl _ _ hq];exact hs
  ·cases hs
 ·cases hs
theorem q2K (hl:∀ id x,A0 h id=some x->A0 h' id=some x) {a:AV} (hs:Kv h a=true):Kv h' a=true:=by
 unfold Kv at hs ⊢
 split at hs
 ·rfl
 ·split at hs
  ·rename_i hq;simp only[hl _ _ hq]
  ·cases hs
 ·split at hs
  ·rename_i hq;simp only[hl _ _ hq]
  ·rename_i hq;simp only[hl _ _ hq]
  ·cases hs
 ·split at hs
  ·rename_i hq;simp only[hl _ _ hq]
  ·cases hs
 ·cases hs
theorem qGr (hk:io.kd<=1) (hl:∀ id x,A0 h id=some x->A0 h' id=some x) (hs:Ak Γ d io ⟨e,h⟩=some (c,r,s)):Ak Γ d io ⟨e,h'⟩=some (c,r,⟨e,h'⟩):=by
 by_cases h0:io.kd=0
 ·rw[qEt (h:=h) h0,hs];rfl
 cases io
 all_goals try (simp[Bt.kd]at hk h0;done)
 case alloc fz zs=>cases fz<;>simp[Bt.kd]at hk h0
 case box fz zs=>cases fz<;>simp[Bt.kd]at hk h0
 case bsl fz ty s zs=>cases fz<;>simp[Bt.kd]at hk h0
 case rcall=>simp[Ak]at hs
 case call=>simp[Ak]at hs
 case callv=>simp[Ak]at hs
 case load n g a =>
  simp only[Ak]at hs ⊢
  split at hs
  ·simp only[xqa,xqd]at hs
   obtain⟨rfl,rfl,rfl⟩:=hs;rfl
  ·split at hs
   ·rename_i hq;rw[hl _ _ hq]
    simp only[xqa,xqd]at hs
    obtain⟨rfl,rfl,rfl⟩:=hs;rfl
   ·rename_i hq;rw[hl _ _ hq]
    simp only[xqa,xqd]at hs
    obtain⟨rfl,rfl,rfl⟩:=hs;rfl
   ·rename_i hq;rw[hl _ _ hq]
    simp only[xqa,xqd]at hs
    obtain⟨rfl,rfl,rfl⟩:=hs;rfl
   ·cases hs
  ·cases hs
 case ldR id n g a =>
  simp only[Ak]at hs ⊢
  split at hs
  case isFalse=>cases hs
  rename_i hp
  rw[if_pos hp]
  split at hs
  ·simp only[xqa,xqd]at hs
   obtain⟨rfl,rfl,rfl⟩:=hs;rfl
  ·split at hs
   ·rename_i hq;rw[hl _ _ hq]
    simp only[xqa,xqd]at hs
    obtain⟨rfl,rfl,rfl⟩:=hs;rfl
   ·rename_i hq;rw[hl _ _ hq]
    simp only[xqa,xqd]at hs
    obtain⟨rfl,rfl,rfl⟩:=hs;rfl
   ·rename_i hq;rw[hl _ _ hq]
    simp only[xqa,xqd]at hs
    obtain⟨rfl,rfl,rfl⟩:=hs;rfl
   ·cases hs
  ·cases hs
 case iadr s0 x i =>
  simp only[Ak]at hs ⊢
  split at hs
  ·simp only[xqa,xqd]at hs
   obtain⟨rfl,rfl,rfl⟩:=hs;rfl
  ·split at hs
   ·rename_i hq;rw[hl _ _ hq]
    simp only[xqa,xqd]at hs
    obtain⟨rfl,rfl,rfl⟩:=hs;rfl
   ·rename_i hq;rw[hl _ _ hq]
    simp only[xqa,xqd]at hs
    obtain⟨rfl,rfl,rfl⟩:=hs;rfl
   ·cases hs
  ·split at hs
   ·rename_i hq;rw[hl _ _ hq]
    simp only[xqa,xqd]at hs
    obtain⟨rfl,rfl,rfl⟩:=hs;rfl
   ·cases hs
  ·cases hs
 case bytesStr x =>
  simp only[Ak,xqk,xqb,xqd]at hs ⊢
  obtain⟨es,⟨a,ha,he⟩,bs,hb,rfl,rfl,rfl⟩:=hs
  exact⟨es,⟨a,ha,q1H hl he⟩,bs,hb,rfl,rfl,trivial⟩
 case appT ty s0 b x =>
  simp only[Ak,xqk]at hs ⊢
  obtain⟨es,⟨a,ha,he⟩,hs⟩:=hs
  refine⟨es,⟨a,ha,q1H hl he⟩,?_⟩
  split at hs
  ·simp only[xqa,xqd]at hs ⊢
   obtain⟨rfl,rfl,rfl⟩:=hs;exact⟨rfl,rfl,trivial⟩
  ·cases hs
 case appB b x =>
  simp only[Ak,xqk]at hs ⊢
  obtain⟨es,⟨a,ha,he⟩,hs⟩:=hs
  refine⟨es,⟨a,ha,q1H hl he⟩,?_⟩
  split at hs
  ·simp only[xqa,xqd]at hs ⊢
   obtain⟨rfl,rfl,rfl⟩:=hs;exact⟨rfl,rfl,trivial⟩
  ·cases hs
 case len k x =>
  simp only[Ak,xqk]at hs ⊢
  obtain⟨a,ha,hs⟩:=hs
  refine⟨a,ha,?_⟩
  split at hs
  ·rename_i hq
   rw[if_pos hq]
   simp only[xqb,xqd]at hs ⊢
   obtain⟨n,hn,rfl,rfl,rfl⟩:=hs
   exact⟨n,qDx hl hn,rfl,rfl,trivial⟩
  ·cases hs
 case mvP x =>
  simp only[Ak,xqk]at hs ⊢
  obtain⟨a,ha,hs⟩:=hs
  refine⟨a,ha,?_⟩
  split at hs
  ·rename_i hq
   rw[if_pos (q2K hl hq)]
   simp only[xqa,xqd]at hs ⊢
   obtain⟨rfl,rfl,rfl⟩:=hs;exact⟨rfl,rfl,trivial⟩
  ·cases hs
 case nckP x =>
  simp only[Ak]at hs ⊢
  split at hs
  ·split at hs
   ·rename_i hq
    rw[if_pos (q2K hl hq)]
    simp only[xqa,xqd]at hs ⊢
    obtain⟨rfl,rfl,rfl⟩:=hs;exact⟨rfl,rfl,trivial⟩
   ·cases hs
  ·cases hs
 case fadP off x =>
  simp only[Ak]at hs ⊢
  split at hs
  ·split at hs
   ·rename_i hq
    rw[if_pos (q2K hl hq)]
    simp only[xqa,xqd]at hs ⊢
    obtain⟨rfl,rfl,rfl⟩:=hs;exact⟨rfl,rfl,trivial⟩
   ·cases hs
  ·cases hs
 case ldP n x =>
  simp only[Ak]at hs ⊢
  split at hs
  ·split at hs
   ·rename_i hq0
    rw[hl _ _ hq0]
    split at hs
    ·rename_i hq
     simp only[if_pos (q2K hl hq)]
     simp only[xqa,xqd]at hs ⊢
     obtain⟨rfl,rfl,rfl⟩:=hs;exact⟨rfl,rfl,trivial⟩
    ·cases hs
   ·cases hs
  ·cases hs
 case lkupA kt zv m k =>
  simp only[Ak]at hs ⊢
  split at hs
  ·split at hs
   ·rename_i hq;rw[hl _ _ hq]
    simp only[xqa,xqd]at hs
    obtain⟨rfl,rfl,rfl⟩:=hs;rfl
   ·cases hs
  ·cases hs
 case lkup kt zv ok m k =>
  simp only[Ak]at hs ⊢
  split at hs
  ·split at hs
   ·simp only[xqa,xqd]at hs
    obtain⟨rfl,rfl,rfl⟩:=hs;rfl
   ·split at hs
    ·rename_i hq;rw[hl _ _ hq]
     simp only[xqa,xqd]at hs
     obtain⟨rfl,rfl,rfl⟩:=hs;rfl
    ·cases hs
   ·cases hs
  ·cases hs
 case slice s0 x lo hi mx =>
  simp only[Ak,xqk]at hs ⊢
  obtain⟨a,ha,hs⟩:=hs
  refine⟨a,ha,?_⟩
  split at hs
  ·simp only[xqk,xqb,xqd]at hs ⊢
   obtain⟨l,hl1,q,hq,rfl,rfl,rfl⟩:=hs
   exact⟨l,hl1,q,hq,rfl,rfl,trivial⟩
  ·simp only[xqk]at hs ⊢
   obtain⟨l,hl1,q,hq,hs⟩:=hs
   refine⟨l,hl1,q,hq,?_⟩
   cases mx
   ·simp only[xqa,xqd]at hs ⊢
    obtain⟨rfl,rfl,rfl⟩:=hs;exact⟨rfl,rfl,trivial⟩
   ·simp only[xqb,xqd]at hs ⊢
    obtain⟨m,hm,rfl,rfl,rfl⟩:=hs
    exact⟨m,hm,rfl,rfl,trivial⟩
  ·simp only[xqk]at hs ⊢
   obtain⟨l,hl1,q,hq,hs⟩:=hs
   refine⟨l,hl1,q,hq,?_⟩
   split at hs
   ·rename_i hz;rw[hl _ _ hz]
    cases mx
    ·simp only[xqa,xqd]at hs ⊢
     obtain⟨rfl,rfl,rfl⟩:=hs;exact⟨rfl,rfl,trivial⟩
    ·simp only[xqb,xqd]at hs ⊢
     obtain⟨m,hm,rfl,rfl,rfl⟩:=hs
     exact⟨m,hm,rfl,rfl,trivial⟩
   ·cases hs
  ·cases hs
theorem qAM (hn:io.isNew=true) (hs:Ak Γ d io ⟨e,h⟩=some (c,r,s)) (hc:c):(s.hp=h/\∀ h',∃ c',Ak Γ d io ⟨e,h'⟩=some (c',r,⟨e,h'⟩)/\c') \/
  ∃ q,A0 h d=none/\s.hp=(d,q)::h/\∀ h',A0 h' d=none->∃ c',Ak Γ d io ⟨e,h'⟩=some (c',r,⟨e,(d,q)::h'⟩)/\c':=by
 cases io
 all_goals try (simp[Bt.isNew]at hn;done)
 case alloc fz zs =>
  cases fz<;>simp[Ak]at hs
  ·obtain⟨hcc,rfl,rfl⟩:=hs;exact .inr ⟨_,hcc.2 hc,rfl,fun h' hh=>⟨A0 h' d=none,by simp[Ak],hh⟩⟩
  ·obtain⟨_,rfl,rfl⟩:=hs;exact .inl ⟨rfl,fun h'=>⟨True,by simp[Ak],trivial⟩⟩
 case box fz x =>
  simp only[Ak,xqk]at hs
  obtain⟨a,ha,hs⟩:=hs
  cases fz<;>simp only[xqn,↓reduceIte,xqb,xqa,xqd]at hs
  ·obtain⟨rfl,rfl,rfl⟩:=hs;exact .inr ⟨_,hc.1,rfl,fun h' hh=>⟨A0 h' d=none/\C7 a.cells=true,by simp[Ak,ha],hh,hc.2⟩⟩
  ·obtain⟨ts,hts,rfl,rfl,rfl⟩:=hs;exact .inl ⟨rfl,fun h'=>⟨D9 ts=true,by simp[Ak,ha,hts],hc⟩⟩
 case bsl fz ty s0 parts =>
  simp only[Ak,xqk,xqb]at hs
  obtain⟨as,ha,es,he,hs⟩:=hs
  cases fz<;>simp only[xqn,↓reduceIte,xqd]at hs
  ·obtain⟨rfl,rfl,rfl⟩:=hs;exact .inr ⟨_,hc.1,rfl,fun h' hh=>⟨A0 h' d=none/\∀ e∈es,e.length=s0/\D9 e=true,by simp[Ak,ha,he],hh,hc.2⟩⟩
  ·obtain⟨rfl,rfl,rfl⟩:=hs;exact .inl ⟨rfl,fun h'=>⟨∀ e∈es,e.length=s0/\D9 e=true,by simp[Ak,ha,he],hc⟩⟩
 case mk ty s0 zs l cc =>
  simp only[Ak]at hs
  split at hs
  ·rename_i e1 e2
   simp only[xqa,xqd]at hs
   obtain⟨rfl,rfl,rfl⟩:=hs;exact .inr ⟨_,hc.1,rfl,fun h' hh=>⟨_,by simp only[Ak,e1,e2];rfl,by exact⟨hh,hc.2⟩⟩⟩
  ·cases hs
 case mkE ty s0 zs l cc =>
  simp only[Ak]at hs
  split at hs
  ·rename_i e1 e2
   simp only[xqa,xqd]at hs
   obtain⟨rfl,rfl,rfl⟩:=hs;exact .inr ⟨_,hc.1,rfl,fun h' hh=>⟨_,by simp only[Ak,e1,e2];rfl,by exact⟨hh,hc.2⟩⟩⟩
  ·cases hs
 case appZ ty s0 zs l cc =>
  simp only[Ak]at hs
  split at hs
  ·rename_i e1 e2
   simp only[xqa,xqd]at hs
   obtain⟨rfl,rfl,rfl⟩:=hs;exact .inr ⟨_,hc.1,rfl,fun h' hh=>⟨_,by simp only[Ak,e1,e2];rfl,by exact⟨hh,hc.2⟩⟩⟩
  ·cases hs
 case appN ty s0 x =>
  simp only[Ak]at hs
  split at hs
  ·rename_i e1
   simp only[xqa,xqd]at hs
   obtain⟨rfl,rfl,rfl⟩:=hs;exact .inr ⟨_,hc.1,rfl,fun h' hh=>⟨_,by simp only[Ak,e1];rfl,by exact⟨hh,hc.2⟩⟩⟩
  ·cases hs
 case mkB ty zs l cc =>
  simp only[Ak]at hs
  split at hs
  ·rename_i e1 e2
   simp only[xqa,xqd]at hs
   obtain⟨rfl,rfl,rfl⟩:=hs;exact .inr ⟨_,hc.1,rfl,fun h' hh=>⟨_,by simp only[Ak,e1,e2];rfl,by exact⟨hh,hc.2⟩⟩⟩
  ·cases hs
 case mkmap =>
  simp only[Ak,xqa,xqd]at hs
  obtain⟨rfl,rfl,rfl⟩:=hs;exact .inr ⟨_,hc,rfl,fun h' hh=>⟨_,by simp only[Ak],hh⟩⟩
 case rng x =>
  simp only[Ak]at hs
  split at hs
  ·rename_i e1
   simp only[xqa,xqd]at hs
   obtain⟨rfl,rfl,rfl⟩:=hs;exact .inr ⟨_,hc,rfl,fun h' hh=>⟨_,by simp only[Ak,e1],hh⟩⟩
  ·cases hs
theorem qCl {id n:Nat} {a x:Operand} (hs:Ak Γ d (.stR id n a x) ⟨e,h⟩=some (c,r,s)) (hc:c) :
  ∃ q q',A0 h id=some q/\q'.sh=q.sh/\s.hp=Dn id q' h/\∀ h',A0 h' id=some q->∃ c',Ak Γ d (.stR id n a x) ⟨e,h'⟩=some (c',r,⟨e,Dn id q' h'⟩)/\c':=by
 simp only[Ak]at hs
 split at hs
 case isFalse=>cases hs
 rename_i hp
 simp only[xqk]at hs
 obtain⟨v,hv,hs⟩:=hs
 split at hs
 case h_2=>cases hs
 rename_i j i k ha
 have hj:j=id:=by rw[ha]at hp;simpa[E8]using hp
 subst hj
 split at hs
 ·rename_i ty s0 es hl
  simp only[xqb,xqd]at hs
  obtain⟨ts,hts,rfl,rfl,rfl⟩:=hs
  exact⟨_,_,hl,by simp[Aw.sh],rfl,fun h' hh=>⟨_,by simp only[Ak,hv,ha,hh,hts,E8,beq_self_eq_true,↓reduceIte,xqs,xql],hc⟩⟩
 ·rename_i ty s0 es hl
  simp only[xqa,xqd]at hs
  obtain⟨rfl,rfl,rfl⟩:=hs
  exact⟨_,.rs ty s0 (es.set i (if k=0/\n=s0 then v.cells else(es.getD i []).take k++v.cells++(es.getD i []).drop (k+n))),hl,by simp[Aw.sh],rfl,fun h' hh=>⟨_,by simp only[Ak,hv,ha,hh,E8,beq_self_eq_true,↓reduceIte,xqs,xql],hc⟩⟩
 ·rename_i cs hl
  simp only[xqa,xqd]at hs
  obtain⟨rfl,rfl,rfl⟩:=hs
  exact⟨_,.bx (cs.take k++v.cells++cs.drop (k+n)),hl,rfl,rfl,fun h' hh=>⟨_,by simp only[Ak,hv,ha,hh,E8,beq_self_eq_true,↓reduceIte,xqs,xql],hc⟩⟩
 ·cases hs
theorem qGs {id n:Nat} {g:Bool} {a:Operand} (hs:Ak Γ d (.ldR id n g a) ⟨e,h⟩=some (c,r,s)) (hh:A0 h' id=A0 h id):Ak Γ d (.ldR id n g a) ⟨e,h'⟩=some (c,r,⟨e,h'⟩):=by
 simp only[Ak]at hs
 split at hs
 case isFalse=>cases hs
 rename_i hp
 split at hs
 ·rename_i ha;rw[ha]at hp;simp[E8]at hp
 ·rename_i j i k ha
  have hj:j=id:=by rw[ha]at hp;simpa[E8]using hp
  subst hj
  split at hs
  ·rename_i hl
   simp only[xqa,xqd]at hs
   obtain⟨rfl,rfl,rfl⟩:=hs
   simp only[Ak,ha,hh,hl,E8,beq_self_eq_true,↓reduceIte]
  ·rename_i hl
   simp only[xqa,xqd]at hs
   obtain⟨rfl,rfl,rfl⟩:=hs
   simp only[Ak,ha,hh,hl,E8,beq_self_eq_true,↓reduceIte]
  ·rename_i hl
   simp only[xqa,xqd]at hs
   obtain⟨rfl,rfl,rfl⟩:=hs
   simp only[Ak,ha,hh,hl,E8,beq_self_eq_true,↓reduceIte]
  ·cases hs
 ·cases hs
theorem qGt {s0:Nat} {x i:Operand} (hs:Ak Γ d (.iadr s0 x i) ⟨e,h⟩=some (c,r,s)) (hh:∀ k,(A0 h' k).map Aw.sh=(A0 h k).map Aw.sh):Ak Γ d (.iadr s0 x i) ⟨e,h'⟩=some (c,r,⟨e,h'⟩):=by
 simp only[Ak]at hs
 split at hs
 ·rename_i e1 e2
  simp only[xqa,xqd]at hs
  obtain⟨rfl,rfl,rfl⟩:=hs
  simp only[Ak,e1,e2]
 ·rename_i id off len cap k n e1 e2
  split at hs
  ·rename_i ty q es hl
   simp only[xqa,xqd]at hs
   obtain⟨rfl,rfl,rfl⟩:=hs
   have:=hh id
   rw[hl]at this
   simp only[xql,Aw.sh,xqb]at this
   obtain⟨q',h1,h2⟩:=this
   cases q'<;>simp at h2
   all_goals (obtain⟨rfl,_⟩:=h2;simp only[Ak,e1,e2,h1])
  ·rename_i ty q es hl
   simp only[xqa,xqd]at hs
   obtain⟨rfl,rfl,rfl⟩:=hs
   have:=hh id
   rw[hl]at this
   simp only[xql,Aw.sh,xqb]at this
   obtain⟨q',h1,h2⟩:=this
   cases q'<;>simp at h2
   all_goals (obtain⟨rfl,_⟩:=h2;simp only[Ak,e1,e2,h1])
  ·cases hs
 ·rename_i id m k n e1 e2
  split at hs
  ·rename_i cs hl
   simp only[xqa,xqd]at hs
   obtain⟨rfl,rfl,rfl⟩:=hs
   have:=hh id
   rw[hl]at this
   simp only[xql,Aw.sh,xqb]at this
   obtain⟨q',h1,h2⟩:=this
   cases q'<;>simp at h2
   simp only[Ak,e1,e2,h1]
  ·cases hs
 ·cases hs
end
end Go.Lg
