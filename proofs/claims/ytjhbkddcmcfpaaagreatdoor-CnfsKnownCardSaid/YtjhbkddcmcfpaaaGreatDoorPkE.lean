/- THE LOGIC, part 34: the evaluator again, made for the kernel. Conditions: none. -/
import Derived.Test.YtjhbkddcmcfpaaaGreatDoorPkD
import Derived.ChangeArms
import Derived.DataReads
import Derived.OpenShut
import Derived.Carry
import Derived.Handed
import Derived.Lib.LaidTab
set_option linter.unusedSimpArgs false
set_option linter.unusedVariables false
namespace Go.Lg
open Go
noncomputable def lkF {α:Type} (l:List (Nat×α)) (t:Nat):Option α:=List.rec (motive:=fun _=>Option α) none (fun p _ ih=>Bool.rec (motive:=fun _=>Option α) ih (some p.2) (Nat.beq p.1 t)) l
theorem q3L {α:Type} (l:List (Nat×α)) (t:Nat):lkF l t=A2 l t:=by
 induction l with
 | nil=>rfl
 | cons p l ih =>
  show(Bool.rec (motive:=fun _=>Option α) (lkF l t) (some p.2) (Nat.beq p.1 t):Option α)=A2 (p::l) t
  rw[ih]
  obtain⟨k,v⟩:=p
  simp only[A2]
  by_cases h:k=t
  ·rw[if_pos h,show Nat.beq k t=true from by subst h;exact Nat.beq_refl k]
  ·rw[if_neg h,show Nat.beq k t=false from by cases hb:Nat.beq k t with|false=>rfl|true=>exact absurd (Nat.eq_of_beq_eq_true hb) h]
noncomputable def evF (Γ:Tables) (env:List (Nat×AV)) (x:Operand):Option AV:=match x with
 | .tmp t=>lkF env t
 | .const v=>some (Pe v)
 | .global g=>ev Γ env (.global g)
 | .func f=>ev Γ env (.func f)
theorem Y0 (Γ:Tables) (env:List (Nat×AV)) (x:Operand):evF Γ env x=ev Γ env x:=by
 cases x with
 | tmp t=>exact q3L env t
 | _=>rfl
noncomputable def q6W {α:Type} (l:List α):Nat->Option α:=List.rec (motive:=fun _=>Nat->Option α) (fun _=>none) (fun a _ ih n=>Nat.rec (motive:=fun _=>Option α) (some a) (fun m _=>ih m) n) l
theorem q0g {α:Type} (l:List α) (n:Nat):q6W l n=l[n]? := by
 induction l generalizing n with
 | nil=>rfl
 | cons a l ih =>
  cases n with
  | zero=>rfl
  | succ n=>exact(ih n).trans (by simp)
theorem q7I {cs:List T} {k:Nat} {t:T} (h:cs[k]? = some t):Ia false ((cs.drop k).take 1)=t:=by
 have h2:=List.getElem?_eq_some_iff.1 h
 obtain⟨hk,rfl⟩:=h2
 rw[List.drop_eq_getElem_cons hk];rfl
theorem q7J {cs:List AV} {k:Nat} {t:AV} (h:cs[k]? = some t):Je false ((cs.drop k).take 1)=t:=by
 have h2:=List.getElem?_eq_some_iff.1 h
 obtain⟨hk,rfl⟩:=h2
 rw[List.drop_eq_getElem_cons hk];rfl
def kIx:IntKind->Nat
 | .i8=>0 | .i16=>1 | .i32=>2 | .i64=>3 | .u8=>4 | .u16=>5 | .u32=>6 | .u64=>7
theorem q3M {k j:IntKind} (h:Nat.beq (kIx k) (kIx j)=true):k=j:=by cases k<;>cases j<;>first|rfl|cases h
def W9 (op:BinOp) (a b:Value):Option Value:=match Z5 op a b with
 | some (_,v)=>if q2J op a b then some v else none
 | none=>none
def qL2 (a b:Value):Option Value:=match a,b with
 | .int .i64 (.ofNat x),.int .i64 (.ofNat y)=>match Nat.blt (Nat.add x y) 9223372036854775808 with
  | true=>some (.int .i64 (.ofNat (Nat.add x y)))
  | false=>none
 | a,b=>W9 .add a b
def qL3 (a b:Value):Option Value:=match a,b with
 | .int .i64 (.ofNat x),.int .i64 (.ofNat y)=>match Nat.ble y x,Nat.blt x 9223372036854775808 with
  | true,true=>some (.int .i64 (.ofNat (Nat.sub x y)))
  | _,_=>W9 .sub (.int .i64 (.ofNat x)) (.int .i64 (.ofNat y))
 | a,b=>W9 .sub a b
def qL4 (a b:Value):Option Value:=match a,b with
 | .int k (.ofNat x),.int j (.ofNat y)=>match Nat.beq (kIx k) (kIx j) with
  | true=>some (.bool (Nat.blt x y))
  | false=>none
 | a,b=>W9 .lss a b
def qL5 (a b:Value):Option Value:=match a,b with
 | .int k (.ofNat x),.int j (.ofNat y)=>match Nat.beq (kIx k) (kIx j) with
  | true=>some (.bool (Nat.ble x y))
  | false=>none
 | a,b=>W9 .leq a b
def qL6 (a b:Value):Option Value:=match a,b with
 | .int k (.ofNat x),.int j (.ofNat y)=>match Nat.beq (kIx k) (kIx j) with
  | true=>some (.bool (Nat.blt y x))
  | false=>none
 | a,b=>W9 .gtr a b
def qL7 (a b:Value):Option Value:=match a,b with
 | .int k (.ofNat x),.int j (.ofNat y)=>match Nat.beq (kIx k) (kIx j) with
  | true=>some (.bool (Nat.ble y x))
  | false=>none
 | a,b=>W9 .geq a b
def qL8 (a b:Value):Option Value:=match a,b with
 | .int k (.ofNat x),.int j (.ofNat y)=>match Nat.beq (kIx k) (kIx j) with
  | true=>some (.bool (Nat.beq x y))
  | false=>none
 | a,b=>W9 .eql a b
def qL9 (a b:Value):Option Value:=match a,b with
 | .int k (.ofNat x),.int j (.ofNat y)=>match Nat.beq (kIx k) (kIx j) with
  | true=>some (.bool (!Nat.beq x y))
  | false=>none
 | a,b=>W9 .neq a b
def q6X (op:BinOp):Value->Value->Option Value:=match op with
 | .add=>qL2
 | .sub=>qL3
 | .lss=>qL4
 | .leq=>qL5
 | .gtr=>qL6
 | .geq=>qL7
 | .eql=>qL8
 | .neq=>qL9
 | op=>W9 op
theorem qBm {x:Nat} (h:x<9223372036854775808):IntKind.i64.wrap (x:Int)=x:=A5 (by omega) (by omega)
theorem qLA {x y:Nat}:decide ((Int.ofNat x)<Int.ofNat y)=Nat.blt x y:=by
 rw[Bool.eq_iff_iff];simp only[decide_eq_true_eq,Nat.blt_eq];exact Int.ofNat_lt
theorem qLB {x y:Nat}:decide ((Int.ofNat x)<=Int.ofNat y)=Nat.ble x y:=by
 rw[Bool.eq_iff_iff];simp only[decide_eq_true_eq,Nat.ble_eq];exact Int.ofNat_le
theorem qLC {x y:Nat}:((Int.ofNat x)==Int.ofNat y)=Nat.beq x y:=by
 rw[Bool.eq_iff_iff];simp only[beq_iff_eq,Nat.beq_eq,Int.ofNat_inj]
 exact Int.ofNat.injEq x y ▸ Iff.rfl
theorem qG2 {op:BinOp} {a b v:Value} (h:q6X op a b=some v):W9 op a b=some v:=by
 cases op with
 | add =>
  simp only[q6X]at h;unfold qL2 at h
  split at h
  ·split at h
   ·rename_i x y _ hb
    have hb:Nat.add x y<9223372036854775808:=by simpa[Nat.blt_eq]using hb
    simp only[W9,Z5,q2J,if_true]at h ⊢
    rw[show Int.ofNat x+Int.ofNat y=((Nat.add x y:Nat):Int) from rfl,qBm hb]
    exact h
   ·cases h
  ·exact h
 | sub =>
  simp only[q6X]at h;unfold qL3 at h
  split at h
  ·split at h
   ·rename_i x y _ _ h1 h2
    have h1:=Nat.le_of_ble_eq_true h1
    have h2:x<9223372036854775808:=by simpa[Nat.blt_eq]using h2
    simp only[W9,Z5,q2J,if_true]at h ⊢
    have e:Int.ofNat x-Int.ofNat y=((Nat.sub x y:Nat):Int):=(Int.ofNat_sub h1).symm
    have w:IntKind.i64.wrap ((Nat.sub x y:Nat):Int)=((Nat.sub x y:Nat):Int):=qBm (Nat.lt_of_le_of_lt (Nat.sub_le x y) h2)
    rw[e,w]
    exact h
   ·exact h
  ·exact h
 | lss =>
  simp only[q6X]at h;unfold qL4 at h
  split at h
  ·split at h
   ·rename_i hk;have:=q3M hk;subst this
    simp only[W9,Z5,q2J,if_true,qLA];exact h
   ·cases h
  ·exact h
 | leq =>
  simp only[q6X]at h;unfold qL5 at h
  split at h
  ·split at h
   ·rename_i hk;have:=q3M hk;subst this
    simp only[W9,Z5,q2J,if_true,qLB];exact h
   ·cases h
  ·exact h
 | gtr =>
  simp only[q6X]at h;unfold qL6 at h
  split at h
  ·split at h
   ·rename_i hk;have:=q3M hk;subst this
    simp only[W9,Z5,q2J,if_true,gt_iff_lt,qLA];exact h
   ·cases h
  ·exact h
 | geq =>
  simp only[q6X]at h;unfold qL7 at h
  split at h
  ·split at h
   ·rename_i hk;have:=q3M hk;subst this
    simp only[W9,Z5,q2J,if_true,ge_iff_le,qLB];exact h
   ·cases h
  ·exact h
 | eql =>
  simp only[q6X]at h;unfold qL8 at h
  split at h
  ·split at h
   ·rename_i hk;have:=q3M hk;subst this
    simp only[W9,Z5,q2J,if_true,qLC];exact h
   ·cases h
  ·exact h
 | neq =>
  simp only[q6X]at h;unfold qL9 at h
  split at h
  ·split at h
   ·rename_i hk;have:=q3M hk;subst this
    simp only[W9,Z5,q2J,if_true,bne,qLC];exact h
   ·cases h
  ·exact h
 | _=>exact h
abbrev OpR:=Or->Tables->Nat->St->Option (AV×St)
noncomputable def qIY (x:Operand):OpR:=fun _ Γ _ st=>match evF Γ st.env x with
 | some a=>some (a,st)
 | none=>none
noncomputable def qE3 (op:BinOp) (x y:Operand):OpR:=fun _ Γ _ st=>match evF Γ st.env x with
 | some (.t (.v a))=>match evF Γ st.env y with
  | some (.t (.v b))=>match q6X op a b with
   | some v=>some (.t (.v v),st)
   | none=>none
  | _=>none
 | _=>none
noncomputable def qH0 (a:Operand):OpR:=fun _ Γ _ st=>match evF Γ st.env a with
 | some (.t (.ip cs k))=>match q6W cs k with
  | some t=>some (.t t,st)
  | none=>none
 | some (.lp id i k)=>match lkF st.hp id with
  | some (.bx cs)=>match Nat.beq i 0,q6W cs k with
   | true,some t=>some (t,st)
   | _,_=>none
  | some (.sl _ s es)=>match q6W es i with
   | some e=>match Nat.ble (k+1) s,q6W e k with
    | true,some t=>some (.t t,st)
    | _,_=>none
   | none=>none
  | some (.rs _ s es)=>match q6W es i with
   | some e=>match Nat.ble (k+1) s,q6W e k with
    | true,some t=>some (t,st)
    | _,_=>none
   | none=>none
  | _=>none
 | _=>none
noncomputable def qAV (n:Nat) (g:Bool) (a:Operand):OpR:=fun o Γ d st=>match Nat.beq n 1,g with
 | true,false=>qH0 a o Γ d st
 | _,_=>opE o Γ d (.load n g a) st
noncomputable def qAW (off:Nat) (a:Operand):OpR:=fun _ Γ _ st=>match evF Γ st.env a with
 | some (.t (.ip cs k))=>some (.t (.ip cs (k+off)),st)
 | some (.lp id i k)=>some (.lp id i (k+off),st)
 | _=>none
noncomputable def qAX (s:Nat) (x i:Operand):OpR:=fun o Γ d st=>match evF Γ st.env x with
 | some (.t (.sl es _ _))=>match evF Γ st.env i with
  | some (.t (.v (.int _ (.ofNat n))))=>match q1b s es,q6W es n with
   | true,some e=>some (.t (.ip e 0),st)
   | _,_=>none
  | _=>none
 | some (.ls id off len _)=>match evF Γ st.env i with
  | some (.t (.v (.int _ (.ofNat n))))=>match Nat.blt n len,lkF st.hp id with
   | true,some (.sl _ q _)=>match Nat.beq q s with
    | true=>some (.lp id (off+n) 0,st)
    | false=>none
   | true,some (.rs _ q _)=>match Nat.beq q s with
    | true=>some (.lp id (off+n) 0,st)
    | false=>none
   | _,_=>none
  | _=>none
 | _=>opE o Γ d (.iadr s x i) st
noncomputable def qE4 (k:Nat) (x:Operand):OpR:=fun o Γ d st=>match evF Γ st.env x with
 | some (.t (.sl es _ _))=>match Nat.beq k 0 with
  | true=>some (.t (.v (.int .i64 (.ofNat es.length))),st)
  | false=>none
 | some (.ls _ _ len _)=>match Nat.beq k 0 with
  | true=>some (.t (.v (.int .i64 (.ofNat len))),st)
  | false=>none
 | _=>opE o Γ d (.len k x) st
noncomputable def qAY (c a b:Operand):OpR:=fun _ Γ _ st=>match evF Γ st.env c with
 | some (.t (.v (.bool p)))=>match evF Γ st.env a with
  | some u=>match evF Γ st.env b with
   | some v=>some (q1J p u v,st)
   | none=>none
  | none=>none
 | _=>none
noncomputable def qE5 (x:Operand) (i:Nat):OpR:=fun _ Γ _ st=>match evF Γ st.env x with
 | some (.t (.tup vs))=>match q6W vs i with
  | some t=>some (.t t,st)
  | none=>none
 | some (.tu vs)=>match q6W vs i with
  | some t=>some (t,st)
  | none=>none
 | _=>none
noncomputable def opF (io:B6):OpR:=match io with
 | .mv x=>qIY x
 | .bin op x y=>qE3 op x y
 | .load n g a=>qAV n g a
 | .fadr off a=>qAW off a
 | .iadr s x i=>qAX s x i
 | .len k x=>qE4 k x
 | .pick c a b=>qAY c a b
 | .ext x i=>qE5 x i
 | io=>fun o Γ d st=>opE o Γ d io st
section
variable {o:Or} {Γ:Tables} {d:Nat} {st:St} {z:AV×St}
theorem Gn {io:B6} {c:Prop} {r:AV} {s1:St} (h:A7 Γ d io st=some (c,r,s1)) (hc:Dz Γ d io st=true):qE0 Γ d io st=some (r,s1):=by
 unfold qE0;rw[h];simp only[hc,if_true]
theorem qG3 {x:Operand} (h:qIY x o Γ d st=some z):opE o Γ d (.mv x) st=some z:=by
 unfold qIY at h;rw[Y0]at h
 split at h
 ·rename_i a ha;cases h
  exact Gn (c:=True) (by simp only[A7,ha,Option.map_some]) rfl
 ·cases h
theorem qE6 {op:BinOp} {x y:Operand} (h:qE3 op x y o Γ d st=some z):opE o Γ d (.bin op x y) st=some z:=by
 unfold qE3 at h;simp only[Y0]at h
 split at h
 ·rename_i a ha
  split at h
  ·rename_i b hb
   split at h
   ·rename_i v hv
    cases h
    have:=qG2 hv
    unfold W9 at this
    split at this
    ·rename_i c u hu
     split at this
     ·rename_i hc
      simp only[Option.some.injEq]at this;subst this
      exact Gn (c:=c) (by simp only[A7,ha,hb,hu,Option.map_some]) (by simp only[Dz,ha,hb];exact hc)
     ·cases this
    ·cases this
   ·cases h
  ·cases h
 ·cases h
theorem qCi {n:Nat} {g:Bool} {a:Operand} (h:qAV n g a o Γ d st=some z):opE o Γ d (.load n g a) st=some z:=by
 unfold qAV at h
 split at h
 ·rename_i hn
  have hn:=Nat.eq_of_beq_eq_true hn
  subst hn
  unfold qH0 at h;rw[Y0]at h
  split at h
  ·rename_i cs k ha
   rw[q0g]at h
   split at h
   ·rename_i t ht
    cases h
    have hk:=(List.getElem?_eq_some_iff.1 ht).1
    refine Gn (c:=k+1<=cs.length) (by simp only[A7,ha,q7I ht]) ?_
    simp only[Dz,ha];exact Nat.ble_eq_true_of_le hk
   ·cases h
  ·rename_i id i k ha
   rw[q3L]at h
   split at h
   ·rename_i cs hl
    rw[q0g]at h
    split at h
    ·rename_i t hi ht
     cases h
     have hi:=Nat.eq_of_beq_eq_true hi
     subst hi
     have hk:=(List.getElem?_eq_some_iff.1 ht).1
     refine Gn (c:=0=0/\k+1<=cs.length) (by simp only[A7,ha,hl,q7J ht]) ?_
     simp only[Dz,ha,qAT,hl,Bool.and_eq_true];exact⟨rfl,Nat.ble_eq_true_of_le hk⟩
    ·cases h
   ·rename_i ty s es hl
    simp only[q0g]at h
    split at h
    ·rename_i e he
     split at h
     ·rename_i t hks ht
      cases h
      have hi:=(List.getElem?_eq_some_iff.1 he).1
      have hg:es.getD i []=e:=by simp[List.getD_eq_getElem?_getD,he]
      refine Gn (c:=i<es.length/\k+1<=s) (by simp only[A7,ha,hl,hg,q7I ht]) ?_
      simp only[Dz,ha,qAT,hl,Bool.and_eq_true];exact⟨by simpa[Nat.blt_eq]using hi,hks⟩
     ·cases h
    ·cases h
   ·rename_i ty s es hl
    simp only[q0g]at h
    split at h
    ·rename_i e he
     split at h
     ·rename_i t hks ht
      cases h
      have hi:=(List.getElem?_eq_some_iff.1 he).1
      have hg:es.getD i []=e:=by simp[List.getD_eq_getElem?_getD,he]
      refine Gn (c:=i<es.length/\k+1<=s) (by simp only[A7,ha,hl,hg,q7J ht]) ?_
      simp only[Dz,ha,qAT,hl,Bool.and_eq_true];exact⟨by simpa[Nat.blt_eq]using hi,hks⟩
     ·cases h
    ·cases h
   ·cases h
  ·cases h
 ·exact h
theorem qCj {off:Nat} {a:Operand} (h:qAW off a o Γ d st=some z):opE o Γ d (.fadr off a) st=some z:=by
 unfold qAW at h;simp only[Y0]at h
 split at h
 ·rename_i ha;cases h;exact Gn (c:=True) (by simp only[A7,ha]) rfl
 ·rename_i ha;cases h;exact Gn (c:=True) (by simp only[A7,ha]) rfl
 ·cases h
theorem qCk {s:Nat} {x i:Operand} (h:qAX s x i o Γ d st=some z):opE o Γ d (.iadr s x i) st=some z:=by
 unfold qAX at h;simp only[Y0,q0g,q3L]at h
 split at h
 ·rename_i es cap nl hx
  split at h
  ·rename_i k n hi
   split at h
   ·rename_i e hw he
    cases h
    have hn:=(List.getElem?_eq_some_iff.1 he).1
    have hg:es.getD (Int.ofNat n).toNat []=e:=by simp[List.getD_eq_getElem?_getD,he]
    refine Gn (c:=0<=Int.ofNat n/\Int.ofNat n<es.length/\Gk s es) (by simp only[A7,hx,hi,hg]) ?_
    simp only[Dz,hx,hi,inB,Bool.and_eq_true];exact⟨by simpa[Nat.blt_eq]using hn,hw⟩
   ·cases h
  ·cases h
 ·rename_i id off len cap hx
  split at h
  ·rename_i k n hi
   split at h
   ·rename_i ty q es hn hl
    split at h
    ·rename_i hq
     cases h
     refine Gn (c:=q=s/\0<=Int.ofNat n/\Int.ofNat n<len) (by simp only[A7,hx,hi,hl];rfl) ?_
     simp only[Dz,hx,hi,hl,inB,Bool.and_eq_true];exact⟨hq,hn⟩
    ·cases h
   ·rename_i ty q es hn hl
    split at h
    ·rename_i hq
     cases h
     refine Gn (c:=q=s/\0<=Int.ofNat n/\Int.ofNat n<len) (by simp only[A7,hx,hi,hl];rfl) ?_
     simp only[Dz,hx,hi,hl,inB,Bool.and_eq_true];exact⟨hq,hn⟩
    ·cases h
   ·cases h
  ·cases h
 ·exact h
theorem qE7 {k:Nat} {x:Operand} (h:qE4 k x o Γ d st=some z):opE o Γ d (.len k x) st=some z:=by
 unfold qE4 at h;simp only[Y0]at h
 split at h
 ·rename_i es cap nl hx
  split at h
  ·rename_i hk
   have hk:=Nat.eq_of_beq_eq_true hk
   subst hk;cases h
   exact Gn (c:=True) (by simp only[A7,hx,Option.bind_some,qCH,if_true,lenOf,Option.map_some];rfl) rfl
  ·cases h
 ·rename_i id off len cap hx
  split at h
  ·rename_i hk
   have hk:=Nat.eq_of_beq_eq_true hk
   subst hk;cases h
   exact Gn (c:=True) (by simp only[A7,hx,Option.bind_some,qCH,if_true,lenOf,Option.map_some];rfl) rfl
  ·cases h
 ·exact h
theorem qCl {c a b:Operand} (h:qAY c a b o Γ d st=some z):opE o Γ d (.pick c a b) st=some z:=by
 unfold qAY at h;simp only[Y0]at h
 split at h
 ·rename_i p hp
  split at h
  ·rename_i u hu
   split at h
   ·rename_i v hv;cases h;exact Gn (c:=True) (by simp only[A7,hp,hu,hv]) rfl
   ·cases h
  ·cases h
 ·cases h
theorem qE8 {x:Operand} {i:Nat} (h:qE5 x i o Γ d st=some z):opE o Γ d (.ext x i) st=some z:=by
 unfold qE5 at h;simp only[Y0,q0g]at h
 split at h
 ·rename_i vs hx
  split at h
  ·rename_i t ht;cases h;exact Gn (c:=True) (by simp only[A7,hx,ht,Option.map_some]) rfl
  ·cases h
 ·rename_i vs hx
  split at h
  ·rename_i t ht;cases h;exact Gn (c:=True) (by simp only[A7,hx,ht,Option.map_some]) rfl
  ·cases h
 ·cases h
theorem qE9 {io:B6} (h:opF io o Γ d st=some z):opE o Γ d io st=some z:=by
 unfold opF at h
 split at h
 ·exact qG3 h
 ·exact qE6 h
 ·exact qCi h
 ·exact qCj h
 ·exact qCk h
 ·exact qE7 h
 ·exact qCl h
 ·exact qE8 h
 ·exact h
end
noncomputable def osF (ros:List RO):Or->Tables->St->Option St:=List.rec (motive:=fun _=>Or->Tables->St->Option St) (fun _ _ s=>some s)
 (fun ro _ ih o Γ s=>match ro.guard with
  | none=>match opF ro.op o Γ ro.d s with
   | some (r,s1)=>ih o Γ (s1.put ro.dst r)
   | none=>none
  | some g=>match D4 s.env (some g) with
   | some true=>match opF ro.op o Γ ro.d s with
    | some (r,s1)=>ih o Γ (s1.put ro.dst r)
    | none=>none
   | some false=>ih o Γ (s.put ro.dst .un)
   | none=>none) ros
theorem q87 {o:Or} {Γ:Tables} {s1:St}:∀ {ros:List RO} {s:St},osF ros o Γ s=some s1->osE o Γ ros s=some s1
 | [],s,h=>h
 | ro::ros,s,h=>by
  have e:osF (ro::ros) o Γ s=(match ro.guard with
   | none=>match opF ro.op o Γ ro.d s with
    | some (r,s1)=>osF ros o Γ (s1.put ro.dst r)
    | none=>none
   | some g=>match D4 s.env (some g) with
    | some true=>match opF ro.op o Γ ro.d s with
     | some (r,s1)=>osF ros o Γ (s1.put ro.dst r)
     | none=>none
    | some false=>osF ros o Γ (s.put ro.dst .un)
    | none=>none):=rfl
  rw[e]at h
  simp only[osE]
  split at h
  ·rename_i hg
   rw[hg]
   simp only[D4]
   split at h
   ·rename_i r s2 hr;rw[qE9 hr];exact q87 h
   ·cases h
  ·rename_i g hg
   rw[hg]
   split at h
   ·rename_i hw
    rw[hw]
    split at h
    ·rename_i r s2 hr;rw[qE9 hr];exact q87 h
    ·cases h
   ·rename_i hw;rw[hw];exact q87 h
   ·cases h
abbrev CR:=Or->Tables->St->Option (AX×St)
noncomputable def qIZ (a b:CR):CR:=fun o Γ s=>match a o Γ s with
 | some (.normal,s1)=>b o Γ s1
 | x=>x
noncomputable def qIa (ros:List RO) (gs:List Gh):CR:=fun o Γ s=>match osF ros o Γ s with
 | some s1=>some (.normal,gs.foldl (fun s g=>g.run s) s1)
 | none=>none
noncomputable def qEA (c:Operand) (a b:CR):CR:=fun o Γ s=>match evF Γ s.env c with
 | some (.t (.v (.bool true)))=>a o Γ s
 | some (.t (.v (.bool false)))=>b o Γ s
 | _=>none
noncomputable def qAZ (id:Nat) (a:CR):CR:=fun o Γ s=>match a o Γ s with
 | some (.exit i,s1)=>match Nat.beq i id with
  | true=>some (.normal,s1)
  | false=>some (.exit i,s1)
 | x=>x
noncomputable def lpF (n:Nat):(St->Option (AX×St))->St->Option (AX×St):=Nat.rec (motive:=fun _=>(St->Option (AX×St))->St->Option (AX×St)) (fun _ _=>none) (fun _ ih F s=>match F s with
 | some (.normal,s1)=>ih F s1
 | x=>x) n
theorem qEB {F:St->Option (AX×St)}:∀ (n:Nat) (s:St),lpF n F s=q2K F n s
 | 0,_=>rfl
 | n+1,s=>by
  have e:lpF (n+1) F s=(match F s with
   | some (.normal,s1)=>lpF n F s1
   | x=>x):=rfl
  rw[e];simp only[q2K]
  split
  ·rename_i hs;rw[hs];exact qEB n _
  ·rename_i hn;split
   ·rename_i hs;exact absurd hs (hn _)
   ·rfl
noncomputable def qLD (a:CR):CR:=fun o Γ s=>lpF 100000000 (a o Γ) s
noncomputable def cGh (gs:List Gh) (a:CR):CR:=fun o Γ s=>match a o Γ s with
 | some (.normal,s1)=>some (.normal,gs.foldl (fun s g=>g.run s) s1)
 | x=>x
noncomputable def Ql (c:IC):CR:=IC.rec (motive:=fun _=>CR) (fun _ _ s=>some (.normal,s)) qIa (fun _ _ a b=>qIZ a b) (fun c _ _ a b=>qEA c a b) (fun id _ a=>qAZ id a) (fun _ a=>qLD a) (fun i _ _ s=>some (.exit i,s)) (fun _ _ s=>some (.ret,s)) (fun _ a=>a) (fun _ gs a=>cGh gs a) (fun _ a=>a) (fun gs _ a o Γ s=>a o Γ (gs.foldl (fun s g=>g.run s) s)) (fun _ _ _=>none) c
theorem Eh {o:Or} {Γ:Tables}:∀ {c:IC} {s:St} {z:AX×St},Ql c o Γ s=some z->Cb o Γ c s=some z
 | .skip,_,_,h=>h
 | .reg ros gs,s,z,h=>by
  have h:qIa ros gs o Γ s=some z:=h
  unfold qIa at h
  split at h
  ·rename_i s1 hs;simp only[Cb,q87 hs];exact h
  ·cases h
 | .seq a b,s,z,h=>by
  have h:qIZ (Ql a) (Ql b) o Γ s=some z:=h
  unfold qIZ at h
  split at h
  ·rename_i s1 hs;simp only[Cb,Eh (c:=a) hs];exact Eh (c:=b) h
  ·rename_i hn
   obtain⟨e,s1⟩:=z
   have:=Eh (c:=a) h
   cases e with
   | normal=>exact absurd h (hn _)
   | exit i=>simp only[Cb,this]
   | ret=>simp only[Cb,this]
 | .cond c a b,s,z,h=>by
  have h:qEA c (Ql a) (Ql b) o Γ s=some z:=h
  unfold qEA at h;rw[Y0]at h
  split at h
  ·rename_i hc;simp only[Cb,hc];exact Eh (c:=a) h
  ·rename_i hc;simp only[Cb,hc];exact Eh (c:=b) h
  ·cases h
 | .block id a,s,z,h=>by
  have h:qAZ id (Ql a) o Γ s=some z:=h
  unfold qAZ at h
  split at h
  ·rename_i i s1 hs
   simp only[Cb,Eh (c:=a) hs]
   split at h
   ·rename_i hi;rw[if_pos (Nat.eq_of_beq_eq_true hi)];exact h
   ·rename_i hi;rw[if_neg fun e=>by subst e;rw[Nat.beq_refl]at hi;cases hi];exact h
  ·rename_i hn
   obtain⟨e,s1⟩:=z
   have:=Eh (c:=a) h
   cases e with
   | exit i=>exact absurd h (hn _ _)
   | normal=>simp only[Cb,this]
   | ret=>simp only[Cb,this]
 | .loop a,s,z,h=>by
  have h:lpF 100000000 (Ql a o Γ) s=some z:=h
  simp only[Cb]
  rw[qEB]at h
  have key:∀ (n:Nat) (s:St),q2K (Ql a o Γ) n s=some z->q2K (Cb o Γ a) n s=some z:=by
   intro n
   induction n with
   | zero=>intro s h;cases h
   | succ n ih =>
    intro s h
    simp only[q2K]at h ⊢
    split at h
    ·rename_i s1 hs;rw[Eh (c:=a) hs];exact ih _ h
    ·rename_i hn
     obtain⟨e,s1⟩:=z
     have:=Eh (c:=a) h
     cases e with
     | normal=>exact absurd h (hn _)
     | exit i=>simp only[this]
     | ret=>simp only[this]
  exact key _ s h
 | .exit i,_,_,h=>h
 | .ret,_,_,h=>h
 | .scope a,s,z,h=>by
  have h:Ql a o Γ s=some z:=h
  simp only[Cb];exact Eh (c:=a) h
 | .gh a gs,s,z,h=>by
  have h:cGh gs (Ql a) o Γ s=some z:=h
  unfold cGh at h
  split at h
  ·rename_i s1 hs;simp only[Cb,Eh (c:=a) hs];exact h
  ·rename_i hn
   obtain⟨e,s1⟩:=z
   have:=Eh (c:=a) h
   cases e with
   | normal=>exact absurd h (hn _)
   | exit i=>simp only[Cb,this]
   | ret=>simp only[Cb,this]
 | .ghW a,s,z,h=>by
  have h:Ql a o Γ s=some z:=h
  simp only[Cb];exact Eh (c:=a) h
 | .pre gs a,s,z,h=>by
  have h:Ql a o Γ (gs.foldl (fun s g=>g.run s) s)=some z:=h
  simp only[Cb];exact Eh (c:=a) h
 | .dead,_,_,h=>h
section
variable (tb:Tbl) (o:Or) (Γ:Tables)
noncomputable def pF (f:FuncId) (ts:List T):Option T:=match lkF tb f with
 | some e=>match Nat.beq ts.length e.n with
  | true=>match q5X (Ql e.ic o Γ ⟨params 0 ts,[]⟩) with
   | some s=>qCg s e.rv
   | none=>none
  | false=>none
 | none=>none
noncomputable def fF (f:FuncId) (ts:List T):Option T:=match lkF tb f with
 | some e=>match Nat.beq ts.length e.n with
  | true=>match q5X (Ql e.ic o Γ ⟨params 0 ts,[]⟩) with
   | some s=>match q86 s with
    | true=>qCg s e.rv
    | false=>none
   | none=>none
  | false=>none
 | none=>none
noncomputable def hF (f:FuncId) (hp:List (Nat×Aj)) (as:List AV):Option (AV×List (Nat×Aj)):=match lkF tb f with
 | some e=>match Nat.beq as.length e.n with
  | true=>match q5X (Ql e.ic o Γ ⟨Xy 0 as,hp⟩) with
   | some s=>match qBk s e.rv with
    | some r=>some (r,s.hp)
    | none=>none
   | none=>none
  | false=>none
 | none=>none
noncomputable def Or.upF (x:Or):Or:=⟨fun f ts=>match x.p f ts with|some r=>some r|none=>pF tb o Γ f ts,fun f ts=>match x.f f ts with|some r=>some r|none=>fF tb o Γ f ts,fun f hp as=>match x.h f hp as with|some r=>some r|none=>hF tb o Γ f hp as⟩
noncomputable def orF (x:Or) (n:Nat):Or:=Nat.rec (motive:=fun _=>Or) x (fun _ ih=>Or.upF tb ih Γ x) n
variable {tb:Tbl} {o:Or} {Γ:Tables} {P:Program}
theorem qIb {c:IC} {s s1:St} (h:q5X (Ql c o Γ s)=some s1):q5X (Cb o Γ c s)=some s1:=by
 rcases qBl h with h|h
 ·rw[Eh h];rfl
 ·rw[Eh h];rfl
theorem qH1 {f:FuncId} {ts:List T} {r:T} (h:pF tb o Γ f ts=some r):pE tb o Γ f ts=some r:=by
 unfold pF at h;rw[q3L]at h
 split at h
 ·rename_i e he
  split at h
  ·rename_i hn
   split at h
   ·rename_i s hs
    unfold pE;simp only[he,hn,if_true,qIb hs];exact h
   ·cases h
  ·cases h
 ·cases h
theorem qLE {f:FuncId} {ts:List T} {r:T} (h:fF tb o Γ f ts=some r):fE tb o Γ f ts=some r:=by
 unfold fF at h;rw[q3L]at h
 split at h
 ·rename_i e he
  split at h
  ·rename_i hn
   split at h
   ·rename_i s hs
    split at h
    ·rename_i hf;unfold fE;simp only[he,hn,if_true,qIb hs,hf];exact h
    ·cases h
   ·cases h
  ·cases h
 ·cases h
theorem qLF {f:FuncId} {hp:List (Nat×Aj)} {as:List AV} {r:AV×List (Nat×Aj)} (h:hF tb o Γ f hp as=some r):hhE tb o Γ f hp as=some r:=by
 unfold hF at h;rw[q3L]at h
 split at h
 ·rename_i e he
  split at h
  ·rename_i hn
   split at h
   ·rename_i s hs
    split at h
    ·rename_i q hq;unfold hhE;simp only[he,hn,if_true,qIb hs,hq];exact h
    ·cases h
   ·cases h
  ·cases h
 ·cases h
theorem qEC (ht:q5W P tb) {x:Or} (hx:q4S P Γ x):∀ n,q4S P Γ (orF tb Γ x n)
 | 0=>hx
 | n+1=>by
  have ho:=qEC ht hx n
  have e:orF tb Γ x (n+1)=Or.upF tb (orF tb Γ x n) Γ x:=rfl
  rw[e]
  refine⟨fun f ts r h=>?_,fun f ts r h=>?_,fun f hp as r hp' h=>?_⟩
  ·simp only[Or.upF]at h
   split at h
   ·rename_i q hq;simp only[Option.some.injEq]at h;subst h;exact hx.p _ _ _ hq
   ·exact qGz ht ho (qH1 h)
  ·simp only[Or.upF]at h
   split at h
   ·rename_i q hq;simp only[Option.some.injEq]at h;subst h;exact hx.f _ _ _ hq
   ·exact qL1 ht ho (qLE h)
  ·simp only[Or.upF]at h
   split at h
   ·rename_i q hq;simp only[Option.some.injEq]at h;subst h;exact hx.h _ _ _ _ _ hq
   ·exact qIX ht ho (qLF h)
end
end Go.Lg
namespace Go.Lg
open Go
abbrev tm (n:Nat):Operand:=.tmp n
abbrev ki (n:Int):Operand:=.const (.int .i64 n)
abbrev ku (n:Int):Operand:=.const (.int .u8 n)
abbrev kT:Operand:=.const (.bool true)
abbrev kF:Operand:=.const (.bool false)
abbrev kN:Operand:=.const (.slice none 0 0)
abbrev od (d:Nat) (io:B6):RO:=⟨some d,io,none,none⟩
abbrev on (io:B6):RO:=⟨none,io,none,none⟩
abbrev oz (d:Nat) (io:B6) (r:Nat):RO:=⟨some d,io,none,some r⟩
abbrev oT (d:Nat) (io:B6) (g:Nat):RO:=⟨some d,io,some (g,true),none⟩
abbrev oF (d:Nat) (io:B6) (g:Nat):RO:=⟨some d,io,some (g,false),none⟩
abbrev om (d x:Nat):RO:=⟨some d,.mv (.tmp x),none,none⟩
abbrev ld (n x:Nat):B6:=.load n false (.tmp x)
abbrev lG (n x:Nat):B6:=.load n true (.tmp x)
abbrev ia (s x i:Nat):B6:=.iadr s (.tmp x) (.tmp i)
abbrev fa (k x:Nat):B6:=.fadr k (.tmp x)
abbrev le (k x:Nat):B6:=.len k (.tmp x)
abbrev ex (x i:Nat):B6:=.ext (.tmp x) i
abbrev kp (ks rs:List Nat):Gh:=.keep ks rs
end Go.Lg
namespace Go.Lg
open Go Go.RowKit
def Old (w:World) (b:Nat):Prop:=b<w.heap.size
def Rd (P:Program) (t:TypeId) (S:List T->Prop):Prop :=
 ∀ (H:Type) (enc:TypeId×Value->H) (w:World) (held:Bool) (fuel:Nat) (cs:List Value) (x:DataW H×List MemPlace),DataW.trod enc P w 0 (fun _=>true) held fuel t cs=some x->∃ ts,S ts/\Ds w (Old w) ts cs/\∀ u∈ts,u.one=true
theorem qBn {w:World} {a:Addr} {v:Value} (h:w.cell? a=some v):a.block<w.heap.size:=by
 unfold World.cell? at h
 split at h
 ·rename_i hb
  have:=Array.getElem?_eq_some_iff.1 hb
  exact this.1
 ·simp at h
variable {P:Program} {t e:TypeId}
theorem Ds.one1 {w:World} {X:Nat->Prop} {u:T} {v:Value} (h:TR w X u v):Ds w X [u] [v]:=Ds.cons h (Ds.nil w X)
theorem Rd.mono {S S':List T->Prop} (h:Rd P t S) (hs:∀ ts,S ts->S' ts):Rd P t S':=fun H enc w held fuel cs x hx=>by
 obtain⟨ts,h1,h2,h3⟩:=h H enc w held fuel cs x hx
 exact⟨ts,hs ts h1,h2,h3⟩
theorem qIc {k:IntKind} (ht:P.underlying t=some (.int k)):Rd P t fun ts=>∃ n,ts=[.v (.int k n)]/\(Lit.int k n).wf=true:=by
 intro H enc w held fuel cs x h
 obtain⟨n,rfl,_,hw⟩:=DataW.trod_int ht h
 exact⟨[.v (.int k n)],⟨n,rfl,hw⟩,Ds.one1 (.v _),by intro u hu;simp at hu;subst hu;rfl⟩
theorem q7K {α:Type} {Q:Nat->α->Prop}:∀ (n:Nat),(∀ i,i<n->∃ a,Q i a)->∃ l:List α,l.length=n/\∀ i a,l[i]? = some a->Q i a
 | 0,_=>⟨[],rfl,fun i a h=>by simp at h⟩
 | n+1,h=>by
  obtain⟨l,hl,hq⟩:=q7K n fun i hi=>h i (by omega)
  obtain⟨a,ha⟩:=h n (by omega)
  refine⟨l++[a],by simp[hl],fun i b hb=>?_⟩
  by_cases hi:i<n
  ·rw[List.getElem?_append_left (by omega)]at hb;exact hq i b hb
  ·have:i=n:=by
    have:=(List.getElem?_eq_some_iff.1 hb).1
    simp at this;omega
   subst this
   rw[List.getElem?_append_right (by omega),hl]at hb
   simp at hb;subst hb;exact ha
theorem qED {s:Nat} {S:List T->Prop} (ht:P.underlying t=some (.slice e)) (hc:P.cellsOf e=s) (hs:0<s) (he:Rd P e S) :
  Rd P t fun ts=>∃ es cap nl,ts=[.sl es cap nl]/\es.length<=maxLen/\∀ x∈es,S x/\x.length=s:=by
 intro H enc w held fuel cs x h
 rcases DataW.trod_slice ht h with⟨rfl,_⟩|⟨a,len,cap,qLT,rest,n,rfl,rfl,_,_,hlc,hcm,hel,hat,_,_⟩
 ·exact⟨[.sl [] (some 0) (some true)],⟨[],_,_,rfl,by simp,by simp⟩,Ds.one1 (.nil _ _ none 0 (by rintro n ⟨⟩;rfl) (by rintro b ⟨⟩;rfl) (fun _=>rfl)),by intro u hu;simp at hu;subst hu;rfl⟩
 by_cases h0:len=0
 ·subst h0
  exact⟨[.sl [] none none],⟨[],_,_,rfl,by simp,by simp⟩,Ds.one1 (.nil _ _ (some a) cap (fun _ h=>by cases h) (fun _ h=>by cases h) (fun h=>by cases h)),by intro u hu;simp at hu;subst hu;rfl⟩
 obtain⟨b,off,spot⟩:=a
 obtain⟨hsp,hb⟩:spot=none/\b<w.heap.size:=by
  have h1:=hat 0 (by omega)
  rw[List.getElem?_eq_getElem (by omega),Option.bind_eq_some_iff]at h1
  obtain⟨cs',h2,h3⟩:=h1
  unfold World.cells? at h2
  rw[if_pos (Nat.zero_le _)]at h2
  have hl:=mapM_some_length h2
  simp only[List.length_range,hc]at hl
  have h4:=mapM_some_get h2 0 0 (by simp[hc,hs])
  rw[List.getElem?_eq_getElem (by omega)]at h4
  simp[Addr.add]at h4
  exact⟨World.cell?_spot h4,qBn h4⟩
 subst hsp
 have hadd:∀ k,(Addr.mk b off none).add k=⟨b,off+k,none⟩:=fun k=>by
  unfold Addr.add
  split
  ·rename_i h;subst h;rfl
  ·rfl
 have hadd2:∀ o k,(Addr.mk b o none).add k=⟨b,o+k,none⟩:=fun o k=>by
  unfold Addr.add
  split
  ·rename_i h;subst h;rfl
  ·rfl
 have hone:∀ i,i<len->∃ el:List T,S el/\el.length=s/\(∀ u∈el,u.one=true)/\∀ k,k<s->∃ v,w.cell? ⟨b,off+i*s+k,none⟩=some v/\∀ u,el[k]? = some u->TR w (Old w) u v:=fun i hi=>by
  have h1:=hat i hi
  rw[List.getElem?_eq_getElem (by omega),Option.bind_eq_some_iff]at h1
  obtain⟨cs',h2,h3⟩:=h1
  obtain⟨el,hS,htr,ho⟩:=he H enc w held n cs' _ h3
  unfold World.cells? at h2
  rw[if_pos (Nat.zero_le _)]at h2
  have hl:=mapM_some_length h2
  simp only[List.length_range,hc]at hl
  refine⟨el,hS,by rw[htr.1,hl],ho,fun k hk=>?_⟩
  have h4:=mapM_some_get h2 k k (by simp[hc,hk])
  rw[List.getElem?_eq_getElem (by omega),hadd,hadd2,hc]at h4
  exact⟨cs'[k],h4,fun u hu=>htr.2 k u _ hu (List.getElem?_eq_getElem (by omega))⟩
 obtain⟨es,hlen,hes⟩:=q7K len hone
 have hget:∀ i (hi:i<es.length),es[i]? = some es[i]:=fun i hi=>List.getElem?_eq_getElem hi
 refine⟨[.sl es none none],⟨es,none,none,rfl,by omega,fun x hx=>?_⟩,?_,by intro u hu;simp at hu;subst hu;rfl⟩
 ·obtain⟨i,hi,rfl⟩:=List.getElem_of_mem hx
  have:=hes i _ (hget i hi)
  exact⟨this.1,this.2.1⟩
 ·rw[<- hlen]
  refine Ds.one1 (.sl es none none s b off cap (fun i k=>(w.cell? ⟨b,off+i*s+k,none⟩).getD .nilFunc) ?_ ?_ ?_ ?_ hb (by omega) (fun _ h=>by cases h) (fun _ h=>by cases h))
  ·intro i k hi hk
   obtain⟨v,hv,_⟩:=(hes i _ (hget i hi)).2.2.2 k hk
   simp[hv]
  ·intro i el hi
   exact(hes i _ hi).2.1
  ·intro i k el u hi hu
   have hq:=hes i _ hi
   have hk:k<s:=by rw[<- hq.2.1];exact(List.getElem?_eq_some_iff.1 hu).1
   obtain⟨v,hv,hr⟩:=hq.2.2.2 k hk
   simp only[hv,Option.getD_some]
   exact hr u hu
  ·intro i k el u hi hu
   exact(hes i _ hi).2.2.1 u (List.mem_of_getElem? hu)
theorem q5Z {H:Type} {enc:TypeId×Value->H} {w:World} {base:Nat} {sp:Nat->Bool} {held:Bool} {fuel:Nat} {n:Nat} {q:TypeId} {k:IntKind} {cs:List Value} {l:List (Int×Int)} {p:List MemPlace}
  (ht:P.underlying t=some (.array n e)) (he:P.underlying e=some (.array 2 q)) (hq:P.underlying q=some (.int k)) (hcq:P.cellsOf q=1) (hce:P.cellsOf e=2) (hct:P.cellsOf t=n*2)
  (h:DataW.trod enc P w base sp held fuel t cs=some (.agg (l.map fun x=>.agg [.lit (.int k x.1),.lit (.int k x.2)]),p)):cs=l.flatMap fun x=>[.int k x.1,.int k x.2]:=by
 obtain⟨xs,m,rfl,hx,hcl,hn,hat⟩:=DataW.trod_array ht h
 simp only[Prod.mk.injEq,DataW.agg.injEq]at hx
 have hxs:=hx.1
 have hl:l.length=n:=by have:=congrArg List.length hxs;simp at this;omega
 have hi:∀ i (h:i<l.length),(cs.drop (i*2)).take 2=[.int k l[i].1,.int k l[i].2]:=fun i hi=>by
  have h1:=hat i (by omega)
  rw[hce,List.getElem?_eq_getElem (by omega)]at h1
  have h2:xs[i].1=.agg [.lit (.int k l[i].1),.lit (.int k l[i].2)]:=by
   have:=congrArg (fun z=>z[i]?) hxs
   simp only[List.getElem?_map,List.getElem?_eq_getElem hi,List.getElem?_eq_getElem (show i<xs.length by omega),Option.map_some,Option.some.injEq]at this
   exact this.symm
  have h3:xs[i]=(.agg [.lit (.int k l[i].1),.lit (.int k l[i].2)],xs[i].2):=by rw[<- h2]
  rw[h3]at h1
  exact Lib.cells_of_tab (zs:=[l[i].1,l[i].2]) he hq hcq hce h1
 have hcl':cs.length=l.length*2:=by omega
 clear h hat hx hxs hcl hn hct ht hl
 induction l generalizing cs with
 | nil=>exact List.eq_nil_of_length_eq_zero (by simpa using hcl')
 | cons x l ih =>
  have h0:=hi 0 (by simp)
  simp only[Nat.zero_mul,List.drop_zero,List.getElem_cons_zero]at h0
  have hr:=ih (cs:=cs.drop 2) (fun i h=>by
   have:=hi (i+1) (by simpa using h)
   rw[Nat.add_mul,Nat.one_mul,Nat.add_comm (i*2)]at this
   simpa[List.drop_drop]using this) (by simp at hcl' ⊢;omega)
  rw[List.flatMap_cons,<- h0,<- hr,List.take_append_drop]
theorem q0x {H:Type} {enc:TypeId×Value->H} {W W':World} (hl:laidOutB P=true) (hb:Below W.heap.size W W'):∀ {ts:List TypeId} {vs:List Value} {ds:List (DataW H)} {p:List MemPlace},(∀ t∈ts,P.readableRec t=true/\t<P.types.size)->DataW.TrodAll enc P W 0 (fun _=>true) true ts vs ds p->(∀ x∈p,x.block<W.heap.size)->DataW.TrodAll enc P W' 0 (fun b=>decide (b<W.heap.size)) true ts vs ds p
 | [],[],[],_,_,h,_=>h
 | [],[],_::_,_,_,h,_=>h.elim
 | [],_::_,_,_,_,h,_=>by cases h
 | _::_,[],_,_,_,h,_=>by cases h
 | _::_,_::_,[],_,_,h,_=>by cases h
 | t::ts,v::vs,d::ds,_,hr,h,hlt=>by
  obtain⟨p1,q1,h1,h2,rfl⟩:=h
  have hr0:=hr t List.mem_cons_self
  exact⟨p1,q1,Below.trod hl hr0.1 hr0.2 h1 hb (fun x hx=>hlt x (List.mem_append_left _ hx)),q0x hl hb (fun t' ht=>hr t' (List.mem_cons_of_mem _ ht)) h2 (fun x hx=>hlt x (List.mem_append_right _ hx)),rfl⟩
theorem qEE {H:Type} {enc:TypeId×Value->H} {f:Func} {s:ChangeSpec} {W W':World} {args:Array Value} {ds gs:List (DataW H)} {before:List MemPlace} {tb:TypeId}
  (hl:laidOutB P=true) (hr:∀ t∈f.params.toList,P.readableRec t=true/\t<P.types.size) (hv:s.vars=[]) (hres:f.resultTypes=#[tb]) (htb:P.underlying tb=some .bool)
  (hW:DataW.Whole enc P f.params.toList s.vars false W args.toList ds gs before) (hfn:(s.fn H (ds++gs)).results=[.lit (.bool true)]) (hfa:(s.fn H (ds++gs)).args=ds) (hfv:(s.fn H (ds++gs)).vars=[]) (hb:Below W.heap.size W W') :
  s.post enc P f false true false false W args (.bool true) W':=by
 have hW':=hW
 obtain⟨p,q,hA,hV,rfl,_,_⟩:=hW
 have hlt:∀ x∈p++q,x.block<W.heap.size:=fun x hx=>by simpa using hW'.lt x hx
 have hargs:=q0x hl hb hr hA (fun x hx=>hlt x (List.mem_append_left _ hx))
 rw[hv]at hV
 obtain⟨rfl,rfl⟩:=ChangeShapes.trodVars_none hV
 refine⟨ds,[],p++[],[],p,[],hW',?_,?_,?_,hb.frame _,fun h=>by cases h⟩
 ·rw[hfn,hres]
  exact ChangeShapes.trodAll_mk1 (RowKit.shut_bool htb _)
 ·rw[hfa];exact hargs
 ·rw[hv,hfv];rfl
theorem qCm {Γ:Tables} {f:FuncId} {N n:Nat} {ic:IC} {rvs:List RV} {args:List T} {W:World} {vs:List Value} (hc:Ax P f ic N n rvs=true) (h:An P Γ f args (.v (.bool true))) (hg:Gl Γ W (Old W)) (ha:Ds W (Old W) args vs) :
  Calls P f vs.toArray W fun e W'=>e=.returned (.bool true)/\Below W.heap.size W W':=by
 rcases h W (Old W) vs hg (fun b hb=>hb) ha with⟨_,h2⟩|⟨v,h1,_⟩
 ·refine h2.mono fun e W' ⟨v,he,hb,hr⟩=>?_
  cases hr
  exact⟨he,hb⟩
 ·rw[Zo hc]at h1
  cases h1
end Go.Lg
