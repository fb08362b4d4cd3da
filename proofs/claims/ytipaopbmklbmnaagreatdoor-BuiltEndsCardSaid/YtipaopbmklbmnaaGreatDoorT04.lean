/- Lemmas. -/
import Derived.RangeFuncNested
import Derived.RangeFuncBound
import Derived.RangeFuncCalls
import Derived.RangeFuncLeaves
import Derived.OwnWalkIn
import Derived.TacticsInMore
import Derived.LoopNIn
import Derived.LoopIn
import Derived.Shelf.RegionOpen
import Derived.Laws.OwnMore
import Derived.ArgAppend
import Derived.Test.YtipaopbmklbmnaaGreatDoorT03
set_option linter.all false
set_option maxRecDepth 100000
set_option maxHeartbeats 0
namespace Go
section
open Go.RowKit
section
variable {P:Program} {Q:Exit->Act->World->Prop} {ops:List Oper} {m:Nat}
def Oper.wildUpon (Cw:World->Prop) (w:World) (T:World->World->Prop) (R:Value->World->Prop) : Result Next->Prop
 | .ok (.value v) w'=>Cw w'/\T w w'/\R v w'
 | .ok .skip w'=>Cw w'/\T w w'/\R undef w'
 | _=>False
def Oper.wild (P:Program) (o:Oper) (a:Act) (Cw:World->Prop) (w:World) (T:World->World->Prop) (R:Value->World->Prop) : Prop:=Oper.wildUpon Cw w T R ((execOp a.eval o).run P w)
theorem Oper.wp_of_wild {o:Oper} {a:Act} {Cw:World->Prop} {w:World} {T:World->World->Prop} {R:Value->World->Prop} {K:Act->World->Prop} {Q':Exit->Act->World->Prop} (hh:o.wild P a Cw w T R)
  (h:∀ v w',Cw w'->T w w'->R v w'->K (a.put o.dst v) w') : o.wp P a w K Q':=by
 unfold Oper.wild at hh;unfold Oper.wp;generalize (execOp a.eval o).run P w=r at *;cases r with
 | ok n w' =>
   cases n <;> simp only [Oper.wildUpon] at hh <;> simp only [Oper.upon]
   case value u=>exact h _ _ hh.1 hh.2.1 hh.2.2
   case skip=>exact h _ _ hh.1 hh.2.1 hh.2.2
 | halt x w'=>simp only [Oper.wildUpon] at hh
def StaysT (T:World->World->Prop) (R:Value->World->Prop) : Prop:=∀ v w w',T w w'->R v w->R v w'
def zHE (ops:List Oper) (p i:Nat) : Bool:=(zMK ops 12 ((ops[i]?).elim [] Oper.waitsOn)).contains p
def wildB (ops:List Oper) (m p:Nat) (C:List Nat) : Bool :=
 zJK ops m && decide (p < m) && ((ops[p]?).elim false fun o=>o.guard.isNone) && !C.contains p &&
 (List.range m).all (fun k=>k == p || ((ops[k]?).elim [] Oper.waitsOn).all (fun j=>!C.contains j))
theorem growW_any (p:Nat) (C:List Nat) (T:World->World->Prop) (hW:wildB ops m p C=true) {a0:Act} {Cw:World->Prop} (hCw:∀ w w',Below w.heap.size w w'->Cw w->Cw w') (H:Nat->Value->World->Prop) (hs:∀ i,zED (H i))
  (hT:∀ i,i < m->i≠p->C.contains i=true\/zHE ops p i=true\/StaysT T (H i))
  {I0:World->Prop} (step:∀ i o,i < m->i≠p->ops[i]? = some o->∀ vs w,Cw w->(zHE ops i p=true->I0 w)->(∀ j∈o.waitsOn,H j (vs j) w)->zAE P ops.toArray o (zAB vs (ops.take m) 0 a0) w (H i))
   (hI:∀ w w',Below w.heap.size w w'->I0 w->I0 w')
  (wild:∀ o,ops[p]? = some o->∀ vs w,Cw w->I0 w->(∀ j∈o.waitsOn,H j (vs j) w)->o.wild P (zAB vs (ops.take m) 0 a0) Cw w T (H p))
  (done:∀ vs w,Cw w->(∀ i,i < m->C.contains i=false->H i (vs i) w)->wpList P ops.toArray Q (ops.drop m) (zAB vs (ops.take m) 0 a0) w) :
  ∀ (fuel:Nat) (L:Array Bool) (a:Act) (w:World),L.size=ops.length->zEY ops L->(∀ j,m<=j->L.getD j false=false)->unTo L ops.length<=fuel ->
   (∃ vs,a=zAB vs (ops.take m) 0 a0/\Cw w/\(L.getD p false=false->I0 w)/\∀ i,i < m->L.getD i false=true->(C.contains i=true->L.getD p false=false)->H i (vs i) w)->wpAny P .any ops.toArray Q fuel L a w:=by
 simp only [wildB,Bool.and_eq_true,decide_eq_true_eq] at hW;obtain ⟨⟨⟨⟨hB,hp⟩,hpg⟩,hpC⟩,hC⟩:=hW;have hml:=zMT hB;have hCC:∀ k o,k < m->k≠p->ops[k]? = some o->∀ j∈o.waitsOn,C.contains j=false:=fun k o hk hkp ho j hj=>by
  have:=List.all_eq_true.1 hC k (List.mem_range.2 hk);simp only [ho,Option.elim,Bool.or_eq_true,beq_iff_eq,hkp,false_or] at this;simpa using List.all_eq_true.1 this j hj
 have hpl:p < ops.length:=by omega
 intro fuel;induction fuel with
 | zero =>
   intro L a w hL hd ht hu ⟨vs,ha,hb,hi0,hf⟩;have hall:=zJM L ops.length (by omega);refine zKN hB 0 L m a w hL (Nat.le_refl _) (fun i hi=>?_) hu ?_
   ·rw [hall i hi]
    by_cases e:i < m
    ·simp [e]
    ·have h1:=zDK (by omega) (hall i hi);rw [ht i (by omega)] at h1;cases h1
   ·rw [ha];exact done vs w hb fun i hi hc=>hf i hi (zDK (by omega) (hall i (by omega))) (fun h=>by rw [hc] at h;cases h)
 | succ fuel ih =>
   intro L a w hL hd ht hu ⟨vs,ha,hb,hi0,hf⟩;by_cases hall:∀ i,i < m->L.getD i true=true
   ·refine zKN hB (fuel+1) L m a w hL (Nat.le_refl _) (fun i hi=>?_) hu ?_
    ·by_cases e:i < m
     ·rw [hall i e];simp [e]
     ·have h1:=ht i (by omega)
      have h2:L.getD i true=false:=by
       by_cases h3:L.getD i true=true
       ·rw [zDK (by omega) h3] at h1;cases h1
       ·simpa using h3
      rw [h2];simp;omega
    ·rw [ha];exact done vs w hb fun i hi hc=>hf i hi (zDK (by omega) (hall i hi)) (fun h=>by rw [hc] at h;cases h)
   ·refine ⟨fun h0=>(hall fun i hi=>zHY hB hL h0 i (by omega)).elim,fun k hk=>?_⟩
    obtain ⟨h0,o,hok,hw⟩:=zDE.1 hk;have hkl:=(List.getElem?_eq_some_iff.1 hok).1;have hkm:k < m:=by
     by_cases e:k < m
     ·exact e
     ·exfalso
      refine hall fun i hi=>zGB ?_
      exact zCL hd 12 _ (by rw [hok];exact hw) i (zHW hB hkl (by omega) i (by omega))
    have hkf:L.getD k false=false:=by
     by_cases e:L.getD k false=true
     ·rw [zGB e] at h0;cases h0
     ·simpa using e
    have hput:∀ v,a.put o.dst v=zAB (fun j=>if j=k then v else vs j) (ops.take m) 0 a0:=fun v=>by
     rw [ha];have:=zRD vs v (ops.take m) 0 k a0 o (zME hB) (by rw [List.getElem?_take_of_lt hkm];exact hok);rw [this];exact zEZ _ _ _ _ _ fun j _=>by rw [Nat.zero_add]
    have hcnt:unTo (L.setIfInBounds k true) ops.length<=fuel:=by have:=zOL L k h0 ops.length hkl;omega
    have htl:∀ j,m<=j->(L.setIfInBounds k true).getD j false=false:=fun j hj=>by
     rw [getD_set_ne false (by omega)];exact ht j hj
    by_cases hkp:k=p
    ·subst hkp
     have hdeps:∀ j∈o.waitsOn,H j (vs j) w:=fun j hj=>hf j (by have:=zEN hB hok j hj;omega) (hw j hj) (fun _=>hkf)
     have hwd:=wild o hok vs w hb (hi0 hkf) hdeps;unfold wpOp;simp only [List.getElem?_toArray,hok];simp only [hok,Option.elim] at hpg;have hg:o.guard=none:=by simpa using hpg
     rw [if_pos (by unfold Region.wanted;rw [hg])];refine .inl ?_;rw [<- ha] at hwd;refine Oper.wp_of_wild hwd fun v w' hb' hTw hv=>?_
     have hset:(L.setIfInBounds k true).getD k false=true:=by simp [hL,hpl]
     refine ih _ _ w' (by simpa using hL) (zDQ hd hok hw) htl hcnt ⟨_,hput v,hb',fun h=>(by rw [hset] at h;cases h),fun i hi hli hci=>?_⟩;by_cases e:i=k
     ·subst e;simp only [if_pos];exact hv
     ·simp only [if_neg e]
      rw [getD_set_ne false (Ne.symm e)] at hli;rcases hT i hi e with h1 | h1 | h1
      ·rw [hci h1] at hset;cases hset
      ·exfalso
       have ho':ops[i]? = some ops[i]:=List.getElem?_eq_getElem (by omega);have:L.getD k false=true:=by refine zCL hd 12 _ (fun j hj=>?_) k (by simpa [zHE] using h1);rw [ho'] at hj;exact hd i _ hli ho' j hj
       rw [hkf] at this;cases this
      ·exact h1 _ _ _ hTw (hf i hi hli (fun _=>hkf))
    ·have hdeps:∀ j∈o.waitsOn,H j (vs j) w:=fun j hj=>hf j (by have:=zEN hB hok j hj;omega) (hw j hj) (fun h=>by rw [hCC k o hkm hkp hok j hj] at h;cases h)
     have hbe:zHE ops k p=true->I0 w:=fun h1=>hi0 (by
      by_cases e:L.getD p false=true
      ·exfalso
       have ho':ops[p]? = some ops[p]:=List.getElem?_eq_getElem (by omega);have:L.getD k false=true:=by refine zCL hd 12 _ (fun j hj=>?_) k (by simpa [zHE] using h1);rw [ho'] at hj;exact hd p _ e ho' j hj
       rw [hkf] at this;cases this
      ·simpa using e)
     have hst:=step k o hkm hkp hok vs w hb hbe hdeps;have hnext:∀ v w',Below w.heap.size w w'->H k v w'->wpAny P .any ops.toArray Q fuel (L.setIfInBounds k true) (a.put o.dst v) w':=fun v w' hbw hv=>by
      refine ih _ _ w' (by simpa using hL) (zDQ hd hok hw) htl hcnt ⟨_,hput v,hCw _ _ hbw hb,fun h=>hI _ _ hbw (hi0 (by rwa [getD_set_ne false hkp] at h)),fun i hi hli hci=>?_⟩;by_cases e:i=k
      ·subst e;simp only [if_pos];exact hv
      ·simp only [if_neg e];rw [getD_set_ne false (Ne.symm e)] at hli;refine hs i _ _ _ hbw (hf i hi hli (fun h=>?_));have:=hci h;rwa [getD_set_ne false hkp] at this
     unfold wpOp;simp only [List.getElem?_toArray,hok];unfold zAE at hst;rw [<- ha] at hst;split
     ·rename_i hwn;rw [if_pos hwn] at hst;exact .inl (Oper.wp_of_grows hst hnext)
     ·rename_i hwn;rw [if_neg hwn] at hst;exact hnext _ _ (Below.refl _ _) hst
def zCO (P:Program) (ops:List Oper) (pre:List Oper) (a0:Act) (Cw:World->Prop) (I0:World->Prop) (p:Nat) (C:List Nat) (T:World->World->Prop) (Q:List (Value->World->Prop)->Prop) : List Oper->List (Value->World->Prop)->Prop
 | [],Hs=>Q Hs
 | o :: l,Hs=>∃ R:Value->World->Prop,zED R /\
   (if Hs.length=p then ∀ vs w,Cw w->I0 w->zW Hs vs w o.waitsOn->o.wild P (zAB vs pre 0 a0) Cw w T R
    else (C.contains Hs.length=true\/zHE ops p Hs.length=true\/StaysT T R)/\∀ vs w,Cw w->(zHE ops Hs.length p=true->I0 w)->zW Hs vs w o.waitsOn->zAE P ops.toArray o (zAB vs pre 0 a0) w R) /\
   zCO P ops pre a0 Cw I0 p C T Q l (Hs++[R])
theorem growAllW_out {a0:Act} {Cw I0:World->Prop} {p:Nat} {C:List Nat} {T:World->World->Prop} {Q':List (Value->World->Prop)->Prop} (hlt:∀ (i:Nat) (o:Oper),ops[i]? = some o->∀ j∈o.waitsOn,j < i) : ∀ (l:List Oper) (Hs:List (Value->World->Prop)),(∀ R∈Hs,zED R)->(∀ i,l[i]? = (ops.take m)[Hs.length+i]?)->Hs.length+l.length=m ->
  zCO P ops (ops.take m) a0 Cw I0 p C T Q' l Hs->∃ Hs',Q' (Hs++Hs')/\(∀ R∈Hs++Hs',zED R)/\Hs'.length=l.length /\
   ∀ (i:Nat) (o:Oper),Hs.length<=i->i < m->ops[i]? = some o ->
    (i=p->∀ (vs:Nat->Value) (w:World),Cw w->I0 w->(∀ j∈o.waitsOn,zAI (Hs++Hs') j (vs j) w)->o.wild P (zAB vs (ops.take m) 0 a0) Cw w T (zAI (Hs++Hs') i)) /\
    (i≠p->(C.contains i=true\/zHE ops p i=true\/StaysT T (zAI (Hs++Hs') i)) /\
     ∀ (vs:Nat->Value) (w:World),Cw w->(zHE ops i p=true->I0 w)->(∀ j∈o.waitsOn,zAI (Hs++Hs') j (vs j) w)->zAE P ops.toArray o (zAB vs (ops.take m) 0 a0) w (zAI (Hs++Hs') i)):=by
 intro l;induction l with
 | nil =>intro Hs hst _ hlen h;exact ⟨[],by simpa [zCO] using h,by simpa using hst,rfl,fun i o h1 h2=>by simp at hlen;omega⟩
 | cons o l ih =>
   intro Hs hst hl hlen h;obtain ⟨R,hR,hstep,h⟩:=h;obtain ⟨Hs',hQ,hst',hlen',hstep'⟩:=ih (Hs++[R]) (fun R' hR'=>by
    rcases List.mem_append.1 hR' with h1 | h1
    ·exact hst _ h1
    ·simp at h1;subst h1;exact hR) (fun i=>by
    have:=hl (i+1);simp only [List.getElem?_cons_succ] at this;rw [this,List.length_append];congr 1;simp;omega) (by simp at hlen ⊢;omega) h
   have e:Hs++R :: Hs'=Hs++[R]++Hs':=by simp
   refine ⟨R :: Hs',by simpa using hQ,by simpa using hst',by simp [hlen'],fun i o' h1 h2 ho'=>?_⟩;by_cases hi:i=Hs.length
   ·subst hi
    have h0:=hl 0;simp only [List.getElem?_cons_zero,Nat.add_zero] at h0;rw [List.getElem?_take_of_lt h2,ho'] at h0;cases h0;have hf:zAI (Hs++R :: Hs') Hs.length=R:=by unfold zAI;simp
    rw [hf];have hdep:∀ (vs:Nat->Value) (w:World),(∀ j∈o.waitsOn,zAI (Hs++R :: Hs') j (vs j) w)->zW Hs vs w o.waitsOn:=fun vs w hd=>zGV fun j hj=>by
     have hjl:=hlt _ _ ho' j hj;have:=hd j hj;unfold zAI at this ⊢;rwa [List.getElem?_append_left hjl] at this
    constructor
    ·intro hp vs w hb hi hd;rw [if_pos hp] at hstep;exact hstep vs w hb hi (hdep vs _ hd)
    ·intro hp;rw [if_neg hp] at hstep;refine ⟨hstep.1,fun vs w hb hbe hd=>?_⟩;exact hstep.2 vs w hb hbe (hdep vs _ hd)
   ·rw [e];exact hstep' i o' (by simp;omega) h2 ho'
theorem zBU {id:Nat} {a0:Act} {w0:World} (m p:Nat) (C:List Nat) (T:World->World->Prop) (Cw:World->Prop) (hCw:∀ w w',Below w.heap.size w w'->Cw w->Cw w') (h0:Cw { w0 with drawn:=w0.drawn+1 }) (I0:World->Prop) (hI:∀ w w',Below w.heap.size w w'->I0 w->I0 w') (hI0:I0 { w0 with drawn:=w0.drawn+1 }) (hm:P.follows .mixedOrders=true) (hW:wildB ops m p C=true)
  (h:zCO P ops (ops.take m) a0 Cw I0 p C T (fun Hs=>∀ vs w,Cw w->(∀ i,i < m->C.contains i=false->zAI Hs i (vs i) w)->wpList P ops.toArray Q (ops.drop m) (zAB vs (ops.take m) 0 a0) w) (ops.take m) []) :
  (Code.region id ops.toArray true).wp P Q a0 w0:=by
 have hB:zJK ops m=true:=by simp only [wildB,Bool.and_eq_true] at hW;exact hW.1.1.1.1
 have hml:=zMT hB;obtain ⟨Hs,hQ,hst,_,hstep⟩:=growAllW_out (fun i o ho=>zEN hB ho) (ops.take m) [] (fun R hR=>by simp at hR) (fun i=>by simp) (by simp;omega) h;simp only [List.nil_append] at hQ hst hstep;refine wp_region_any hm ?_;obtain ⟨vs,hvs⟩:=zNX (ops.take m) 0 a0;refine growW_any p C T hW hCw (zAI Hs) (fun i=>?_) (fun i hi hip=>?_) (fun i o hi hip ho=>((hstep i o (Nat.zero_le _) hi ho).2 hip).2) hI (fun o ho=>?_) hQ _ _ _ _ (by simp) ?_ (fun j _=>zDV _ _) ?_ ⟨vs,hvs.symm,h0,fun _=>hI0,fun i hi hli=>?_⟩
 ·unfold zAI
  cases hh:Hs[i]? with
  | none=>exact fun _ _ _ _ h=>h
  | some R=>exact hst R (List.mem_of_getElem? hh)
 ·exact ((hstep i ops[i] (Nat.zero_le _) hi (List.getElem?_eq_getElem (by omega))).2 hip).1
 ·have hp:p < m:=by
   simp only [wildB,Bool.and_eq_true,decide_eq_true_eq] at hW;exact hW.1.1.1.2
  exact (hstep p o (Nat.zero_le _) hp ho).1 rfl
 ·intro i o hi;rw [zDV] at hi;cases hi
 ·simpa using zKQ ops.length ops.length
 ·rw [zDV] at hli
  cases hli
theorem zCC {pre:List Oper} {a0:Act} {Cw I0:World->Prop} {p:Nat} {C:List Nat} {T:World->World->Prop} {Q':List (Value->World->Prop)->Prop} {o:Oper} {l:List Oper} {Hs:List (Value->World->Prop)} (R:Value->World->Prop) (hR:zED R)
  (hp:(Hs.length == p)=false) (hT:C.contains Hs.length=true\/zHE ops p Hs.length=true\/StaysT T R)
  (h:∀ vs w,Cw w->zW Hs vs w o.waitsOn->zAE P ops.toArray o (zAB vs pre 0 a0) w R) (k:zCO P ops pre a0 Cw I0 p C T Q' l (Hs++[R])) : zCO P ops pre a0 Cw I0 p C T Q' (o :: l) Hs :=
 ⟨R,hR,by rw [if_neg (by simpa using hp)];exact ⟨hT,fun vs w hc _ hd=>h vs w hc hd⟩,k⟩
theorem growW_exact {pre:List Oper} {a0:Act} {Cw I0:World->Prop} {p:Nat} {C:List Nat} {T:World->World->Prop} {Q':List (Value->World->Prop)->Prop} {o:Oper} {l:List Oper} {Hs:List (Value->World->Prop)} (hp:(Hs.length == p)=false)
  (h:∃ u,(∀ vs w,Cw w->zW Hs vs w o.waitsOn->zAE P ops.toArray o (zAB vs pre 0 a0) w (fun v _=>v=u))/\zCO P ops pre a0 Cw I0 p C T Q' l (Hs++[fun v _=>v=u])) : zCO P ops pre a0 Cw I0 p C T Q' (o :: l) Hs:=by
 obtain ⟨u,h,k⟩:=h;exact zCC _ (fun _ _ _ _ h=>h) hp (.inr (.inr fun _ _ _ _ h=>h)) h k
theorem gw_ {pre:List Oper} {a0:Act} {Cw I0:World->Prop} {p:Nat} {C:List Nat} {T:World->World->Prop} {Q':List (Value->World->Prop)->Prop} {o:Oper} {l:List Oper} {Hs:List (Value->World->Prop)} {u:Value} (hp:(Hs.length == p)=false)
  (h:∀ vs w,Cw w->zW Hs vs w o.waitsOn->zAE P ops.toArray o (zAB vs pre 0 a0) w (fun v _=>v=u)) (k:zCO P ops pre a0 Cw I0 p C T Q' l (Hs++[fun v _=>v=u])) : zCO P ops pre a0 Cw I0 p C T Q' (o :: l) Hs :=
 growW_exact hp ⟨u,h,k⟩
theorem zEC {pre:List Oper} {a0:Act} {Cw I0:World->Prop} {p:Nat} {C:List Nat} {T:World->World->Prop} {Q':List (Value->World->Prop)->Prop} {o:Oper} {l:List Oper} {Hs:List (Value->World->Prop)} (hp:(Hs.length == p)=false) (hbe:zHE ops Hs.length p=true)
  (h:∃ u,(∀ vs w,Cw w->I0 w->zW Hs vs w o.waitsOn->zAE P ops.toArray o (zAB vs pre 0 a0) w (fun v _=>v=u))/\zCO P ops pre a0 Cw I0 p C T Q' l (Hs++[fun v _=>v=u])) : zCO P ops pre a0 Cw I0 p C T Q' (o :: l) Hs:=by
 obtain ⟨u,h,k⟩:=h;exact ⟨_,fun _ _ _ _ h=>h,by rw [if_neg (by simpa using hp)];exact ⟨.inr (.inr fun _ _ _ _ h=>h),fun vs w hc hi hd=>h vs w hc (hi hbe) hd⟩,k⟩
theorem zFD {pre:List Oper} {a0:Act} {Cw I0:World->Prop} {p:Nat} {C:List Nat} {T:World->World->Prop} {Q':List (Value->World->Prop)->Prop} {o:Oper} {l:List Oper} {Hs:List (Value->World->Prop)} (R:Value->World->Prop) (hR:zED R)
  (hp:(Hs.length == p)=true) (h:∀ vs w,Cw w->I0 w->zW Hs vs w o.waitsOn->o.wild P (zAB vs pre 0 a0) Cw w T R) (k:zCO P ops pre a0 Cw I0 p C T Q' l (Hs++[R])) : zCO P ops pre a0 Cw I0 p C T Q' (o :: l) Hs :=
 ⟨R,hR,by rw [if_pos (by simpa using hp)];exact h,k⟩
theorem zEU {pre:List Oper} {a0:Act} {Cw I0:World->Prop} {p:Nat} {C:List Nat} {T:World->World->Prop} {m':Nat} {K:(Nat->Value)->World->Prop} {Hs:List (Value->World->Prop)} (hm:m'=Hs.length) (h:∀ vs w,Cw w->zW Hs vs w ((List.range m').filter fun i=>!C.contains i)->K vs w) :
  zCO P ops pre a0 Cw I0 p C T (fun Hs=>∀ vs w,Cw w->(∀ i,i < m'->C.contains i=false->zAI Hs i (vs i) w)->K vs w) [] Hs:=by
 intro vs w hb hd;refine h vs w hb (zGV fun j hj=>?_);rw [List.mem_filter,List.mem_range] at hj;exact hd j hj.1 (by simpa using hj.2)
end
end
end Go
namespace Go.Proofs.YtipaopbmklbmnaaGreatDoor
section
open Tryz
theorem cmpI_neg {a b:Int} (h:a < b) : zLD a b = -1:=by unfold zLD;rw [if_pos h]
theorem cmpI_not {a b:Int} (h:¬ a < b) : 0<=zLD a b:=by unfold zLD;rw [if_neg h];split <;> omega
end
section
open Tryz
open Go.RowKit Go.Shelf
theorem enter_iss:Enters prog 189:=enters_of func189 (by kernel_rfl) rfl
theorem cmp_iss (w:World) (x:Issue) (vi vd:Value) (n:Int) (hvi:∃ a c l,vi = .slice a l c) (hvd:∃ a c l,vd = .slice a l c) :
  Calls prog 189 #[.agg #[.int .i64 x.d,.int .i64 x.l,.int .u8 x.k,vi,vd],.int .i64 n] w
   fun e w'=>e = .returned (.int .i64 (zLD x.d n))/\Below w.heap.size w w':=by
 obtain ⟨ai,ci,li,rfl⟩:=hvi;obtain ⟨ad,cd,ld,rfl⟩:=hvd;have hb:=zB w (.cells #[.int .i64 x.d,.int .i64 x.l,.int .u8 x.k,.slice ai li ci,.slice ad ld cd] 118);go_enter func189,ntmps189;go_wp2_with (go_at_call 101;refine (zER _ _ _).mono ?_;rintro e w' ⟨rfl,rfl⟩);go_ret;exact ⟨rfl,hb⟩
def RetAt (R:List Issue) (n:Int) (w:World) (e:Ending) (w':World) : Prop :=
 ∃ (i:Nat) (f:Bool),e = .returned (.tuple #[.int .i64 i,.bool f])/\i<=R.length/\(∀ t,t < i->(ht:t < R.length)->R[t].d < n)/\(∀ t,i<=t->(ht:t < R.length)->n<=R[t].d)/\Below w.heap.size w w'
def zLJ (R:List Issue) : Prop:=∀ i j,(hij:i<=j)->(h:j < R.length)->(R[i]'(by omega)).d<=R[j].d
theorem search_iss (w:World) (v:Value) (R:List Issue) (n:Int) (h:Sl zAY 5 w v R) (hs:zLJ R) (hlen:R.length<=1000) :
  Calls prog 188 #[v,.int .i64 n,.func (.func 189) #[] #[]] w (RetAt R n w):=by
 obtain ⟨a,cap,rfl,_⟩:=zD h;have S:=zE hs;have eg:=enter_iss;unfold Enters at eg;clear hs;go_enter func188,ntmps188;go_wp2;go_loopw [9,10] (fun s7 s8 wr=>∃ lo hi:Nat,s7 = .int .i64 lo/\s8 = .int .i64 hi/\lo<=hi/\hi<=R.length/\Below w.heap.size w wr/\Hid ((∀ t,t < lo->(ht:t < R.length)->R[t].d < n)/\(∀ t,hi<=t->(ht:t < R.length)->n<=R[t].d))) (fun s7 s8 _=>(intOf s8 - intOf s7).toNat)
 case atStart=>exact ⟨0,R.length,rfl,rfl,Nat.zero_le _,Nat.le_refl _,br_,zE ⟨fun t ht=>absurd ht (Nat.not_lt_zero _),fun t h1 h2=>absurd h2 (by omega)⟩⟩
 case round =>
  obtain ⟨lo,hi,rfl,rfl,hlh,hin,hb,I⟩:=hrel;have HX:=zE (zY (zJ zU hb h)).2;by_cases hlt:lo < hi
  ·have hm:(lo+hi) / 2 < R.length:=by omega
   obtain ⟨b,off,rfl,⟨q0,q1,q2⟩,hnum,vi,vd,q3,q4,si,sd⟩:=HX.out ((lo+hi) / 2) hm;have YL:=zE (fun (hy:R[(lo+hi) / 2].d < n) t (ht:t < (lo+hi) / 2+1) (htl:t < R.length)=>show R[t].d < n from by have:=S.out t ((lo+hi) / 2) (by omega) hm;omega);have YR:=zE (fun (hy:¬ R[(lo+hi) / 2].d < n) t (ht:(lo+hi) / 2<=t) (htl:t < R.length)=>show n<=R[t].d from by have:=S.out ((lo+hi) / 2) t ht htl;omega);generalize R[(lo+hi) / 2]=y at *;obtain ⟨ai,ci,rfl,_⟩:=zD si;obtain ⟨ad,cd,rfl,_⟩:=zD sd;have HC:=zE (cmp_iss wr y (.slice ai y.items.length ci) (.slice ad y.dims.length cd) n ⟨_,_,_,rfl⟩ ⟨_,_,_,rfl⟩);clear si sd h;unfold zK at q0 q1 q2 q3 q4;by_cases hyx:y.d < n
   ·have HC:=zE HC.out
    rw [cmpI_neg hyx] at HC;go_wp2_with (go_at_fn 189;refine HC.out.mono ?_;rintro e w' ⟨rfl,hb2⟩);go_roundw
    ·exact ⟨(lo+hi) / 2+1,hi,by rw [show ((lo:Int)+(hi:Int)) / 2+1=(((lo+hi) / 2+1:Nat) : Int) by omega],rfl,by omega,hin,zA hb hb2,zE ⟨YL.out hyx,I.out.2⟩⟩
    ·simp [intOf];omega
   ·have hc0:¬ zLD y.d n < 0:=by have:=cmpI_not hyx;omega
    generalize zLD y.d n=cc at *;go_wp2_with (go_at_fn 189;refine HC.out.mono ?_;rintro e w' ⟨rfl,hb2⟩);go_roundw
    ·exact ⟨lo,(lo+hi) / 2,rfl,by rw [show ((lo:Int)+(hi:Int)) / 2=(((lo+hi) / 2:Nat) : Int) by omega],by omega,by omega,zA hb hb2,zE ⟨I.out.1,YR.out hyx⟩⟩
    ·simp [intOf];omega
  ·obtain rfl:hi=lo:=by omega
   clear h;by_cases hn:hi < R.length
   ·obtain ⟨b,off,rfl,⟨q0,q1,q2⟩,hnum,vi,vd,q3,q4,si,sd⟩:=HX.out hi hn;generalize R[hi]=y at *;obtain ⟨ai,ci,rfl,_⟩:=zD si;obtain ⟨ad,cd,rfl,_⟩:=zD sd;have HC:=zE (cmp_iss wr y (.slice ai y.items.length ci) (.slice ad y.dims.length cd) n ⟨_,_,_,rfl⟩ ⟨_,_,_,rfl⟩);clear si sd;unfold zK at q0 q1 q2 q3 q4;go_wp2_with (go_at_fn 189;refine HC.out.mono ?_;rintro e w' ⟨rfl,hb2⟩);go_ret2;exact ⟨hi,_,rfl,hin,I.out.1,I.out.2,zA hb hb2⟩
   ·go_wp2;go_ret2;exact ⟨hi,_,rfl,hin,I.out.1,I.out.2,hb⟩
end
section
open Tryz
open Go.RowKit Go.Shelf
attribute [local go_sem] zAE Oper.grows Oper.growUpon Oper.semAt_some
structure BookAt (w:World) (pb:Nat) (vr vd:Value) (R:List Issue) (D:List Int) : Prop where
 c0:zK w pb 0 vr
 c1:zK w pb 1 vd
 reg:Sl zAY 5 w vr R
 dr:Sl zAM 1 w vd D
 cap:∃ a c,vr = .slice a R.length c/\R.length<=c
theorem BookAt.ext {w w':World} {pb:Nat} {vr vd:Value} {R:List Issue} {D:List Int} (h:BookAt w pb vr vd R D) (hb:Below w.heap.size w w') : BookAt w' pb vr vd R D :=
 ⟨zC hb h.c0,zC hb h.c1,zJ zU hb h.reg,zJ zN hb h.dr,h.cap⟩
structure Iss (w:World) where
 x:Issue
 ai:Option Addr
 ci:Nat
 ad:Option Addr
 cd:Nat
 lies:IssueAt w (.slice ai x.items.length ci) (.slice ad x.dims.length cd) x
def Iss.enc {w:World} (t:Iss w) : Value:=.agg #[.int .i64 t.x.d,.int .i64 t.x.l,.int .u8 t.x.k,.slice t.ai t.x.items.length t.ci,.slice t.ad t.x.dims.length t.cd]
def zHH (R:List Issue) (d:Int) : Nat:=(R.takeWhile (fun x=>decide (x.d < d))).length
theorem place_is (R:List Issue) (d:Int) (i:Nat) (hi:i<=R.length) (h1:∀ t,t < i->(ht:t < R.length)->R[t].d < d) (h2:∀ t,i<=t->(ht:t < R.length)->d<=R[t].d) : i=zHH R d:=by
 induction R generalizing i with
 | nil=>simp at hi;simp [zHH,hi]
 | cons x R ih =>
   cases i with
   | zero =>have:=h2 0 (Nat.le_refl _) (by simp);simp at this;simp [zHH,List.takeWhile_cons,show ¬ x.d < d by omega]
   | succ i =>have hx:=h1 0 (by omega) (by simp);simp at hx;have e:=ih i (by simpa using hi) (fun t ht hl=>by have:=h1 (t+1) (by omega) (by simp;omega);rwa [List.getElem_cons_succ] at this) (fun t ht hl=>by have:=h2 (t+1) (by omega) (by simp;omega);rwa [List.getElem_cons_succ] at this);unfold zHH at e ⊢;rw [List.takeWhile_cons,if_pos (by simpa using hx),List.length_cons,<- e]
def zAL (R:List Issue) (d:Int) : List Issue:=R.filter (fun x=>x.d == d)
theorem issuesOf_cut (R:List Issue) (d:Int) (i k:Nat) (hik:i+k<=R.length) (h1:∀ t,t < i->(ht:t < R.length)->R[t].d < d) (hk:∀ t,i<=t->t < i+k->(ht:t < R.length)->R[t].d=d) (h2:∀ t,i+k<=t->(ht:t < R.length)->d < R[t].d) : zAL R d=(R.drop i).take k:=by
 unfold zAL;have e:R=R.take i++((R.drop i).take k++(R.drop i).drop k):=by rw [List.take_append_drop,List.take_append_drop]
 conv=>lhs;rw [e]
 rw [List.filter_append,List.filter_append];have e1:(R.take i).filter (fun x=>x.d == d)=[]:=by rw [List.filter_eq_nil_iff];intro x hx;obtain ⟨t,ht,rfl⟩:=List.getElem_of_mem hx;rw [List.length_take] at ht;have:=h1 t (by omega) (by omega);rw [List.getElem_take];simp;omega
 have e2:((R.drop i).take k).filter (fun x=>x.d == d)=(R.drop i).take k:=by rw [List.filter_eq_self];intro x hx;obtain ⟨t,ht,rfl⟩:=List.getElem_of_mem hx;rw [List.length_take,List.length_drop] at ht;have:=hk (i+t) (by omega) (by omega) (by omega);rw [List.getElem_take,List.getElem_drop];simpa using this
 have e3:((R.drop i).drop k).filter (fun x=>x.d == d)=[]:=by rw [List.filter_eq_nil_iff];intro x hx;obtain ⟨t,ht,rfl⟩:=List.getElem_of_mem hx;rw [List.length_drop,List.length_drop] at ht;have:=h2 (i+(k+t)) (by omega) (by omega);rw [List.getElem_drop,List.getElem_drop];simp;omega
 rw [e1,e2,e3];simp
theorem zPF (w:World) (pb:Nat) (d:Int) :
  Calls prog 165 #[.pointer (some ⟨pb,0,none⟩),.int .i64 d] w fun e w' =>
   e = .returned (.func (.func 187) #[] #[.pointer (some ⟨w.heap.size,0,none⟩),.pointer (some ⟨w.heap.size+1,0,none⟩)]) /\
   w'=(w.alloc (.cells #[.pointer (some ⟨pb,0,none⟩)] 153)).alloc (.cells #[.int .i64 d] 3):=by
 go_enter func165,ntmps165;go_wp2;go_ret;exact ⟨by simp,rfl⟩
def Placed (i:Nat) (v:Value) (_:World) : Prop:=∃ f:Bool,v = .tuple #[.int .i64 i,.bool f]
theorem zQA (i:Nat) : zED (Placed i):=fun _ _ _ _ h=>h
def IsB (v:Value) (_:World) : Prop:=∃ f:Bool,v = .bool f
theorem isB_stays:zED IsB:=fun _ _ _ _ h=>h
theorem search_place (w:World) (v:Value) (R:List Issue) (n:Int) (h:Sl zAY 5 w v R) (hs:zLJ R) (hlen:R.length<=1000) :
  Calls prog 188 #[v,.int .i64 n,.func (.func 189) #[] #[]] w
   fun e w'=>(∃ v',e = .returned v'/\Placed (zHH R n) v' w')/\Below w.heap.size w w':=by
 refine (search_iss w v R n h hs hlen).mono ?_;rintro e w' ⟨i,f,rfl,hi,h1,h2,hb⟩;exact ⟨⟨_,rfl,f,by rw [place_is R n i hi h1 h2]⟩,hb⟩
theorem issuesOf_pre (R:List Issue) (d:Int) (i k:Nat) (hik:i+k<=R.length) (h1:∀ t,t < i->(ht:t < R.length)->R[t].d < d) (hk:∀ t,i<=t->t < i+k->(ht:t < R.length)->R[t].d=d) : (R.drop i).take k <+: zAL R d:=by
 unfold zAL;have e:R=R.take i++((R.drop i).take k++(R.drop i).drop k):=by rw [List.take_append_drop,List.take_append_drop]
 conv=>rhs;rw [e]
 rw [List.filter_append,List.filter_append];have e1:(R.take i).filter (fun x=>x.d == d)=[]:=by rw [List.filter_eq_nil_iff];intro x hx;obtain ⟨t,ht,rfl⟩:=List.getElem_of_mem hx;rw [List.length_take] at ht;have:=h1 t (by omega) (by omega);rw [List.getElem_take];simp;omega
 have e2:((R.drop i).take k).filter (fun x=>x.d == d)=(R.drop i).take k:=by rw [List.filter_eq_self];intro x hx;obtain ⟨t,ht,rfl⟩:=List.getElem_of_mem hx;rw [List.length_take,List.length_drop] at ht;have:=hk (i+t) (by omega) (by omega) (by omega);rw [List.getElem_take,List.getElem_drop];simpa using this
 rw [e1,e2,List.nil_append];exact List.prefix_append _ _
theorem place_below (R:List Issue) (d:Int) : ∀ t,t < zHH R d->(ht:t < R.length)->R[t].d < d:=by
 induction R with
 | nil=>intro t _ ht;simp at ht
 | cons x R ih =>
   intro t h ht;unfold zHH at h;rw [List.takeWhile_cons] at h;split at h
   ·rename_i hx
    cases t with
    | zero=>simpa using hx
    | succ t=>rw [List.getElem_cons_succ];exact ih t (by unfold zHH;simpa using h) (by simpa using ht)
   ·simp at h
theorem place_not (R:List Issue) (d:Int) (h:zHH R d < R.length) : d<=R[zHH R d].d:=by
 induction R with
 | nil=>simp at h
 | cons x R ih =>
   by_cases hx:x.d < d
   ·have e:zHH (x :: R) d=zHH R d+1:=by unfold zHH;rw [List.takeWhile_cons,if_pos (by simpa using hx),List.length_cons]
    simp only [e,List.getElem_cons_succ];exact ih (by rw [e] at h;simpa using h)
   ·have e:zHH (x :: R) d=0:=by unfold zHH;rw [List.takeWhile_cons,if_neg (by simpa using hx)];rfl
    simp only [e,List.getElem_cons_zero];omega
theorem place_above (R:List Issue) (d:Int) (hs:zLJ R) : ∀ t,zHH R d<=t->(ht:t < R.length)->d<=R[t].d:=by
 intro t h ht;have h1:=place_not R d (by omega);have h2:=hs (zHH R d) t h ht;omega
def KpB (n₀ b:Nat) (A B:World) : Prop:=Below n₀ A B/\∀ v,zK A b 0 v->zK B b 0 v
theorem kpB_t {n₀ b:Nat} {A B C:World} (h:KpB n₀ b A B) (k:KpB n₀ b B C) : KpB n₀ b A C:=⟨h.1.trans k.1,fun v hv=>k.2 v (h.2 v hv)⟩
theorem kpB_b {n₀ b:Nat} {w:World} (hn:n₀<=w.heap.size) (W:World) (l:Nat) (o o':Obj) (hl:w.heap.size<=l) (h:W.heap[l]? = some o) (hc:o.isCells=false) (hw:o.isWalk=false) : KpB n₀ b W (W.putObj l o') :=
 ⟨belowK_b hn W l o o' hl h hc hw,fun _ hv=>cell_kept hv (grownBy_putObj' W l o') (fun r e=>by cases e;exact ⟨o,h,hc⟩)⟩
theorem kpB_refl (n₀ b:Nat) (A:World) : KpB n₀ b A A:=⟨br_,fun _ h=>h⟩
theorem kpB_alloc {n₀ b:Nat} {A:World} (h:n₀<=A.heap.size) (o:Obj) : KpB n₀ b A (A.alloc o):=⟨(br_).alloc h _,fun _ hv=>zC (zB _ _) hv⟩
theorem kpB_set {n₀ b g j:Nat} {A:World} (h:n₀<=g) (hne:b≠g) (u:Value) : KpB n₀ b A (A.setCell ⟨g,j,none⟩ u):=⟨(br_).setCell (p:=⟨g,j,none⟩) h _,fun _ hv=>zBR hv hne⟩
theorem zKH (n:Nat) (hn:1<=n) (w0 w:World) (hw:Below w0.heap.size w0 w) (pb b2 b3:Nat) (vr vd:Value) (R:List Issue) (D:List Int) (d:Int) (hB:BookAt w0 pb vr vd R D) (h2:zK w b2 0 (.pointer (some ⟨pb,0,none⟩))) (h3:zK w b3 0 (.int .i64 d)) (hs:zLJ R) (hlen:R.length<=100) (hne:R≠[]) :
  SeqStopsK Fence.wide n prog 187 #[.pointer (some ⟨b2,0,none⟩),.pointer (some ⟨b3,0,none⟩)] (fun t:Iss w0=>#[t.enc]) (KpB w0.heap.size b3)
   (fun xs=>xs.map (·.x)=zAL R d) (fun pre=>pre.map (·.x) <+: zAL R d) (R.length+1) w:=by
 intro l J Jx W hW hJ hJx hY h0;have hw0:=zA hw hW;have hB1:=hB.ext hw0;have c2:=zC hW h2;have c3:=zC hW h3;obtain ⟨ar,capr,rfl,hmr⟩:=zD hB.reg;obtain ⟨b,off,rfl,-⟩:=(zY hB.reg).2 0 (by cases R with | nil=>exact absurd rfl hne | cons=>simp);have hcap:R.length<=capr:=by obtain ⟨a,c,e,h⟩:=hB.cap;cases e;exact h
 have k0:=zH hB1.c0;have K2:=zH c2;have K3:=zH c3;have hreg:=hB1.reg;refine callsIn_of_wp func187 rfl trivial ?_ rfl;simp only [ntmps187,List.size_toArray,List.length_cons,List.length_nil,Nat.reduceAdd,Nat.reduceSub,Array.replicate_succ,Array.replicate_zero,List.push_toArray,List.append_toArray,List.nil_append,List.cons_append];gi_wp2_with fail
 refine wpIn_wide.2 ?_;refine zM 12 (by kernel_rfl) (by kernel_rfl) ?_;simp only [tk_];iterate 6 (apply gx_;focus (intro vs xq hd;(try simp [hq_] at hd);simp only [pf_];go_simp;first | exact ⟨br_,rfl⟩ | exact rfl))
 refine zL (Placed (zHH R d)) (zQA _) ?_ ?_
 ·intro vs xq hd
  (try simp [hq_] at hd)
  simp only [pf_];go_simp;refine (search_place _ _ R d (zJ zU (zG W xq) hreg) hs (by omega)).mono ?_;rintro e w' ⟨⟨v,rfl,hv⟩,hb⟩;exact ⟨v,rfl,hb,hv⟩
 refine zL (Placed (zHH R d)) (zQA _) ?_ ?_
 ·intro vs xq hd
  (try simp [hq_] at hd)
  simp only [pf_];go_simp;exact br_
 refine zL (fun v _=>v = .int .i64 (zHH R d)) (fun _ _ _ _ h=>h) ?_ ?_
 ·intro vs xq hd
  (try simp [hq_] at hd)
  simp only [pf_];obtain ⟨f,e⟩:=hd;simp only [e];go_simp;exact br_
 refine zL IsB isB_stays ?_ ?_
 ·intro vs xq hd
  (try simp [hq_] at hd)
  simp only [pf_];obtain ⟨f,e⟩:=hd;simp only [e];go_simp;first | exact ⟨br_,f,rfl⟩ | exact br_ | simp [IsB,Below.refl]
 apply gx_;focus (intro vs xq hd;(try simp [hq_] at hd);simp only [pf_];go_simp;first | exact ⟨br_,rfl⟩ | exact rfl)
 refine zL IsB isB_stays ?_ ?_
 ·intro vs xq hd
  (try simp [hq_] at hd)
  simp only [pf_];go_simp;exact br_
 refine zQ rfl (fun vs xq hd=>?_);simp [zW,zAI,List.range,List.range.loop] at hd;simp only [pf_];obtain ⟨e0,e1,e2,e3,e4,e5,-,-,e8,-,e10,-⟩:=hd;generalize vs 0=u0 at *;generalize vs 1=u1 at *;generalize vs 2=u2 at *;generalize vs 3=u3 at *;generalize vs 4=u4 at *;generalize vs 5=u5 at *;generalize vs 6=u6 at *;generalize vs 7=u7 at *;generalize vs 8=u8 at *;generalize vs 9=u9 at *;generalize vs 10=u10 at *;generalize vs 11=u11 at *;subst e10;have hW1:=zG W xq;have hJ1:J [] (W.later xq):=hJ _ _ _ none h0 ⟨rfl,rfl,rfl,hW1.size,fun k hk _=>hW1.block k hk⟩ (fun r e=>by cases e);have hB2:=hB1.ext hW1;have c2:=zC hW1 c2;have c3:=zC hW1 c3;have hWW:=zA hw0 hW1;clear k0 K2 K3 h0 hB1 hreg e0 e1 e2 e3 e4 e5 e8;have hpl:zHH R d<=R.length:=by unfold zHH;exact (List.takeWhile_sublist _).length_le
 have HP1:=zE (place_below R d);have HP2:=zE (place_above R d hs);generalize zHH R d=i0 at *;generalize W.later xq=W1 at *;have hb0:=hB2.c0;have C3:zK W1 b3 0 (.int .i64 d):=c3;unfold zK at hb0 c2 c3;change Exit.then _ _ _ _ _;have hcut:=fun k=>issuesOf_cut R d i0 k
 have HCUT:=zE hcut;clear hcut;by_cases hcz:capr=i0
 ·gi_wp2
  gi_loopw [26] (fun i wr=>i = .int .i64 0/\J [] wr) (fun _ _=>0)
  case atStart=>exact ⟨rfl,hJ1⟩
  case round =>
   obtain ⟨rfl,hJs⟩:=hrel;have hz:R.length - i0=0:=by omega
   gi_wp2
   go_end0
   refine ⟨⟨_,rfl⟩,.inl ⟨[],?_,hJs⟩⟩;rw [HCUT.out 0 (by omega) HP1.out (fun t h1 h2=>absurd h2 (by omega)) (fun t h1 h2=>absurd h2 (by omega))];rfl
 ·gi_wp2
  gi_loopw [26] (fun i wr=>∃ (k:Nat) (pre:List (Iss w0)),i = .int .i64 k/\k<=R.length - i0/\(Below w0.heap.size w0 wr/\zK wr b3 0 (.int .i64 d))/\J pre wr/\Hid (pre.map (·.x)=(R.drop i0).take k/\∀ t,i0<=t->t < i0+k->(ht:t < R.length)->R[t].d=d)) (fun i _=>R.length - (intOf i).toNat)
  case atStart=>exact ⟨0,[],rfl,by omega,⟨hWW,C3⟩,hJ1,zE ⟨rfl,fun t h1 h2=>absurd h2 (by omega)⟩⟩
  case round =>
   obtain ⟨k,pre,rfl,hk,⟨hb,c3'⟩,hJs,HK⟩:=hrel;clear hb0 c2 c3 C3 hJ1;by_cases hlt:k < R.length - i0
   ·have hlt2:i0+k < R.length:=by omega
    obtain ⟨b',off',hh,⟨q0,q1,q2⟩,hnum,vi,vd',q3,q4,si,sd⟩:=(zY hB.reg).2 (i0+k) hlt2;cases hh;have q0:=zC hb q0;have q1:=zC hb q1;have q2:=zC hb q2;have q3:=zC hb q3;have q4:=zC hb q4;have c3:=c3';have C3:=zE c3';clear c3';have l3:=zAD c3;have HX:=zE (HP2.out (i0+k) (by omega) hlt2);have HE:Hid (R[i0+k]=R[i0+k]):=rfl;generalize hx:R[i0+k]=x at *;have HXX:=zE hx;clear hx HE;obtain ⟨ai,ci,rfl,_⟩:=zD si;obtain ⟨ad,cd,rfl,_⟩:=zD sd;unfold zK at q0 q1 q2 q3 q4 c3;simp only [Nat.add_mul,<- Nat.add_assoc] at q0 q1 q2 q3 q4;by_cases hxd:x.d=d
    ·have hJ3:J pre (wr.alloc (.cells #[.int .i64 d,.int .i64 x.l,.int .u8 x.k,.slice ai x.items.length ci,.slice ad x.dims.length cd] 118)):=hJ _ _ _ none hJs (World.grownBy_alloc _ _ none) (fun r e=>by cases e)
     have hpl2:pre.length < R.length+1:=by have:=congrArg List.length HK.out.1;rw [List.length_map,List.length_take,List.length_drop] at this;omega
     have HK2:Hid ((pre++[(⟨x,ai,ci,ad,cd,⟨si,sd,hnum⟩⟩ : Iss w0)]).map (·.x)=(R.drop i0).take (k+1)/\∀ t,i0<=t->t < i0+(k+1)->(ht:t < R.length)->R[t].d=d):=by
      constructor
      ·have hkd:k < (R.drop i0).length:=by rw [List.length_drop];exact hlt
       rw [List.map_append,HK.out.1,List.take_succ_eq_append_getElem hkd,List.getElem_drop];simp only [HXX.out];rfl
      ·intro t h1 h2 ht
       by_cases e:t=i0+k
       ·subst e;rw [HXX.out];exact hxd
       ·exact HK.out.2 t h1 (by omega) ht
     obtain ⟨fn,tmps,assign,body,hy,hR⟩:=hY pre ⟨x,ai,ci,ad,cd,⟨si,sd,hnum⟩⟩ _ hJ3 hpl2;simp only [Iss.enc,hxd] at hy;gi_wp2
     refine hR.mono ?_;rintro e W3 (⟨rfl,hJ4,hk4⟩ | ⟨rfl,hJx4⟩)
     ·gi_wp2
      go_roundw
      case rel =>exact ⟨k+1,_,by go_num,by omega,⟨(hb.alloc hb.size _).trans hk4.1,hk4.2 _ (zC (zB _ _) C3.out)⟩,hJ4,HK2⟩
      case measure=>simp [intOf];omega
     ·gi_wp2
      refine bodyPost_ret (results_none rfl _ _ _) rfl ?_;refine ⟨⟨_,rfl⟩,.inr ⟨_,?_,hJx4⟩⟩;rw [HK2.out.1];exact issuesOf_pre R d i0 (k+1) (by omega) HP1.out HK2.out.2
    ·gi_wp2
     refine ⟨fun _ h=>(by cases h),?_⟩;have hJ3:J pre (wr.alloc (.cells #[.int .i64 x.d,.int .i64 x.l,.int .u8 x.k,.slice ai x.items.length ci,.slice ad x.dims.length cd] 118)):=hJ _ _ _ none hJs (World.grownBy_alloc _ _ none) (fun r e=>by cases e);gi_wp2
     refine bodyPost_ret (results_none rfl _ _ _) rfl ?_;refine ⟨⟨_,rfl⟩,.inl ⟨pre,?_,hJ3⟩⟩;rw [HCUT.out k (by omega) HP1.out HK.out.2 (fun t h1 h2=>by
      have:=hs (i0+k) t h1 h2;rw [HXX.out] at this;have:=HX.out;omega)]
     exact HK.out.1
   ·gi_wp2
    go_end0
    refine ⟨⟨_,rfl⟩,.inl ⟨pre,?_,hJs⟩⟩;have e:i0+k=R.length:=by omega
    rw [HCUT.out k (by omega) HP1.out HK.out.2 (fun t h1 h2=>absurd h2 (by omega))];exact HK.out.1
theorem has_int (w:World) (pb:Nat) (vr vd:Value) (R:List Issue) (D:List Int) (d:Int) (hc:zK w pb 1 vd) (hd:Sl zAM 1 w vd D) (hs:Mount D) (hlen:D.length<=1000) :
  Calls prog 126 #[.pointer (some ⟨pb,0,none⟩),.int .i64 d] w fun e w'=>e = .returned (.bool (decide (d∈D)))/\w=w':=by
 obtain ⟨a,cap,rfl,_⟩:=zD hd;have HD:=zE hd;clear hd;unfold zK at hc;go_enter func126,ntmps126;go_wp2_with fail;refine (search_int _ _ D d HD.out hs hlen).mono ?_;rintro e w' ⟨⟨i,rfl⟩,rfl⟩;go_wp2;go_ret;simp
theorem fresh_cell (W:World) (v:Value) (t:TypeId) : (W.alloc (.cells #[v] t)).cell? ⟨W.heap.size,0,none⟩=some v/\(W.alloc (.cells #[v] t)).frozen? ⟨W.heap.size,0,none⟩=false:=by
 constructor <;> simp
theorem two_a (w:World) (u v:Value) (s t:TypeId) (g:Nat) (h:w.heap.size=g) : zK ((w.alloc (.cells #[u] s)).alloc (.cells #[v] t)) g 0 u:=by
 subst h;exact (zJF w #[u] #[v] s t).2.1 0 _ rfl
theorem two_b (w:World) (u v:Value) (s t:TypeId) (g:Nat) (h:w.heap.size+1=g) : zK ((w.alloc (.cells #[u] s)).alloc (.cells #[v] t)) g 0 v:=by
 subst h;exact (zJF w #[u] #[v] s t).2.2 0 _ rfl
theorem fresh_alloc {W:World} {a:Addr} {v:Value} (o:Obj) (h:W.cell? a=some v/\W.frozen? a=false) : (W.alloc o).cell? a=some v/\(W.alloc o).frozen? a=false :=
 ⟨cell_kept h.1 (World.grownBy_alloc W o none) (fun r e=>by cases e),(frozen_kept h.1 (World.grownBy_alloc W o none) (fun r e=>by cases e)).trans h.2⟩
theorem last_num (w:World) (pb:Nat) (vr vd:Value) (R:List Issue) (D:List Int) (d:Int) (hB:BookAt w pb vr vd R D) (hs:zLJ R) (hlen:R.length<=100) (hne:R≠[]) :
  Calls prog 169 #[.pointer (some ⟨pb,0,none⟩),.int .i64 d] w fun e w'=>e = .returned (.int .i64 (zAL R d).length)/\Below w.heap.size w w':=by
 refine (callsIn_wide (n:=3)).1 ?_;refine callsIn_of_wp_marks func169 rfl trivial ?_ rfl;simp only [ntmps169,List.size_toArray,List.length_cons,List.length_nil,Nat.reduceAdd,Nat.reduceSub,Array.replicate_succ,Array.replicate_zero,List.push_toArray,List.append_toArray,List.nil_append,List.cons_append];gi_wp2_with (refine ⟨trivial,?_⟩;gi_at_call 165;refine (callsIn_wide.2 (zPF _ _ _)).mono ?_;rintro e w' ⟨rfl,rfl⟩)
 have hB0:Below w.heap.size w (((w.alloc (.cells #[.int .i64 0] 3)).alloc (.cells #[.pointer (some ⟨pb,0,none⟩)] 153)).alloc (.cells #[.int .i64 d] 3)) :=
  (((Below.refl _ w).alloc (Nat.le_refl _) _).alloc (by simp) _).alloc (by simp;omega) _
 have hc:=fresh_alloc (.cells #[.int .i64 d] 3) (fresh_alloc (.cells #[.pointer (some ⟨pb,0,none⟩)] 153) (fresh_cell w (.int .i64 0) 3));have h2:zK (((w.alloc (.cells #[.int .i64 0] 3)).alloc (.cells #[.pointer (some ⟨pb,0,none⟩)] 153)).alloc (.cells #[.int .i64 d] 3)) (w.heap.size+1) 0 (.pointer (some ⟨pb,0,none⟩)) :=
  two_a _ _ _ _ _ _ (by simp)
 have h3:zK (((w.alloc (.cells #[.int .i64 0] 3)).alloc (.cells #[.pointer (some ⟨pb,0,none⟩)] 153)).alloc (.cells #[.int .i64 d] 3)) (w.heap.size+2) 0 (.int .i64 d) :=
  two_b _ _ _ _ _ _ (by simp)
 refine wpIn_rangeFunc_ownF (n:=3) rfl (by decide) (gf:=187) (lb:=#[.pointer (some ⟨w.heap.size+1,0,none⟩),.pointer (some ⟨w.heap.size+2,0,none⟩)]) rfl trivial (enters_of func187 (by kernel_rfl) rfl)
  (zKH 2 (by decide) w _ hB0 pb (w.heap.size+1) (w.heap.size+2) vr vd R D d hB h2 h3 hs hlen hne) kpB_t (kpB_b (by simp;omega)) (br_) (fun _=>rfl)
  (fun pre W=>(W.cell? ⟨w.heap.size,0,none⟩=some (.int .i64 pre.length)/\W.frozen? ⟨w.heap.size,0,none⟩=false)/\Below w.heap.size w W)
  (fun _ _ _=>False)
  (OwnFrom.and (Own.from (fun s A B row hs hg hr=>⟨cell_kept hs.1 hg hr,(frozen_kept hs.1 hg hr).trans hs.2⟩) _) (ownFrom_below (Nat.le_refl _) (by simp;omega)))
  (fun _ _ _ _ _ hs _ _=>hs)
  ⟨hc,hB0⟩
  (fun x=>{ tmps:=#[.pointer (some ⟨pb,0,none⟩),.int .i64 d,undef,undef,.int .i64 0,.pointer (some ⟨w.heap.size,0,none⟩),.pointer (some ⟨pb,0,none⟩),.int .i64 d,.func (.func 187) #[] #[.pointer (some ⟨w.heap.size+1,0,none⟩),.pointer (some ⟨w.heap.size+2,0,none⟩)],x.enc,undef,undef,undef],defers:=[] }) ?assign ?body ?done ?stop
 case assign =>intro l x W K hK;gi_wp2;simp [List.zip_toArray];exact hK
 case body =>rintro l pre x W ⟨⟨hc,hf⟩,hB⟩ hlt;have hw:IntKind.i64.wrap ((pre.length:Int)+1)=(pre.length:Int)+1:=IntWalk.i64_in _ (by omega);gi_wp2;exact ⟨KeepsOthers.setCell _ _ _,kpB_set (Nat.le_refl _) (by omega) _,⟨by rw [List.length_append,List.length_singleton];push_cast;exact World.cell?_setCell_same' _ _ _ (by rw [hc];rfl),by rw [World.frozen?_setCell];exact hf⟩,hB.setCell (p:=⟨w.heap.size,0,none⟩) (Nat.le_refl _) _⟩
 case done =>rintro D ys W hD hS ⟨⟨hc,_⟩,hB⟩ hK;gi_wp2;refine ⟨by simp,.inl ⟨_,_,rfl,run_takeDeferred hK,?_⟩⟩;refine ⟨_,results_tmp rfl _ _ _,?_,hB.trans (belowK_b (w:=w) (Nat.le_refl _) W D _ _ (by simp at hD;omega) hK rfl rfl)⟩;rw [<- hS,List.length_map];simp
 case stop =>rintro D c pre W _ _ h _;exact h.elim
def Lay (W:World) (B:Nat) (cs:Array Value) (t:TypeId) : Prop:=W.heap[B]? = some (.cells cs t (0,0))
theorem Lay.lt {W:World} {B:Nat} {cs:Array Value} {t:TypeId} (h:Lay W B cs t) : B < W.heap.size:=(Array.getElem?_eq_some_iff.1 h).1
theorem Lay.cell {W:World} {B:Nat} {cs:Array Value} {t:TypeId} (h:Lay W B cs t) (j:Nat) (v:Value) (hv:cs[j]? = some v) : W.cell? ⟨B,j,none⟩=some v:=by
 simp [World.cell?,show W.heap[B]? = _ from h,hv]
theorem Lay.frozen {W:World} {B:Nat} {cs:Array Value} {t:TypeId} (h:Lay W B cs t) (j:Nat) : W.frozen? ⟨B,j,none⟩=false:=by simp [World.frozen?,show W.heap[B]? = _ from h]
theorem Lay.new (W:World) (t:TypeId) (cs:Array Value) : Lay (W.alloc (.cells cs t)) W.heap.size cs t:=World.alloc_heap_new W _
theorem Lay.kept {W W':World} {row:Option Nat} {B:Nat} {cs:Array Value} {t:TypeId} (h:Lay W B cs t) (hg:W.grownBy W' row) (hne:some B≠row) : Lay W' B cs t:=(hg.block B h.lt hne).trans h
theorem Lay.alloc {W:World} {B:Nat} {cs:Array Value} {t:TypeId} (h:Lay W B cs t) (o:Obj) : Lay (W.alloc o) B cs t:=h.kept (World.grownBy_alloc W o none) (by simp)
theorem Lay.keptN {W W':World} {row:Option Nat} {B:Nat} {cs:Array Value} {t:TypeId} (h:Lay W B cs t) (hg:W.grownBy W' row) (hr:∀ r,row=some r->∃ o:Obj,W.heap[r]? = some o/\o.isCells=false) : Lay W' B cs t :=
 h.kept hg (fun e=>by
  obtain ⟨o,ho,hc⟩:=hr B e.symm;rw [show W.heap[B]? = _ from h] at ho;cases ho;cases hc)
theorem Lay.ext {W W':World} {B:Nat} {cs:Array Value} {t:TypeId} (h:Lay W B cs t) (hb:Below W.heap.size W W') : Lay W' B cs t:=(hb.block B h.lt).trans h
theorem Lay.ext2 {W W':World} {B:Nat} {cs:Array Value} {t:TypeId} (hb:Below W.heap.size W W') (h:Lay W B cs t) : Lay W' B cs t:=h.ext hb
theorem zDD {W W':World} (h:Below W.heap.size W W') : KeepsOthers W W':=⟨h.size,fun k o hk _=>(h.block k (Array.getElem?_eq_some_iff.1 hk).1).trans hk⟩
theorem kpB_below {n₀ b:Nat} {W W':World} (hn:n₀<=W.heap.size) (h:Below W.heap.size W W') : KpB n₀ b W W':=⟨h.mono hn,fun _ hv=>zC h hv⟩
theorem six_cells (W:World) (g h:Nat) (hne:g≠h) (v0 v1 v2 v3 v4 v5 u0 u1 u2 u3 u4 u5:Value) (k0:W.cell? ⟨g,0,none⟩=some u0) (k1:W.cell? ⟨g,1,none⟩=some u1) (k2:W.cell? ⟨g,2,none⟩=some u2) (k3:W.cell? ⟨g,3,none⟩=some u3) (k4:W.cell? ⟨g,4,none⟩=some u4) (k5:W.cell? ⟨h,0,none⟩=some u5) (W':World)
  (e:W'=(((((W.setCell ⟨g,0,none⟩ v0).setCell ⟨g,1,none⟩ v1).setCell ⟨g,2,none⟩ v2).setCell ⟨g,3,none⟩ v3).setCell ⟨g,4,none⟩ v4).setCell ⟨h,0,none⟩ v5) :
  W'.cell? ⟨g,0,none⟩=some v0/\W'.cell? ⟨g,1,none⟩=some v1/\W'.cell? ⟨g,2,none⟩=some v2/\W'.cell? ⟨g,3,none⟩=some v3/\W'.cell? ⟨g,4,none⟩=some v4/\W'.cell? ⟨h,0,none⟩=some v5:=by
 subst e;have hn:h≠g:=fun e=>hne e.symm
 refine ⟨?_,?_,?_,?_,?_,?_⟩
 ·simp [World.cell?_setCell_other,hn,World.cell?_setCell_same',k0]
 ·simp [World.cell?_setCell_other,hn,World.cell?_setCell_same',k1]
 ·simp [World.cell?_setCell_other,hn,World.cell?_setCell_same',k2]
 ·simp [World.cell?_setCell_other,hn,World.cell?_setCell_same',k3]
 ·simp [World.cell?_setCell_other,hn,World.cell?_setCell_same',k4]
 ·refine World.cell?_setCell_same' _ _ _ ?_;simp [World.cell?_setCell_other,hne,k5]
theorem six_keep (W:World) (g h:Nat) (v0 v1 v2 v3 v4 v5:Value) (W':World)
  (e:W'=(((((W.setCell ⟨g,0,none⟩ v0).setCell ⟨g,1,none⟩ v1).setCell ⟨g,2,none⟩ v2).setCell ⟨g,3,none⟩ v3).setCell ⟨g,4,none⟩ v4).setCell ⟨h,0,none⟩ v5) : KeepsOthers W W':=by
 subst e;exact ((((((KeepsOthers.setCell _ _ _).trans (KeepsOthers.setCell _ _ _)).trans (KeepsOthers.setCell _ _ _)).trans (KeepsOthers.setCell _ _ _)).trans (KeepsOthers.setCell _ _ _)).trans (KeepsOthers.setCell _ _ _))
theorem six_below (n₀:Nat) (w W:World) (hb:Below n₀ w W) (g h:Nat) (hg:n₀<=g) (hh:n₀<=h) (v0 v1 v2 v3 v4 v5:Value) (W':World)
  (e:W'=(((((W.setCell ⟨g,0,none⟩ v0).setCell ⟨g,1,none⟩ v1).setCell ⟨g,2,none⟩ v2).setCell ⟨g,3,none⟩ v3).setCell ⟨g,4,none⟩ v4).setCell ⟨h,0,none⟩ v5) : Below n₀ w W':=by
 subst e;exact ((((((hb.setCell (p:=⟨g,0,none⟩) hg _).setCell (p:=⟨g,1,none⟩) hg _).setCell (p:=⟨g,2,none⟩) hg _).setCell (p:=⟨g,3,none⟩) hg _).setCell (p:=⟨g,4,none⟩) hg _).setCell (p:=⟨h,0,none⟩) hh _)
theorem find_prefix (R:List Issue) (d l:Int) (pre:List Issue) (x:Issue) (hp:pre++[x] <+: zAL R d) (hn:∀ y∈pre,zEV d l y=false) (hx:zEV d l x=true) : zCQ R d l=some x:=by
 have e:zCQ R d l=(zAL R d).find? (zEV d l):=by
  unfold zCQ zAL;rw [List.find?_filter];congr 1;funext y
  unfold zEV;by_cases h:y.d=d
  ·by_cases h2:y.l=l <;> simp [h,h2]
  ·simp [h]
 obtain ⟨r,hr⟩:=hp;rw [e,<- hr,List.append_assoc,List.find?_append,List.find?_eq_none.2 (fun y hy=>by simp [hn y hy])];simp [hx]
theorem find_all (R:List Issue) (d l:Int) (hn:∀ y∈zAL R d,zEV d l y=false) : zCQ R d l=none:=by
 refine findR_none R d l fun j hj=>?_
 by_cases h:R[j].d=d
 ·exact hn _ (by unfold zAL;rw [List.mem_filter];exact ⟨List.getElem_mem hj,by simp [h]⟩)
 ·unfold zEV;simp [h]
theorem find_iss0 (w0 w:World) (hw0:Below w0.heap.size w0 w) (pb:Nat) (vr vd:Value) (R:List Issue) (D:List Int) (d l:Int) (hB:BookAt w0 pb vr vd R D) (hs:zLJ R) (hlen:R.length<=100) (hne:R≠[]) :
  Calls prog 125 #[.pointer (some ⟨pb,0,none⟩),.agg #[.int .i64 d,.int .i64 l]] w (RetFindW R d l w0 w):=by
 have hws:=hw0.size;refine (callsIn_wide (n:=3)).1 ?_;refine callsIn_of_wp_marks func125 rfl trivial ?_ rfl;simp only [ntmps125,List.size_toArray,List.length_cons,List.length_nil,Nat.reduceAdd,Nat.reduceSub,Array.replicate_succ,Array.replicate_zero,List.push_toArray,List.append_toArray,List.nil_append,List.cons_append];gi_wp2_with (refine ⟨trivial,?_⟩;gi_at_call 165;refine (callsIn_wide.2 (zPF _ _ _)).mono ?_;rintro e w' ⟨rfl,rfl⟩)
 have a1:=((Lay.new w 45 #[.int .i64 d,.int .i64 l]).alloc (.cells zIC 118)).alloc (.cells #[.bool false] 4);have a2:=(Lay.new (w.alloc (.cells #[.int .i64 d,.int .i64 l] 45)) 118 zIC).alloc (.cells #[.bool false] 4);have a3:=Lay.new ((w.alloc (.cells #[.int .i64 d,.int .i64 l] 45)).alloc (.cells zIC 118)) 4 #[.bool false];have hB0:Below w.heap.size w (((w.alloc (.cells #[.int .i64 d,.int .i64 l] 45)).alloc (.cells zIC 118)).alloc (.cells #[.bool false] 4)) :=
  (((Below.refl _ w).alloc (Nat.le_refl _) _).alloc (by simp) _).alloc (by simp;omega) _
 have hsz:(((w.alloc (.cells #[.int .i64 d,.int .i64 l] 45)).alloc (.cells zIC 118)).alloc (.cells #[.bool false] 4)).heap.size=w.heap.size+3:=by simp
 simp only [World.size_alloc] at a2 a3;unfold zIC at a1 a2 a3 hB0 hsz;obtain ⟨W1,hW1⟩ : ∃ W1,((w.alloc (.cells #[.int .i64 d,.int .i64 l] 45)).alloc (.cells #[.int .i64 0,.int .i64 0,.int .u8 0,.slice none 0 0,.slice none 0 0] 118)).alloc (.cells #[.bool false] 4)=W1:=⟨_,rfl⟩;rw [hW1] at a1 a2 a3 hB0 hsz ⊢;clear hW1;have h2:=two_a W1 (.pointer (some ⟨pb,0,none⟩)) (.int .i64 d) 153 3 (w.heap.size+1+1+1) (by omega);have h3:=two_b W1 (.pointer (some ⟨pb,0,none⟩)) (.int .i64 d) 153 3 (w.heap.size+1+1+1+1) (by omega);have a1:=(a1.alloc (.cells #[.pointer (some ⟨pb,0,none⟩)] 153)).alloc (.cells #[.int .i64 d] 3);have a2:=(a2.alloc (.cells #[.pointer (some ⟨pb,0,none⟩)] 153)).alloc (.cells #[.int .i64 d] 3);have a3:=(a3.alloc (.cells #[.pointer (some ⟨pb,0,none⟩)] 153)).alloc (.cells #[.int .i64 d] 3);have hB0:=(hB0.alloc hB0.size (.cells #[.pointer (some ⟨pb,0,none⟩)] 153)).alloc (by simp;omega) (.cells #[.int .i64 d] 3);have hsz:((W1.alloc (.cells #[.pointer (some ⟨pb,0,none⟩)] 153)).alloc (.cells #[.int .i64 d] 3)).heap.size=w.heap.size+5:=by simp [hsz]
 generalize (W1.alloc _).alloc _=W0 at *;refine wpIn_rangeFunc_ownH (n:=3) rfl (by decide) (gf:=187) (lb:=#[.pointer (some ⟨w.heap.size+1+1+1,0,none⟩),.pointer (some ⟨w.heap.size+1+1+1+1,0,none⟩)]) rfl trivial (enters_of func187 (by kernel_rfl) rfl)
  (zKH 2 (by decide) w0 _ (zA hw0 hB0) pb (w.heap.size+1+1+1) (w.heap.size+1+1+1+1) vr vd R D d hB h2 h3 hs hlen hne) kpB_t (kpB_b (by omega)) (br_) (fun _=>rfl)
  (fun pre W=>((Lay W w.heap.size #[.int .i64 d,.int .i64 l] 45/\Lay W (w.heap.size+1) #[.int .i64 0,.int .i64 0,.int .u8 0,.slice none 0 0,.slice none 0 0] 118/\Lay W (w.heap.size+1+1) #[.bool false] 4)/\(∀ t∈pre,zEV d l t.x=false))/\Below w.heap.size w W)
  (fun c pre W=>(c = .ret/\∃ p0 t,pre=p0++[t]/\(∀ t∈p0,zEV d l t.x=false)/\zEV d l t.x=true /\
   (W.cell? ⟨w.heap.size+1,0,none⟩=some (.int .i64 t.x.d)/\W.cell? ⟨w.heap.size+1,1,none⟩=some (.int .i64 t.x.l)/\W.cell? ⟨w.heap.size+1,2,none⟩=some (.int .u8 t.x.k)/\W.cell? ⟨w.heap.size+1,3,none⟩=some (.slice t.ai t.x.items.length t.ci)/\W.cell? ⟨w.heap.size+1,4,none⟩=some (.slice t.ad t.x.dims.length t.cd)/\W.cell? ⟨w.heap.size+1+1,0,none⟩=some (.bool true)))/\Below w.heap.size w W)
  (OwnFrom.and (fun s A B row hs hg hr=>⟨⟨hs.1.1.keptN hg (fun r e=>(hr r e).2),hs.1.2.1.keptN hg (fun r e=>(hr r e).2),hs.1.2.2.keptN hg (fun r e=>(hr r e).2)⟩,hs.2⟩) (ownFrom_below (Nat.le_refl _) (by omega)))
  (fun c=>OwnFrom.and (fun s A B row hs hg hr=>by
   obtain ⟨hc,p0,t,h1,h2,h3,k0,k1,k2,k3,k4,k5⟩:=hs;exact ⟨hc,p0,t,h1,h2,h3,cell_kept k0 hg (fun r e=>(hr r e).2),cell_kept k1 hg (fun r e=>(hr r e).2),cell_kept k2 hg (fun r e=>(hr r e).2),cell_kept k3 hg (fun r e=>(hr r e).2),cell_kept k4 hg (fun r e=>(hr r e).2),cell_kept k5 hg (fun r e=>(hr r e).2)⟩) (ownFrom_below (Nat.le_refl _) (by omega)))
  ⟨⟨⟨a1,a2,a3⟩,fun _ h=>by cases h⟩,hB0⟩
  (fun x a' W=>∃ Bx,w.heap.size+1+1 < Bx/\Lay W Bx #[.int .i64 x.x.d,.int .i64 x.x.l,.int .u8 x.x.k,.slice x.ai x.x.items.length x.ci,.slice x.ad x.x.dims.length x.cd] 118/\a' = { tmps:=#[.pointer (some ⟨pb,0,none⟩),.agg #[.int .i64 d,.int .i64 l],undef,.pointer (some ⟨w.heap.size,0,none⟩),.pointer (some ⟨w.heap.size+1,0,none⟩),.pointer (some ⟨w.heap.size+1+1,0,none⟩),.pointer (some ⟨Bx,0,none⟩),.pointer (some ⟨pb,0,none⟩),.pointer (some ⟨w.heap.size,0,none⟩),.int .i64 d,.func (.func 187) #[] #[.pointer (some ⟨w.heap.size+1+1+1,0,none⟩),.pointer (some ⟨w.heap.size+1+1+1+1,0,none⟩)],x.enc,undef,undef,undef,undef,undef,undef],defers:=[] })
  (fun x a' _ X Y row hs hg hr=>by obtain ⟨Bx,h1,h2,h3⟩:=hs;exact ⟨Bx,h1,h2.keptN hg (fun r e=>(hr r e).2),h3⟩)
  ?assign ?body ?done ?stop
 case assign =>rintro l0 pre x W K ⟨⟨⟨b1,b2,b3⟩,hn⟩,hB1⟩ hK;simp [List.zip_toArray];have hK':=hK _ (W.alloc (.cells #[.int .i64 x.x.d,.int .i64 x.x.l,.int .u8 x.x.k,.slice x.ai x.x.items.length x.ci,.slice x.ad x.x.dims.length x.cd] 118)) ((KeepsOthers.alloc _ _).from _) (kpB_alloc (Nat.le_trans hws hB1.size) _) ⟨⟨⟨b1.alloc _,b2.alloc _,b3.alloc _⟩,hn⟩,hB1.alloc hB1.size _⟩ ⟨W.heap.size,b3.lt,Lay.new W _ _,rfl⟩;clear hK;unfold Iss.enc at hK' ⊢;gi_wp2;exact hK'
 case body =>
  rintro l0 pre x a' W hl ⟨r,hr⟩ ⟨⟨⟨b1,b2,b3⟩,hn⟩,hB1⟩ ⟨Bx,hBx,bX,rfl⟩ hlt;have lX:=bX.lt;have l1:=b1.lt;have l2:=b2.lt;have l3:=b3.lt;have hsW:=hB1.size;have hn1:w.heap.size<=W.heap.size:=hB1.size;have BX:=zE bX;have B1:=zE b1;have B2:=zE b2;have B3:=zE b3;have c0:=bX.cell 0 _ rfl;have c1:=bX.cell 1 _ rfl;have c2:=bX.cell 2 _ rfl;have c3:=bX.cell 3 _ rfl;have c4:=bX.cell 4 _ rfl;have d0:=b1.cell 0 _ rfl;have d1:=b1.cell 1 _ rfl;have HN:=zE hn;have HBW:=zE hB1;have HIR:zEV d l x.x=(x.x.d == d && x.x.l == l):=rfl;have HREF:=zE HIR;clear bX b1 b2 b3 hn hB1 hr hB hs hlen h2 h3 a1 a2 a3 hB0 HIR;have hnm:∀ W1,CallsIn (Fence.wide.inRound l0) 0 prog 166 #[.agg #[.int .i64 x.x.d,.int .i64 x.x.l,.int .u8 x.x.k,.slice x.ai x.x.items.length x.ci,.slice x.ad x.x.dims.length x.cd]] W1 (fun e w'=>e = .returned (.agg #[.int .i64 x.x.d,.int .i64 x.x.l])/\Below W1.heap.size W1 w'):=fun W1=>CallsIn.inRound l0 (callsIn_wide.2 (name_sheet W1 x.x _ _ _ _ _ _ _ _ rfl rfl))
  have hmx:prog.follows .mixedOrders=true:=by kernel_rfl
  by_cases g1:(x.x.d == d)=true
  ·by_cases g2:(x.x.l == l)=true
   ·gi_wp2
    gi_region_with_o (refine ⟨trivial,?_⟩;refine (hnm _).mono ?_;rintro e w' ⟨rfl,hb⟩;have EX:=Lay.ext2 hb BX.out;have E1:=Lay.ext2 hb B1.out;have E2:=Lay.ext2 hb B2.out;have E3:=Lay.ext2 hb B3.out;have hbw:=zA ((Below.refl _ W).drew) hb;have d0':=E1.cell 0 _ rfl;have d1':=E1.cell 1 _ rfl)
    all_goals have c0':=EX.cell 0 _ rfl
    all_goals have c1':=EX.cell 1 _ rfl
    all_goals have c2':=EX.cell 2 _ rfl
    all_goals have c3':=EX.cell 3 _ rfl
    all_goals have c4':=EX.cell 4 _ rfl
    all_goals have k0':=E2.cell 0 _ rfl
    all_goals have k1':=E2.cell 1 _ rfl
    all_goals have k2':=E2.cell 2 _ rfl
    all_goals have k3':=E2.cell 3 _ rfl
    all_goals have k4':=E2.cell 4 _ rfl
    all_goals have k5':=E3.cell 0 _ rfl
    all_goals have f0':=E2.frozen 0
    all_goals have f1':=E2.frozen 1
    all_goals have f2':=E2.frozen 2
    all_goals have f3':=E2.frozen 3
    all_goals have f4':=E2.frozen 4
    all_goals have f5':=E3.frozen 0
    all_goals gi_wp2
    all_goals exact ⟨((zDD hbw).trans (six_keep w' (w.heap.size+1) (w.heap.size+1+1) _ _ _ _ _ _ _ rfl)).from _,⟨rfl,pre,x,rfl,HN.out,by simp [zEV,g1,g2],six_cells w' _ _ (by omega) _ _ _ _ _ _ _ _ _ _ _ _ k0' k1' k2' k3' k4' k5' _ rfl⟩,six_below _ w w' (zA HBW.out hbw) _ _ (by omega) (by omega) _ _ _ _ _ _ _ rfl⟩
   ·have g2':(x.x.l == l)=false:=by simpa using g2
    gi_wp2
    gi_region_with_o (refine ⟨trivial,?_⟩;refine (hnm _).mono ?_;rintro e w' ⟨rfl,hb⟩;have EX:=Lay.ext2 hb BX.out;have E1:=Lay.ext2 hb B1.out;have E2:=Lay.ext2 hb B2.out;have E3:=Lay.ext2 hb B3.out;have hbw:=zA ((Below.refl _ W).drew) hb;have d0':=E1.cell 0 _ rfl;have d1':=E1.cell 1 _ rfl)
    all_goals gi_wp2
    all_goals exact ⟨(zDD hbw).from _,kpB_below (Nat.le_trans hws hn1) hbw,⟨⟨⟨E1,E2,E3⟩,fun t ht=>by
     rcases List.mem_append.1 ht with h | h
     ·exact HN.out t h
     ·rw [List.mem_singleton] at h;subst h;unfold zEV;simp [g2']⟩,zA HBW.out hbw⟩⟩
  ·have g1':(x.x.d == d)=false:=by simpa using g1
   gi_wp2
   gi_region_with_o (refine ⟨trivial,?_⟩;refine (hnm _).mono ?_;rintro e w' ⟨rfl,hb⟩;have EX:=Lay.ext2 hb BX.out;have E1:=Lay.ext2 hb B1.out;have E2:=Lay.ext2 hb B2.out;have E3:=Lay.ext2 hb B3.out;have hbw:=zA ((Below.refl _ W).drew) hb;have d0':=E1.cell 0 _ rfl;have d1':=E1.cell 1 _ rfl)
   all_goals gi_wp2
   all_goals exact ⟨(zDD hbw).from _,kpB_below (Nat.le_trans hws hn1) hbw,⟨⟨⟨E1,E2,E3⟩,fun t ht=>by
    rcases List.mem_append.1 ht with h | h
    ·exact HN.out t h
    ·rw [List.mem_singleton] at h;subst h;unfold zEV;simp [g1']⟩,zA HBW.out hbw⟩⟩
 case done =>
  rintro D ys W hD hS ⟨⟨⟨b1,b2,b3⟩,hn⟩,hB1⟩ hK;have k0:=b2.cell 0 _ rfl;have k1:=b2.cell 1 _ rfl;have k2:=b2.cell 2 _ rfl;have k3:=b2.cell 3 _ rfl;have k4:=b2.cell 4 _ rfl;have k5:=b3.cell 0 _ rfl;have f0:=b2.frozen 0;have f1:=b2.frozen 1;have f2:=b2.frozen 2;have f3:=b2.frozen 3;have f4:=b2.frozen 4;have f5:=b3.frozen 0;gi_wp2
  obtain ⟨Wd,hWd⟩ : ∃ Wd,(((((W.setCell ⟨w.heap.size+1,0,none⟩ (.int .i64 0)).setCell ⟨w.heap.size+1,1,none⟩ (.int .i64 0)).setCell ⟨w.heap.size+1,2,none⟩ (.int .u8 0)).setCell ⟨w.heap.size+1,3,none⟩ (.slice none 0 0)).setCell ⟨w.heap.size+1,4,none⟩ (.slice none 0 0)).setCell ⟨w.heap.size+1+1,0,none⟩ (.bool false)=Wd:=⟨_,rfl⟩;rw [hWd];have hK':=(six_keep W _ _ _ _ _ _ _ _ Wd hWd.symm).same D _ hK rfl;obtain ⟨y0,y1,y2,y3,y4,y5⟩:=six_cells W _ _ (by omega) _ _ _ _ _ _ _ _ _ _ _ _ k0 k1 k2 k3 k4 k5 Wd hWd.symm;have hbd:=six_below _ w W hB1 (w.heap.size+1) (w.heap.size+1+1) (by omega) (by omega) _ _ _ _ _ _ Wd hWd.symm;have kp:∀ (j b:Nat) (v:Value),Wd.cell? ⟨b,j,none⟩=some v->(Wd.putObj D (.deferred none)).cell? ⟨b,j,none⟩=some v:=fun j b v h=>cell_kept h (grownBy_putObj' Wd D (.deferred none)) (fun r e=>by cases e;exact ⟨_,hK',rfl⟩)
  refine ⟨by simp,.inl ⟨_,_,rfl,run_takeDeferred hK',?_⟩⟩;refine ⟨.tuple #[.agg #[.int .i64 0,.int .i64 0,.int .u8 0,.slice none 0 0,.slice none 0 0],.bool false],by simp [results,results125,go_sem,kp _ _ _ y0,kp _ _ _ y1,kp _ _ _ y2,kp _ _ _ y3,kp _ _ _ y4,kp _ _ _ y5],hbd.trans (belowK_b (w:=w) (Nat.le_refl _) Wd D _ _ (by omega) hK' rfl rfl),.inr ⟨find_all R d l (fun y hy=>?_),rfl⟩⟩;rw [<- hS] at hy;obtain ⟨t,ht,rfl⟩:=List.mem_map.1 hy;exact hn t ht
 case stop =>
  rintro D c pre W hD hS ⟨⟨rfl,p0,t,rfl,h1,h2,k0,k1,k2,k3,k4,k5⟩,hB1⟩ hK;gi_wp2
  have kp:∀ (j b:Nat) (v:Value),W.cell? ⟨b,j,none⟩=some v->(W.putObj D (.deferred none)).cell? ⟨b,j,none⟩=some v:=fun j b v h=>cell_kept h (grownBy_putObj' W D (.deferred none)) (fun r e=>by cases e;exact ⟨_,hK,rfl⟩)
  refine ⟨by simp,.inl ⟨_,_,rfl,run_takeDeferred hK,?_⟩⟩;have hW:=hB1.trans (belowK_b (w:=w) (Nat.le_refl _) W D _ (.deferred none) (by omega) hK rfl rfl);refine ⟨.tuple #[.agg #[.int .i64 t.x.d,.int .i64 t.x.l,.int .u8 t.x.k,.slice t.ai t.x.items.length t.ci,.slice t.ad t.x.dims.length t.cd],.bool true],by simp [results,results125,go_sem,kp _ _ _ k0,kp _ _ _ k1,kp _ _ _ k2,kp _ _ _ k3,kp _ _ _ k4,kp _ _ _ k5],hW,.inl ⟨t.x,_,_,?_,rfl,t.lies.items,t.lies.dims,t.lies.num⟩⟩;refine find_prefix R d l (p0.map (·.x)) t.x (by simpa using hS) (fun y hy=>?_) h2;obtain ⟨u,hu,rfl⟩:=List.mem_map.1 hy;exact h1 u hu
theorem find_iss (w:World) (pb:Nat) (vr vd:Value) (R:List Issue) (D:List Int) (d l:Int) (hB:BookAt w pb vr vd R D) (hs:zLJ R) (hlen:R.length<=100) (hne:R≠[]) :
  Calls prog 125 #[.pointer (some ⟨pb,0,none⟩),.agg #[.int .i64 d,.int .i64 l]] w (RetFind R d l w):=by
 refine (find_iss0 w w (br_) pb vr vd R D d l hB hs hlen hne).mono ?_;rintro e w' ⟨hb,h⟩;refine ⟨hb,?_⟩;rcases h with ⟨x,vi,vd',h1,h2,h3⟩ | h
 ·exact .inl ⟨x,vi,vd',h1,h2,h3.ext hb⟩
 ·exact .inr h
end
section
open Tryz
open Go.RowKit
def Fr {α:Type} (base:Nat) (e:TypeId) (E:World->Nat->Nat->α->Prop) : World->Nat->Nat->α->Prop :=
 fun w b o x=>E w b o x/\base<=b/\∃ cur,w.heap[b]? = some (.cells cur e (0,0))
theorem Fr.lt {α:Type} {base:Nat} {e:TypeId} {E:World->Nat->Nat->α->Prop} {w:World} {b o:Nat} {x:α} (h:Fr base e E w b o x) : b < w.heap.size:=by
 obtain ⟨_,_,cur,hc⟩:=h;exact (Array.getElem?_eq_some_iff.1 hc).1
def zBZ (base:Nat) (e:TypeId) (w w':World) : Prop:=∀ k cur,base<=k->w.heap[k]? = some (.cells cur e (0,0))->w'.heap[k]? = some (.cells cur e (0,0))
theorem same_below {base:Nat} {e:TypeId} {w w':World} (hb:Below w.heap.size w w') : zBZ base e w w':=fun k _ _ hc=>(hb.block k (Array.getElem?_eq_some_iff.1 hc).1).trans hc
theorem zRG {base g j:Nat} {e:TypeId} {w:World} {u:Value} (hg:g < base) : zBZ base e w (w.setCell ⟨g,j,none⟩ u):=fun k _ hk hc =>
 (Below.heap_setCell w ⟨g,j,none⟩ u k (by simp;omega)).trans hc
theorem same_grown {base:Nat} {e e':TypeId} {w w':World} {v:Value} {sz n:Nat} {cs:List Value} {base':Nat} (hgr:w.grownBy w' v.ownBlock) (hown:w.ownsRow base' e' sz v n cs) (hne:e≠e') : zBZ base e w w':=fun k cur _ hc=>by
 have hk:=(Array.getElem?_eq_some_iff.1 hc).1;refine (hgr.block k hk (fun h=>?_)).trans hc;rcases hown.2 with ⟨rfl,_⟩ | ⟨g,cap,cur',rfl,_,hcur,_⟩
 ·simp [Value.ownBlock] at h
 ·simp [Value.ownBlock] at h;subst h;rw [hcur] at hc;cases hc;exact hne rfl
theorem zBZ.trans {base:Nat} {e:TypeId} {w w1 w2:World} (h:zBZ base e w w1) (k:zBZ base e w1 w2) : zBZ base e w w2:=fun b cur hb hc=>k b cur hb (h b cur hb hc)
theorem zFG {α:Type} {base:Nat} {e:TypeId} {E:World->Nat->Nat->α->Prop} (hE:zGG E) : zGG (Fr base e E):=fun w w' b o x hb h =>
 ⟨hE _ _ _ _ _ hb h.1,h.2.1,by obtain ⟨cur,hc⟩:=h.2.2;exact ⟨cur,same_below (base:=0) hb b cur (Nat.zero_le _) hc⟩⟩
theorem sl_map {α:Type} {E E':World->Nat->Nat->α->Prop} {sz:Nat} {w:World} {v:Value} {xs:List α} (h:∀ b o x,E w b o x->E' w b o x) (hs:Sl E sz w v xs) : Sl E' sz w v xs:=by
 obtain ⟨a,cap,hv,hm,hc⟩:=hs;exact ⟨a,cap,hv,hm,fun k hk=>by obtain ⟨b,off,ha,he⟩:=hc k hk;exact ⟨b,off,ha,h _ _ _ he⟩⟩
theorem sl_to {α:Type} {E E':World->Nat->Nat->α->Prop} {sz:Nat} {w w':World} {v:Value} {xs:List α} (h:∀ b o x,E w b o x->E' w' b o x) (hs:Sl E sz w v xs) : Sl E' sz w' v xs:=by
 obtain ⟨a,cap,hv,hm,hc⟩:=hs;exact ⟨a,cap,hv,hm,fun k hk=>by obtain ⟨b,off,ha,he⟩:=hc k hk;exact ⟨b,off,ha,h _ _ _ he⟩⟩
theorem zLL {α:Type} {base:Nat} {e:TypeId} {E:World->Nat->Nat->α->Prop} {sz:Nat} {w:World} {v:Value} {xs:List α} (h:Sl (Fr base e E) sz w v xs) : Sl E sz w v xs:=sl_map (fun _ _ _ h=>h.1) h
theorem zOV {α:Type} {base base':Nat} (hb:base'<=base) {e:TypeId} {E:World->Nat->Nat->α->Prop} {sz:Nat} {w:World} {v:Value} {xs:List α} (h:Sl (Fr base e E) sz w v xs) : Sl (Fr base' e E) sz w v xs :=
 sl_map (fun _ _ _ h=>⟨h.1,Nat.le_trans hb h.2.1,h.2.2⟩) h
theorem zIR {α:Type} (E:World->Nat->Nat->α->Prop) (sz:Nat) (w:World) (a:Option Addr) (cap:Nat) : Sl E sz w (.slice a 0 cap) ([] : List α) :=
 ⟨a,cap,rfl,by simp,fun k hk=>by simp at hk⟩
theorem fr_of_own {α:Type} {E:World->Nat->Nat->α->Prop} {sz:Nat} {w:World} {v:Value} {xs:List α} {base:Nat} {e:TypeId} {cs:List Value} (h:Sl E sz w v xs) (hown:w.ownsRow base e sz v xs.length cs) : Sl (Fr base e E) sz w v xs:=by
 obtain ⟨a,cap,hv,hm,hc⟩:=h;refine ⟨a,cap,hv,hm,fun k hk=>?_⟩;obtain ⟨b,off,ha,he⟩:=hc k hk;refine ⟨b,off,ha,he,?_⟩;subst ha;rcases hown.2 with ⟨h0,_⟩ | ⟨g,cap',cur,hv',hg,hcur,_⟩
 ·rw [h0] at hv;cases hv
 ·rw [hv'] at hv
  cases hv;exact ⟨hg,cur,hcur⟩
theorem New.fr {α:Type} {E:World->Nat->Nat->α->Prop} {sz:Nat} {e:TypeId} {base:Nat} {w:World} {v:Value} {xs:List α} (h:New E sz e base w v xs) : Sl (Fr base e E) sz w v xs:=by
 obtain ⟨h1,cs,h2⟩:=h;exact fr_of_own h1 h2
def Local {α:Type} (E:World->Nat->Nat->α->Prop) : Prop:=∀ w w' b o x,w'.heap[b]? = w.heap[b]? -> E w b o x->E w' b o x
theorem zAF {w w':World} {b o:Nat} {v:Value} (h:w'.heap[b]? = w.heap[b]?) (hc:zK w b o v) : zK w' b o v:=by
 unfold zK at *;rw [World.cell?_of_block (w:=w) (a:=⟨b,o,none⟩) h];exact hc
theorem zFP:Local zAM:=fun _ _ _ _ _ h ⟨h0,hr⟩=>⟨zAF h h0,hr⟩
theorem zDZ:Local zBV:=fun _ _ _ _ _ h ⟨⟨h0,h1⟩,hr⟩=>⟨⟨zAF h h0,zAF h h1⟩,hr⟩
theorem zHA:Local zGJ:=fun _ _ _ _ _ h ⟨⟨h0,h1,h2⟩,hr⟩=>⟨⟨zAF h h0,zAF h h1,zAF h h2⟩,hr⟩
theorem zGM:Local zBL:=fun _ _ _ _ _ h ⟨⟨h0,h1,h2,h3,h4,h5,h6,h7,h8,h9⟩,hr⟩ =>
 ⟨⟨zAF h h0,zAF h h1,zAF h h2,zAF h h3,zAF h h4,zAF h h5,zAF h h6,zAF h h7,zAF h h8,zAF h h9⟩,hr⟩
theorem zEF:Local zDO:=fun _ _ _ _ _ h ⟨⟨h0,h1,h2,h3⟩,hr⟩=>⟨⟨zAF h h0,zAF h h1,zAF h h2,zAF h h3⟩,hr⟩
theorem zQL:Local zAT:=fun _ _ _ _ _ h ⟨⟨h0,h1,h2,h3,h4⟩,hr⟩=>⟨⟨zAF h h0,zAF h h1,zAF h h2,zAF h h3,zAF h h4⟩,hr⟩
theorem zCH {α:Type} {base:Nat} {e:TypeId} {E:World->Nat->Nat->α->Prop} {sz:Nat} (hE:Local E) {w w':World} (h:zBZ base e w w') {v:Value} {xs:List α} (hh:Sl (Fr base e E) sz w v xs) : Sl (Fr base e E) sz w' v xs :=
 sl_to (fun b o x ⟨he,hb,cur,hc⟩=>⟨hE w w' b o x ((h b cur hb hc).trans hc.symm) he,hb,cur,h b cur hb hc⟩) hh
theorem sl_set {α:Type} {base g j:Nat} {e:TypeId} {u:Value} {E:World->Nat->Nat->α->Prop} {sz:Nat} (hE:Local E) (hg:g < base) {w:World} {v:Value} {xs:List α} (h:Sl (Fr base e E) sz w v xs) : Sl (Fr base e E) sz (w.setCell ⟨g,j,none⟩ u) v xs :=
 zCH hE (zRG hg) h
theorem zI {B g j:Nat} {u:Value} {w w':World} (hg:B<=g) (h:Below B w w') : Below B w (w'.setCell ⟨g,j,none⟩ u):=h.setCell (p:=⟨g,j,none⟩) hg u
theorem zEK (w:World) (g j:Nat) (u:Value) : w.grownBy (w.setCell ⟨g,j,none⟩ u) (some g) :=
 ⟨rfl,rfl,rfl,by simp,fun k _ hk=>Below.heap_setCell w ⟨g,j,none⟩ u k (fun h=>hk (by rw [h]))⟩
theorem own_set {w:World} {base g j:Nat} {e:TypeId} {sz n:Nat} {v u:Value} {cs:List Value} (h:w.ownsRow base e sz v n cs) (hg:g < base) : (w.setCell ⟨g,j,none⟩ u).ownsRow base e sz v n cs :=
 h.kept (zEK w g j u) (.inr fun e=>by have:=(h.lt g e).1;omega)
theorem zDM {w:World} {base:Nat} {e:TypeId} {sz:Nat} {v:Value} {k:Nat} {cs:List Value} (h:w.ownsRow base e sz v (k+1) cs) : ∃ g cap,v = .slice (some ⟨g,0,none⟩) (k+1) cap:=by
 rcases h.2 with ⟨_,h0⟩ | ⟨g,cap,_,rfl,_⟩
 ·omega
 ·exact ⟨g,cap,rfl⟩
theorem zDG {w w':World} {base:Nat} {e:TypeId} {sz n:Nat} {v:Value} {cs:List Value} (hown:w.ownsRow base e sz v n cs) (hg:w.grownBy w' v.ownBlock) {b o:Nat} {u:Value} (hb:b < base) (h:zK w b o u) : zK w' b o u :=
 zAF (hg.block b (zAD h) (fun e=>by have:=(hown.lt b e.symm).1;omega)) h
theorem free_local {w w':World} {b:Nat} (hs:w.heap.size<=w'.heap.size) (h:w'.heap[b]? = w.heap[b]?) (hf:Free w b) : Free w' b :=
 ⟨Nat.lt_of_lt_of_le hf.1 hs,fun j=>(World.frozen?_of_block (a:=⟨b,j,none⟩) h).trans (hf.2 j)⟩
theorem grown_free {w w':World} {base:Nat} {e:TypeId} {sz n:Nat} {v:Value} {cs:List Value} (hown:w.ownsRow base e sz v n cs) (hg:w.grownBy w' v.ownBlock) {b:Nat} (hb:b < base) (h:Free w b) : Free w' b :=
 free_local hg.size (hg.block b h.1 (fun e=>by have:=(hown.lt b e.symm).1;omega)) h
theorem zEX {w0 w w':World} {base:Nat} {e:TypeId} {sz n:Nat} {v:Value} {cs:List Value} (hown:w.ownsRow base e sz v n cs) (hg:w.grownBy w' v.ownBlock) (hb:Below w0.heap.size w0 w) (hz:w0.heap.size<=base) : Below w0.heap.size w0 w' :=
 hb.grown hg hb.size (fun k e=>Nat.le_trans hz (hown.lt k e).1)
theorem free_set {w:World} {b g j:Nat} {u:Value} (h:Free w b) : Free (w.setCell ⟨g,j,none⟩ u) b:=⟨by simpa using h.1,fun k=>by rw [World.frozen?_setCell];exact h.2 k⟩
theorem cell_set_off {w:World} {b o j:Nat} {u v:Value} (hne:o≠j) (h:zK w b o v) : zK (w.setCell ⟨b,j,none⟩ u) b o v:=by
 unfold zK at *;rw [World.cell?_setCell_other]
 ·exact h
 ·intro e;cases e;exact hne rfl
theorem cell_set_same {w:World} {g j:Nat} {u v:Value} (h:zK w g j v) : zK (w.setCell ⟨g,j,none⟩ u) g j u:=World.cell?_setCell_same w ⟨g,j,none⟩ u h
def zGI (base:Nat) (w:World) (b o:Nat) (x:Issue) : Prop :=
 (zK w b o (.int .i64 x.d)/\zK w b (o+1) (.int .i64 x.l)/\zK w b (o+2) (.int .u8 x.k))/\(I64 x.d/\I64 x.l/\U8 x.k) /\
 ∃ vi vd,zK w b (o+3) vi/\zK w b (o+4) vd/\Sl (Fr base 97 zBV) 2 w vi x.items/\Sl (Fr base 167 zGJ) 3 w vd x.dims
theorem issueN_issue {base:Nat} {w:World} {b o:Nat} {x:Issue} (h:zGI base w b o x) : zAY w b o x:=by
 obtain ⟨h1,h2,vi,vd,h3,h4,h5,h6⟩:=h;exact ⟨h1,h2,vi,vd,h3,h4,zLL h5,zLL h6⟩
theorem stays_issueN {base:Nat} : zGG (zGI base):=fun _ _ _ _ _ hb ⟨⟨h1,h2,h3⟩,hr,vi,vd,h4,h5,h6,h7⟩ =>
 ⟨⟨zC hb h1,zC hb h2,zC hb h3⟩,hr,vi,vd,zC hb h4,zC hb h5,zJ (zFG zAX) hb h6,zJ (zFG zBS) hb h7⟩
theorem zIZ {base base':Nat} {w w':World} (h:zBZ base' 118 w w') (hi:zBZ base 97 w w') (hd:zBZ base 167 w w') {v:Value} {xs:List Issue} (hh:Sl (Fr base' 118 (zGI base)) 5 w v xs) :
  Sl (Fr base' 118 (zGI base)) 5 w' v xs :=
 sl_to (fun b o x ⟨⟨⟨h1,h2,h3⟩,hr,vi,vd,h4,h5,h6,h7⟩,hb,cur,hc⟩=>by
  have e:=(h b cur hb hc).trans hc.symm;exact ⟨⟨⟨zAF e h1,zAF e h2,zAF e h3⟩,hr,vi,vd,zAF e h4,zAF e h5,zCH zDZ hi h6,zCH zHA hd h7⟩,hb,cur,h b cur hb hc⟩) hh
def IssRow (base:Nat) (w:World) (cs:List Value) (xs:List Issue) : Prop :=
 cs.length=xs.length*5/\∀ k (hk:k < xs.length),(I64 xs[k].d/\I64 xs[k].l/\U8 xs[k].k)/\∃ vi vd,cs[k*5]? = some (.int .i64 xs[k].d)/\cs[k*5+1]? = some (.int .i64 xs[k].l)/\cs[k*5+2]? = some (.int .u8 xs[k].k) /\
  cs[k*5+3]? = some vi/\cs[k*5+4]? = some vd/\Sl (Fr base 97 zBV) 2 w vi xs[k].items/\Sl (Fr base 167 zGJ) 3 w vd xs[k].dims
theorem issRow_nil (base:Nat) (w:World) : IssRow base w [] []:=⟨rfl,fun k hk=>absurd hk (by simp)⟩
theorem issRow_snoc {base:Nat} {w:World} {cs:List Value} {xs:List Issue} (h:IssRow base w cs xs) (x:Issue) (vi vd:Value) (hn:I64 x.d/\I64 x.l/\U8 x.k) (hi:Sl (Fr base 97 zBV) 2 w vi x.items) (hd:Sl (Fr base 167 zGJ) 3 w vd x.dims) :
  IssRow base w (cs++[.int .i64 x.d,.int .i64 x.l,.int .u8 x.k,vi,vd]) (xs++[x]):=by
 obtain ⟨hl,h⟩:=h;refine ⟨by simp [hl];omega,fun k hk=>?_⟩;simp only [List.length_append,List.length_cons,List.length_nil] at hk;by_cases e:k < xs.length
 ·obtain ⟨h0,vi',vd',h1,h2,h3,h4,h5,h6,h7⟩:=h k e
  have ex:(xs++[x])[k]=xs[k]:=List.getElem_append_left e;refine ⟨by rw [ex];exact h0,vi',vd',?_,?_,?_,?_,?_,by rw [ex];exact h6,by rw [ex];exact h7⟩
  ·rw [List.getElem?_append_left (by omega),ex];exact h1
  ·rw [List.getElem?_append_left (by omega),ex];exact h2
  ·rw [List.getElem?_append_left (by omega),ex];exact h3
  ·rw [List.getElem?_append_left (by omega)];exact h4
  ·rw [List.getElem?_append_left (by omega)];exact h5
 ·obtain rfl:k=xs.length:=by omega
  have ex:(xs++[x])[xs.length]=x:=by simp
  refine ⟨by rw [ex];exact hn,vi,vd,?_,?_,?_,?_,?_,by rw [ex];exact hi,by rw [ex];exact hd⟩
  ·rw [List.getElem?_append_right (by omega),ex,show xs.length*5 - cs.length=0 by omega];rfl
  ·rw [List.getElem?_append_right (by omega),ex,show xs.length*5+1 - cs.length=1 by omega];rfl
  ·rw [List.getElem?_append_right (by omega),ex,show xs.length*5+2 - cs.length=2 by omega];rfl
  ·rw [List.getElem?_append_right (by omega),show xs.length*5+3 - cs.length=3 by omega];rfl
  ·rw [List.getElem?_append_right (by omega),show xs.length*5+4 - cs.length=4 by omega];rfl
theorem issRow_same {base:Nat} {w w':World} {cs:List Value} {xs:List Issue} (hi:zBZ base 97 w w') (hd:zBZ base 167 w w') (h:IssRow base w cs xs) : IssRow base w' cs xs:=by
 obtain ⟨hl,h⟩:=h;refine ⟨hl,fun k hk=>?_⟩;obtain ⟨h0,vi',vd',h1,h2,h3,h4,h5,h6,h7⟩:=h k hk;exact ⟨h0,vi',vd',h1,h2,h3,h4,h5,zCH zDZ hi h6,zCH zHA hd h7⟩
theorem issRow_sl {base base':Nat} {w:World} {cs:List Value} {xs:List Issue} {v:Value} (h:IssRow base w cs xs) (hown:w.ownsRow base' 118 5 v xs.length cs) : Sl (Fr base' 118 (zGI base)) 5 w v xs:=by
 refine fr_of_own ?_ hown;have hown':=hown;obtain ⟨hl,h⟩:=h;rcases hown.2 with ⟨rfl,hn0⟩ | ⟨g,cap,cur,rfl,_,_,hc,hcm,_⟩
 ·exact ⟨none,0,by rw [hn0],by omega,fun k hk=>by omega⟩
 ·refine ⟨some ⟨g,0,none⟩,cap,rfl,by unfold maxLen at hcm;omega,fun k hk=>⟨g,0,rfl,?_⟩⟩
  obtain ⟨h0,vi',vd',h1,h2,h3,h4,h5,h6,h7⟩:=h k hk;have key:∀ j u,cs[j]? = some u->zK w g j u:=fun j u hj=>by
   have:=hown'.cells (g:=g) rfl j u hj;rw [zAZ] at this;exact this
  rw [Nat.zero_add];exact ⟨⟨key _ _ h1,key _ _ h2,key _ _ h3⟩,h0,vi',vd',key _ _ h4,key _ _ h5,h6,h7⟩
section
variable {P:Program}
theorem run_append_empty (w:World) (t ty e:TypeId) (i:TypeInfo) (ht:P.underlying t=some (.slice e)) (hi:P.info? e=some i) (g:Nat) (a:Option Addr) (c:Nat) :
  (Builtin.append_ #[t,t] ty #[.slice (some ⟨g,0,none⟩) 0 0,.slice a 0 c]).run P w = .ok (.slice (some ⟨g,0,none⟩) 0 0) w:=by
 cases a with
 | none=>simp [Builtin.append_,run_underlying ht,sizeOf,typeInfo,hi,Builtin.lenOf,Builtin.firstCells,storeCells]
 | some ad =>have:=run_append_room_cells (P:=P) w t ty e i ht hi g 0 0 0 ad 0 c [] (by simp) (fun j u h=>by simp at h) (fun u h=>by simp at h) (by omega) (fun j h=>by simp at h) (fun j h=>by simp at h);simpa [World.setCells] using this
theorem grows_append_copy {o:Oper} {a:Act} {w:World} (s x:Operand) (t:TypeId) (ho:o.op = .call { callee:=.builtin .append,args:=#[s,x],argTypes:=#[t,t] })
  (e:TypeId) (i:TypeInfo) (z:Value) (sz bytes:Nat) (ht:P.underlying t=some (.slice e)) (hi:P.info? e=some i) (hz:i.zero=some z) (hsize:i.size=sz) (hby:i.bytes=bytes) (hzs:z.cells.size=sz) (hsz:0 < sz) (hby2:bytes<=1000)
  {α:Type} {E:World->Nat->Nat->α->Prop} (hC:zQG E sz) (hE:zHM E sz) (v0 v:Value) (xs:List α) (hs:a.eval s=v0) (hv0:∃ g,v0 = .slice (some ⟨g,0,none⟩) 0 0) (hx:a.eval x=v) (hsl:Sl E sz w v xs) (hn:xs.length<=100000) (base:Nat) (hbase:base<=w.heap.size) :
  o.grows P a w (fun u w'=>Sl (Fr base e E) sz w' u xs):=by
 obtain ⟨g,rfl⟩:=hv0;by_cases hx0:xs=[]
 ·subst hx0;obtain ⟨a',cap,rfl,_⟩:=zD hsl;have hrun:=run_append_empty (P:=P) w t o.type e i ht hi g a' cap;unfold Oper.grows;simp only [List.length_nil] at hx;simp [execOp,ho,resolve,invoke,builtin,hs,hx,hrun,Result.andThen];exact ⟨br_,zIR _ _ _ _ _⟩
 ·obtain ⟨a',cap,rfl,_⟩:=zD hsl
  obtain ⟨_,hX⟩:=zY hsl;obtain ⟨b,off,hh,_⟩:=hX 0 (List.length_pos_iff.2 hx0);cases hh;have hEE:∀ k (hk:k < xs.length),E w b (off+k*sz) xs[k]:=fun k hk=>by
   obtain ⟨b',off',hh,he⟩:=hX k hk;cases hh;exact he
  obtain ⟨news,hl,hc,h1⟩:=zLZ hE xs hEE;have hpos:=List.length_pos_iff.2 hx0;obtain ⟨v',w',hrun,r1,r2⟩:=run_append_arg_grows (P:=P) w t o.type e i z sz bytes ht hi hz hsize hby hzs hsz ⟨g,0,none⟩ 0 0 [] (by simp) (fun j u hj=>by simp at hj) ⟨b,off,none⟩ xs.length cap news hl (fun j u hj=>by rw [Addr.add_lit];exact hc j u hj)
   (by omega) (by unfold maxLen;omega) (by have:(0+xs.length)*bytes<=100000*1000:=Nat.mul_le_mul (by omega) hby2;omega)
  have hb:Below w.heap.size w w':=(Below.refl _ w).grown r2 (Nat.le_refl _) (fun k e=>by cases e);rw [Nat.zero_add,List.nil_append] at r1;unfold Oper.grows;simp [execOp,ho,resolve,invoke,builtin,hs,hx,hrun,Result.andThen];have hs':=zHC hC hb hEE hl hc r1;exact ⟨hb,zOV hbase (fr_of_own hs' r1)⟩
theorem grows_append_new {o:Oper} {a:Act} {w:World} (s x:Operand) (t:TypeId) (ho:o.op = .call { callee:=.builtin .append,args:=#[s,x],argTypes:=#[t,t] })
  (e:TypeId) (i:TypeInfo) (z:Value) (sz bytes:Nat) (ht:P.underlying t=some (.slice e)) (hi:P.info? e=some i) (hz:i.zero=some z) (hsize:i.size=sz) (hby:i.bytes=bytes) (hzs:z.cells.size=sz) (hsz:0 < sz) (hby2:bytes<=1000)
  {α:Type} {E:World->Nat->Nat->α->Prop} (hC:zQG E sz) (hE:zHM E sz) (v0 v:Value) (xs:List α) (hs:a.eval s=v0) (hv0:∃ g,v0 = .slice (some ⟨g,0,none⟩) 0 0) (hx:a.eval x=v) (hsl:Sl E sz w v xs) (hn:xs.length<=100000) (base:Nat) (hbase:base<=w.heap.size)
  (hown0:w.ownsRow base e sz v0 0 []) : o.grows P a w (fun u w'=>New E sz e base w' u xs/\∃ g cap,u = .slice (some ⟨g,0,none⟩) xs.length cap):=by
 obtain ⟨g,rfl⟩:=hv0;by_cases hx0:xs=[]
 ·subst hx0;obtain ⟨a',cap,rfl,_⟩:=zD hsl;have hrun:=run_append_empty (P:=P) w t o.type e i ht hi g a' cap;unfold Oper.grows;simp only [List.length_nil] at hx;simp [execOp,ho,resolve,invoke,builtin,hs,hx,hrun,Result.andThen];exact ⟨br_,⟨zIR _ _ _ _ _,_,hown0⟩,g,0,rfl⟩
 ·obtain ⟨a',cap,rfl,_⟩:=zD hsl
  obtain ⟨_,hX⟩:=zY hsl;obtain ⟨b,off,hh,_⟩:=hX 0 (List.length_pos_iff.2 hx0);cases hh;have hEE:∀ k (hk:k < xs.length),E w b (off+k*sz) xs[k]:=fun k hk=>by
   obtain ⟨b',off',hh,he⟩:=hX k hk;cases hh;exact he
  obtain ⟨news,hl,hc,h1⟩:=zLZ hE xs hEE;have hpos:=List.length_pos_iff.2 hx0;obtain ⟨v',w',hrun,r1,r2⟩:=run_append_arg_grows (P:=P) w t o.type e i z sz bytes ht hi hz hsize hby hzs hsz ⟨g,0,none⟩ 0 0 [] (by simp) (fun j u hj=>by simp at hj) ⟨b,off,none⟩ xs.length cap news hl (fun j u hj=>by rw [Addr.add_lit];exact hc j u hj)
   (by omega) (by unfold maxLen;omega) (by have:(0+xs.length)*bytes<=100000*1000:=Nat.mul_le_mul (by omega) hby2;omega)
  have hb:Below w.heap.size w w':=(Below.refl _ w).grown r2 (Nat.le_refl _) (fun k e=>by cases e);rw [Nat.zero_add,List.nil_append] at r1;unfold Oper.grows;simp [execOp,ho,resolve,invoke,builtin,hs,hx,hrun,Result.andThen];refine ⟨hb,⟨zHC hC hb hEE hl hc r1,news,hl,?_⟩,?_⟩
  ·rcases r1.2 with h | ⟨g',cap',cur,h1,h2,h3⟩
   ·exact .inl h
   ·exact .inr ⟨g',cap',cur,h1,Nat.le_trans hbase h2,h3⟩
  ·rcases r1.2 with h | ⟨g',cap',cur,h1,h2,h3⟩
   ·omega
   ·exact ⟨g',cap',h1⟩
end
end
section
open Tryz
open Go.RowKit
def Held (w:World) (l:List (Nat×Array Value×TypeId)) : Prop:=∀ x∈l,Lay w x.1 x.2.1 x.2.2
theorem Held.nil (w:World) : Held w []:=fun _ h=>by cases h
theorem Held.ext {w w':World} {l:List (Nat×Array Value×TypeId)} (h:Held w l) (hb:Below w.heap.size w w') : Held w' l:=fun x hx=>(h x hx).ext hb
theorem Held.new {w:World} {l:List (Nat×Array Value×TypeId)} (h:Held w l) (cs:Array Value) (t:TypeId) : Held (w.alloc (.cells cs t)) ((w.heap.size,cs,t) :: l):=fun x hx=>by
 rcases List.mem_cons.1 hx with rfl | hx
 ·exact Lay.new w t cs
 ·exact (h x hx).ext (zB w _)
theorem Held.get {w:World} {l:List (Nat×Array Value×TypeId)} (h:Held w l) (k:Nat) {g:Nat} {cs:Array Value} {t:TypeId} (hk:l[k]? = some (g,cs,t)) : Lay w g cs t:=h _ (List.mem_of_getElem? hk)
structure HeldB (w0 w:World) (l:List (Nat×Array Value×TypeId)) : Prop where
 below:Below w0.heap.size w0 w
 held:Held w l
theorem HeldB.nil (w:World) : HeldB w w []:=⟨br_,Held.nil w⟩
theorem HeldB.ext {w0 w w':World} {l:List (Nat×Array Value×TypeId)} (h:HeldB w0 w l) (hb:Below w.heap.size w w') : HeldB w0 w' l:=⟨zA h.below hb,h.held.ext hb⟩
theorem HeldB.new {w0 w:World} {l:List (Nat×Array Value×TypeId)} (h:HeldB w0 w l) (cs:Array Value) (t:TypeId) : HeldB w0 (w.alloc (.cells cs t)) ((w.heap.size,cs,t) :: l):=⟨zA h.below (zB w _),h.held.new cs t⟩
theorem HeldB.get {w0 w:World} {l:List (Nat×Array Value×TypeId)} (h:HeldB w0 w l) (k:Nat) {g:Nat} {cs:Array Value} {t:TypeId} (hk:l[k]? = some (g,cs,t)) : Lay w g cs t:=h.held.get k hk
theorem zV {n:Int} (h : -1000000<=n/\n<=1000000:=by decide) : I64 n:=by unfold I64;omega
theorem zMI {n:Int} (h:0<=n/\n<=255:=by decide) : U8 n:=h
theorem zIB {α:Type} {E:World->Nat->Nat->α->Prop} {sz:Nat} {w:World} {g n c:Nat} {cs:Array Value} {t:TypeId} {xs:List α} (hL:Lay w g cs t) (hn:xs.length=n) (hm:n<=1000)
  (h:∀ k (hk:k < xs.length),(∀ j v,cs[j]? = some v->zK w g j v)->E w g (0+k*sz) xs[k]) : Sl E sz w (.slice (some ⟨g,0,none⟩) n c) xs :=
 ⟨_,c,by rw [hn],by omega,fun k hk=>⟨g,0,rfl,h k hk (fun j v hv=>hL.cell j v hv)⟩⟩
theorem zCY {α:Type} (E:World->Nat->Nat->α->Prop) (sz:Nat) (w:World) : Sl E sz w (.slice none 0 0) []:=⟨none,0,rfl,by simp,fun k hk=>by simp at hk⟩
theorem Lay.q2 {W:World} {B:Nat} {v0 v1:Value} {t:TypeId} (h:Lay W B #[v0,v1] t) : B < W.heap.size/\(W.cell? ⟨B,0,none⟩=some v0/\W.cell? ⟨B,1,none⟩=some v1)/\W.frozen? ⟨B,0,none⟩=false/\W.frozen? ⟨B,1,none⟩=false:=⟨h.lt,⟨h.cell 0 _ rfl,h.cell 1 _ rfl⟩,h.frozen 0,h.frozen 1⟩
theorem Lay.q5 {W:World} {B:Nat} {v0 v1 v2 v3 v4:Value} {t:TypeId} (h:Lay W B #[v0,v1,v2,v3,v4] t) : B < W.heap.size/\(W.cell? ⟨B,0,none⟩=some v0/\W.cell? ⟨B,1,none⟩=some v1/\W.cell? ⟨B,2,none⟩=some v2/\W.cell? ⟨B,3,none⟩=some v3/\W.cell? ⟨B,4,none⟩=some v4) /\
  W.frozen? ⟨B,0,none⟩=false/\W.frozen? ⟨B,1,none⟩=false/\W.frozen? ⟨B,2,none⟩=false/\W.frozen? ⟨B,3,none⟩=false/\W.frozen? ⟨B,4,none⟩=false:=⟨h.lt,⟨h.cell 0 _ rfl,h.cell 1 _ rfl,h.cell 2 _ rfl,h.cell 3 _ rfl,h.cell 4 _ rfl⟩,h.frozen 0,h.frozen 1,h.frozen 2,h.frozen 3,h.frozen 4⟩
theorem Lay.q6 {W:World} {B:Nat} {v0 v1 v2 v3 v4 v5:Value} {t:TypeId} (h:Lay W B #[v0,v1,v2,v3,v4,v5] t) : B < W.heap.size/\(W.cell? ⟨B,0,none⟩=some v0/\W.cell? ⟨B,1,none⟩=some v1/\W.cell? ⟨B,2,none⟩=some v2/\W.cell? ⟨B,3,none⟩=some v3/\W.cell? ⟨B,4,none⟩=some v4/\W.cell? ⟨B,5,none⟩=some v5) /\
  W.frozen? ⟨B,0,none⟩=false/\W.frozen? ⟨B,1,none⟩=false/\W.frozen? ⟨B,2,none⟩=false/\W.frozen? ⟨B,3,none⟩=false/\W.frozen? ⟨B,4,none⟩=false/\W.frozen? ⟨B,5,none⟩=false :=
 ⟨h.lt,⟨h.cell 0 _ rfl,h.cell 1 _ rfl,h.cell 2 _ rfl,h.cell 3 _ rfl,h.cell 4 _ rfl,h.cell 5 _ rfl⟩,h.frozen 0,h.frozen 1,h.frozen 2,h.frozen 3,h.frozen 4,h.frozen 5⟩
def Ever (p:World->Prop) (w:World) : Prop:=∀ w',Below w.heap.size w w'->p w'
theorem Ever.ext {p:World->Prop} {w w':World} (h:Ever p w) (hb:Below w.heap.size w w') : Ever p w':=fun w2 h2=>h w2 (zA hb h2)
theorem Ever.now {p:World->Prop} {w:World} (h:Ever p w) : p w:=h w (br_)
theorem Ever.and {p q:World->Prop} {w:World} (h:Ever p w) (k:∀ w',Below w.heap.size w w'->q w') : Ever (fun w=>q w/\p w) w:=fun w' hb=>⟨k w' hb,h w' hb⟩
structure Sta (w0 w:World) (l:List (Nat×Array Value×TypeId)) (p:World->Prop) : Prop where
 held:HeldB w0 w l
 ever:Ever p w
theorem Sta.ext {w0 w w':World} {l:List (Nat×Array Value×TypeId)} {p:World->Prop} (h:Sta w0 w l p) (hb:Below w.heap.size w w') : Sta w0 w' l p:=⟨h.held.ext hb,h.ever.ext hb⟩
theorem Sta.new {w0 w:World} {l:List (Nat×Array Value×TypeId)} {p:World->Prop} (h:Sta w0 w l p) (cs:Array Value) (t:TypeId) : Sta w0 (w.alloc (.cells cs t)) ((w.heap.size,cs,t) :: l) p:=⟨h.held.new cs t,h.ever.ext (zB w _)⟩
theorem Sta.and {w0 w:World} {l:List (Nat×Array Value×TypeId)} {p q:World->Prop} (h:Sta w0 w l p) (k:∀ w',Below w.heap.size w w'->q w') : Sta w0 w l (fun w=>q w/\p w):=⟨h.held,h.ever.and k⟩
theorem Sta.get {w0 w:World} {l:List (Nat×Array Value×TypeId)} {p:World->Prop} (h:Sta w0 w l p) (k:Nat) {g:Nat} {cs:Array Value} {t:TypeId} (hk:l[k]? = some (g,cs,t)) : Lay w g cs t:=h.held.get k hk
theorem Sta.now {w0 w:World} {l:List (Nat×Array Value×TypeId)} {p:World->Prop} (h:Sta w0 w l p) : p w:=h.ever.now
theorem Sta.of {w:World} {p:World->Prop} (h:Ever p w) : Sta w w [] p:=⟨HeldB.nil w,h⟩
def fillW (w:World) (g:Nat) : Nat->List Value->World
 | _,[]=>w
 | j,v :: r=>fillW (w.setCell ⟨g,j,none⟩ v) g (j+1) r
theorem lay_set {w:World} {g:Nat} {cs:Array Value} {t:TypeId} (h:Lay w g cs t) (j:Nat) (v:Value) : Lay (w.setCell ⟨g,j,none⟩ v) g (cs.setIfInBounds j v) t:=by
 obtain ⟨hlt,hk⟩:=Array.getElem?_eq_some_iff.1 (show w.heap[g]? = _ from h);show (w.heap.modify g _)[g]? = _
 rw [Array.getElem?_eq_getElem (by rw [Array.size_modify];exact hlt),Array.getElem_modify_self,hk];rfl
theorem fill_gen {g n0:Nat} {t:TypeId} (hg:n0<=g) : ∀ (vs pre:List Value) (w:World) (cs:List Value),Lay w g (pre++cs).toArray t->cs.length=vs.length ->
  Lay (fillW w g pre.length vs) g (pre++vs).toArray t/\Below n0 w (fillW w g pre.length vs)
 | [],pre,w,cs,h,hl=>by
   obtain rfl:cs=[]:=List.length_eq_zero_iff.1 hl;exact ⟨h,br_⟩
 | v :: r,pre,w,[],h,hl=>by cases hl
 | v :: r,pre,w,c :: cs,h,hl=>by
   have h1:=lay_set h pre.length v;have e:(pre++c :: cs).toArray.setIfInBounds pre.length v=((pre++[v])++cs).toArray:=by simp
   rw [e] at h1;obtain ⟨h2,h3⟩:=fill_gen hg r (pre++[v]) _ cs h1 (by simpa using hl);simp only [List.length_append,List.length_cons,List.length_nil,List.append_assoc,List.cons_append,List.nil_append] at h2 h3;exact ⟨h2,(zI hg (Below.refl n0 w)).trans h3⟩
theorem Lay.ne {w:World} {a b:Nat} {cs cs':Array Value} {t t':TypeId} (h:Lay w a cs t) (h':Lay w b cs' t') (ht:t≠t') : a≠b:=by
 rintro rfl;have e:=(show w.heap[a]? = _ from h).symm.trans h';simp at e;exact ht e.2
theorem fill_keep {g:Nat} : ∀ (vs:List Value) (j:Nat) (w:World) (b:Nat),b≠g->(fillW w g j vs).heap[b]? = w.heap[b]?
 | [],_,_,_,_=>rfl
 | v :: r,j,w,b,hb=>(fill_keep r (j+1) _ b hb).trans (Below.heap_setCell w ⟨g,j,none⟩ v b hb)
theorem zIW {w w':World} {g:Nat} {cs:Array Value} {t:TypeId} (L:Lay w g cs t) (vs:List Value) (hs:cs.size=vs.length) (hW:fillW w g 0 vs=w') :
  Lay w' g vs.toArray t/\(∀ n0,n0<=g->Below n0 w w')/\∀ b cs' t',Lay w b cs' t'->t'≠t->Lay w' b cs' t':=by
 subst hW;exact ⟨(fill_gen (Nat.le_refl g) vs [] w cs.toList (by simpa using L) (by simpa using hs)).1,fun n0 h=>(fill_gen h vs [] w cs.toList (by simpa using L) (by simpa using hs)).2,fun b _ _ h ht=>(fill_keep vs 0 w b (h.ne L ht)).trans h⟩
end
end Go.Proofs.YtipaopbmklbmnaaGreatDoor
