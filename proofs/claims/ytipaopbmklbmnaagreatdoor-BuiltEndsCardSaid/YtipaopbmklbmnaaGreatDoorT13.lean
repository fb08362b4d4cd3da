/- Lemmas. -/
import Derived.Test.YtipaopbmklbmnaaGreatDoorT07
import Derived.Test.YtipaopbmklbmnaaGreatDoorT12
set_option linter.all false
set_option maxRecDepth 100000
set_option maxHeartbeats 0
namespace Go.Proofs.YtipaopbmklbmnaaGreatDoor
section
open Tryz
open Go.RowKit
attribute [local go_sem] zAE Oper.grows Oper.growUpon
def rowL (f:Int->Int) (D:List Int) (k:Nat) : List Value:=((D.take k).map f).map (Value.int .i64)
theorem rowL_zero (f:Int->Int) (D:List Int) : rowL f D 0=[]:=by simp [rowL]
theorem rowL_all (f:Int->Int) (D:List Int) : rowL f D D.length=(D.map f).map (Value.int .i64):=by unfold rowL;rw [List.take_length]
theorem nums_take (D:List Int) (f:Int->Int) (k:Nat) (hk:k < D.length) : rowL f D (k+1)=rowL f D k++[.int .i64 (f D[k])]:=by
 unfold rowL;rw [List.take_succ_eq_append_getElem hk,List.map_append,List.map_append];rfl
theorem letterBy_I64 {w:World} {v:Value} {N:List Note} (h:Sl zBL 10 w v N) {S:List Int} {m:Int} (d:Int) : I64 (zAA S m N d):=by
 unfold zAA zIG;cases hh:zKE N (fAt S m N) d N.length with
 | none=>exact ⟨by decide,by decide⟩
 | some x =>obtain ⟨hx,_⟩:=noteTo_mem hh;obtain ⟨k,hk,rfl⟩:=List.getElem_of_mem hx;obtain ⟨a,cap,rfl,_⟩:=zD h;obtain ⟨_,_,_,_,hr⟩:=(zY h).2 k hk;exact hr.2.2.2.2.1
end
section
open Tryz
open Go.RowKit
section
variable {P:Program} {Q:Exit->Act->World->Prop} {ops:List Oper} {m:Nat}
def growDB (ops:List Oper) (m c:Nat) : Bool :=
 zJK ops (m+1) && decide (c < m) && decide (m < ops.length) && (List.range m).all (fun j=>j == c || (zMK ops 12 ((ops[m]?).elim [] Oper.waitsOn)).contains j) &&
 ((ops[m]?).any fun o=>o.dst.isNone && o.guard.isNone) && ((ops[c]?).any fun o=>o.guard.isNone)
theorem dstsApart_take {l:List Oper} {k:Nat} : zDN (l.take (k+1))=true->zDN (l.take k)=true:=by
 induction l generalizing k with
 | nil=>intro h;simp [zDN]
 | cons o l ih =>
   cases k with
   | zero=>intro h;simp [zDN]
   | succ k =>
     intro h;simp only [List.take_succ_cons,zDN,Bool.and_eq_true] at h ⊢;refine ⟨?_,ih h.2⟩;have h1:=h.1;clear h ih;induction l generalizing k with
     | nil=>simpa using h1
     | cons o' l ih =>
       cases k with
       | zero=>simp [zHX]
       | succ k =>simp only [List.take_succ_cons,zHX,Bool.and_eq_true] at h1 ⊢;exact ⟨h1.1,ih _ h1.2⟩
theorem zQI {o:Oper} {ops:Array Oper} {a:Act} (h:o.guard=none) : Region.wanted o (yielded ops a.tmps)=true:=by
 unfold Region.wanted;rw [h]
theorem growD_any {c:Nat} {oc om:Oper} (hD:growDB ops m c=true) (hoc:ops[c]? = some oc) (hom:ops[m]? = some om) {a0:Act} {w0:World} (H:Nat->Value->World->Prop) (hs:∀ i,zED (H i)) (Hc:Value->Prop) (hcH:∀ v w,H c v w->Hc v)
  (step:∀ i o,i < m->ops[i]? = some o->∀ vs w,Below w0.heap.size w0 w->(∀ j∈o.waitsOn,H j (vs j) w)->zAE P ops.toArray o (zAB vs (ops.take m) 0 a0) w (H i))
  (pure:∀ vs w w1,(∀ j∈oc.waitsOn,H j (vs j) w1)->∃ v,(execOp (zAB vs (ops.take m) 0 a0).eval oc).run P w = .ok (.value v) w/\Hc v)
  (store:∀ vs w,Below w0.heap.size w0 w->(∀ i,i < m->i≠c->H i (vs i) w)->∃ w',(execOp (zAB vs (ops.take m) 0 a0).eval om).run P w = .ok .skip w' /\
   ∀ v,Hc v->wpList P ops.toArray Q (ops.drop (m+1)) ((zAB vs (ops.take m) 0 a0).put oc.dst v) w') :
  ∀ (fuel:Nat) (L:Array Bool) (a:Act) (w:World),L.size=ops.length->zEY ops L->(∀ j,m<=j->L.getD j false=false)->unTo L ops.length<=fuel ->
   (∃ vs,a=zAB vs (ops.take m) 0 a0/\Below w0.heap.size w0 w/\∀ i,i < m->L.getD i false=true->H i (vs i) w)->wpAny P .any ops.toArray Q fuel L a w:=by
 simp only [growDB,Bool.and_eq_true,decide_eq_true_eq] at hD;obtain ⟨⟨⟨⟨⟨hB,hcm⟩,hml⟩,hR⟩,hgm⟩,hgc⟩:=hD;rw [hom] at hgm hR;rw [hoc] at hgc;simp only [Option.any_some,Bool.and_eq_true,Option.isNone_iff_eq_none] at hgm hgc;have hap:=dstsApart_take (zME hB);have hreach:∀ j,j < m->j≠c->j∈zMK ops 12 om.waitsOn:=fun j hj hjc=>by
  have:=List.all_eq_true.1 hR j (List.mem_range.2 hj);simp only [Bool.or_eq_true,beq_iff_eq,Option.elim] at this;rcases this with h | h
  ·exact absurd h hjc
  ·simpa using h
 intro fuel;induction fuel with
 | zero =>intro L a w hL hd ht hu _;have hall:=zJM L ops.length (by omega);have h1:=zDK (by omega) (hall m hml);rw [ht m (Nat.le_refl _)] at h1;cases h1
 | succ fuel ih =>
   intro L a w hL hd ht hu ⟨vs,ha,hb,hf⟩;refine ⟨fun h0=>?_,fun k hk=>?_⟩
   ·have h1:=zDK (by omega) (zHY hB hL h0 m hml);rw [ht m (Nat.le_refl _)] at h1;cases h1
   obtain ⟨h0,o,hok,hw⟩:=zDE.1 hk;have hkl:=(List.getElem?_eq_some_iff.1 hok).1;by_cases hkm:k < m
   ·
    have hdeps:∀ j∈o.waitsOn,H j (vs j) w:=fun j hj=>hf j (by have:=zEN hB hok j hj;omega) (hw j hj)
    have hst:=step k o hkm hok vs w hb hdeps;have hnext:∀ v w',Below w.heap.size w w'->H k v w'->wpAny P .any ops.toArray Q fuel (L.setIfInBounds k true) (a.put o.dst v) w':=fun v w' hbw hv=>by
     refine ih _ _ w' (by simpa using hL) (zDQ hd hok hw) (fun j hj=>?_) ?_ ⟨fun j=>if j=k then v else vs j,?_,hb.trans (hbw.mono hb.size),fun i hi hli=>?_⟩
     ·rw [getD_set_ne false (by omega)];exact ht j hj
     ·have:=zOL L k h0 ops.length hkl;omega
     ·rw [ha];have:=zRD vs v (ops.take m) 0 k a0 o hap (by rw [List.getElem?_take_of_lt hkm];exact hok);rw [this];exact zEZ _ _ _ _ _ fun j _=>by rw [Nat.zero_add]
     ·simp only
      by_cases e:i=k
      ·subst e;rw [if_pos rfl];exact hv
      ·rw [if_neg e];rw [getD_set_ne false (Ne.symm e)] at hli;exact hs i _ _ _ hbw (hf i hi hli)
    unfold wpOp;simp only [List.getElem?_toArray,hok];unfold zAE at hst;rw [<- ha] at hst;split
    ·rename_i hwn;rw [if_pos hwn] at hst;exact .inl (Oper.wp_of_grows hst hnext)
    ·rename_i hwn;rw [if_neg hwn] at hst;exact hnext _ _ (br_) hst
   ·by_cases hkm2:k=m
    ·
     subst hkm2;rw [hom] at hok;cases hok;have hin:∀ i,i < k->i≠c->L.getD i false=true:=fun i hi hic=>zCL hd 12 _ hw i (hreach i hi hic)
     obtain ⟨w',hrun,hprom⟩:=store vs w hb (fun i hi hic=>hf i hi (hin i hi hic));unfold wpOp;simp only [List.getElem?_toArray,hom];rw [if_pos (zQI hgm.2)];left;unfold Oper.wp;rw [ha,hrun];simp only [Oper.upon];have hput:(zAB vs (ops.take k) 0 a0).put om.dst undef=zAB vs (ops.take k) 0 a0:=by rw [hgm.1];rfl
     rw [hput];have hL2:(L.setIfInBounds k true).size=ops.length:=by simpa using hL
     have hu2:unTo (L.setIfInBounds k true) ops.length<=fuel:=by have:=zOL L k h0 ops.length hkl;omega
     have hset:∀ i,i < ops.length->(L.setIfInBounds k true).getD i true=if i=k then true else L.getD i true:=fun i hi=>by
      by_cases e:k=i
      ·subst e;rw [if_pos rfl];exact zGB (by simp [hL,hkl])
      ·rw [getD_set_ne true e,if_neg (fun h=>e h.symm)]
     by_cases hlc:L.getD c false=true
     ·have hv:=hcH _ _ (hf c hcm hlc)
      have hw2:=hprom (vs c) hv;have he:(zAB vs (ops.take k) 0 a0).put oc.dst (vs c)=zAB vs (ops.take k) 0 a0:=by
       rw [zRD vs (vs c) (ops.take k) 0 c a0 oc hap (by rw [List.getElem?_take_of_lt hcm];exact hoc)];exact zEZ _ _ _ _ _ fun j _=>by
        rw [Nat.zero_add];by_cases e:j=c
        ·subst e;rw [if_pos rfl]
        ·rw [if_neg e]
      rw [he] at hw2;refine zKN hB fuel _ (k+1) _ w' hL2 (Nat.le_refl _) (fun i hi=>?_) hu2 hw2;rw [hset i hi];by_cases e:i=k
      ·subst e;rw [if_pos rfl];simp
      ·rw [if_neg e]
       by_cases e2:i < k
       ·by_cases e3:i=c
        ·subst e3;rw [zGB hlc];simp;omega
        ·rw [zGB (hin i e2 e3)];simp;omega
       ·have h1:=ht i (by omega)
        have h2:L.getD i true=false:=by
         by_cases h3:L.getD i true=true
         ·rw [zDK (by omega) h3] at h1;cases h1
         ·simpa using h3
        rw [h2];simp;omega
     ·
      cases fuel with
      | zero =>have hall:=zJM (L.setIfInBounds k true) ops.length (by omega);have h1:=hall c (by omega);rw [hset c (by omega),if_neg (by omega)] at h1;exact absurd (zDK (by omega) h1) hlc
      | succ fuel =>
        have hdc2:=zDQ hd hom hw;have hlc2:¬ (L.setIfInBounds k true).getD c false=true:=by rw [getD_set_ne false (by omega)];exact hlc
        refine ⟨fun h9=>?_,fun k2 hk2=>?_⟩
        ·exact absurd (zDK (by omega) (zHY hB hL2 h9 c (by omega))) hlc2
        obtain ⟨h02,o2,hok2,hw2⟩:=zDE.1 hk2;have hkl2:=(List.getElem?_eq_some_iff.1 hok2).1;have hk2c:k2=c:=by
         by_cases e:k2=c
         ·exact e
         ·exfalso
          rw [hset k2 hkl2] at h02;by_cases e2:k2=k
          ·rw [if_pos e2] at h02;cases h02
          ·rw [if_neg e2] at h02
           by_cases e3:k2 < k
           ·rw [zGB (hin k2 e3 e)] at h02;cases h02
           ·have:=zCL hdc2 12 _ (by rw [hok2];exact hw2) c (zHW hB hkl2 (by omega) c (by omega));exact hlc2 this
        subst hk2c;rw [hoc] at hok2;cases hok2;obtain ⟨v,hrunc,hv⟩:=pure vs w' w (fun j hj=>by
         have hjc:=zEN hB hoc j hj;exact hf j (by omega) (hin j (by omega) (by omega)))
        unfold wpOp;simp only [List.getElem?_toArray,hoc];rw [if_pos (zQI hgc)];left;unfold Oper.wp;rw [hrunc];simp only [Oper.upon];refine zKN hB fuel _ (k+1) _ w' (by simpa using hL) (Nat.le_refl _) (fun i hi=>?_) ?_ (hprom v hv)
        ·by_cases e:k2=i
         ·subst e;have:((L.setIfInBounds k true).setIfInBounds k2 true).getD k2 true=true:=zGB (by simp [hL,hkl2]);rw [this];simp;omega
         ·rw [getD_set_ne true e,hset i hi]
          by_cases e2:i=k
          ·subst e2;rw [if_pos rfl];simp
          ·rw [if_neg e2]
           by_cases e3:i < k
           ·rw [zGB (hin i e3 (fun h=>e h.symm))];simp;omega
           ·have h1:=ht i (by omega)
            have h2:L.getD i true=false:=by
             by_cases h3:L.getD i true=true
             ·rw [zDK (by omega) h3] at h1;cases h1
             ·simpa using h3
            rw [h2];simp;omega
        ·have:=zOL (L.setIfInBounds k true) k2 h02 ops.length hkl2;omega
    ·exfalso
     have:=zCL hd 12 _ (by rw [hok];exact hw) m (zHW hB hkl (by omega) m (by omega));rw [ht m (Nat.le_refl _)] at this;cases this
theorem wp_region_growD {id:Nat} {a0:Act} {w0:World} (m c:Nat) {oc om:Oper} (hm:P.follows .mixedOrders=true) (hD:growDB ops m c=true) (hoc:ops[c]? = some oc) (hom:ops[m]? = some om) (Hc:Value->Prop)
  (h:zFC P ops.toArray (ops.take m) a0 w0 (fun Hs=>(∀ v w,zAI Hs c v w->Hc v) /\
   (∀ vs w w1,(∀ j∈oc.waitsOn,zAI Hs j (vs j) w1)->∃ v,(execOp (zAB vs (ops.take m) 0 a0).eval oc).run P w = .ok (.value v) w/\Hc v) /\
   (∀ vs w,Below w0.heap.size w0 w->(∀ i,i < m->i≠c->zAI Hs i (vs i) w)->∃ w',(execOp (zAB vs (ops.take m) 0 a0).eval om).run P w = .ok .skip w' /\
    ∀ v,Hc v->wpList P ops.toArray Q (ops.drop (m+1)) ((zAB vs (ops.take m) 0 a0).put oc.dst v) w')) (ops.take m) []) :
  (Code.region id ops.toArray true).wp P Q a0 w0:=by
 have hB:zJK ops (m+1)=true:=by simp only [growDB,Bool.and_eq_true] at hD;exact hD.1.1.1.1.1
 have hml:m < ops.length:=by simp only [growDB,Bool.and_eq_true,decide_eq_true_eq] at hD;exact hD.1.1.1.2
 obtain ⟨Hs,⟨hQ1,hQ2,hQ3⟩,hst,_,hstep⟩:=zMJ (fun i o ho=>zEN hB ho) (ops.take m) [] (fun R hR=>by simp at hR) (fun i=>by simp) (by simp;omega) h;simp only [List.nil_append] at hQ1 hQ2 hQ3 hst hstep;refine wp_region_any hm ?_;obtain ⟨vs,hvs⟩:=zNX (ops.take m) 0 a0;refine growD_any hD hoc hom (zAI Hs) (fun i=>?_) Hc hQ1 (fun i o hi ho=>hstep i o (Nat.zero_le _) hi ho) hQ2 hQ3 _ _ _ _ (by simp) ?_ (fun j _=>?_) ?_ ⟨vs,hvs.symm,⟨rfl,rfl,rfl,Nat.le_refl _,fun _ _=>rfl⟩,fun i hi hli=>?_⟩
 ·unfold zAI
  cases hh:Hs[i]? with
  | none=>exact fun _ _ _ _ h=>h
  | some R=>exact hst R (List.mem_of_getElem? hh)
 ·intro i o hi;rw [zDV] at hi;cases hi
 ·exact zDV _ _
 ·simpa using zKQ ops.length ops.length
 ·rw [zDV] at hli
  cases hli
end
end
section
open Tryz
open Go.RowKit
attribute [local go_sem] zAE Oper.grows Oper.growUpon
def TupF (x:Issue) (W:World) (v:Value) : Prop:=∃ vi vd,v = .tuple #[.agg #[.int .i64 x.d,.int .i64 x.l,.int .u8 x.k,vi,vd],.bool true]/\IssueAt W vi vd x
def AggF (x:Issue) (W:World) (v:Value) : Prop:=∃ vi vd,v = .agg #[.int .i64 x.d,.int .i64 x.l,.int .u8 x.k,vi,vd]/\IssueAt W vi vd x
def NewIss (base:Nat) (v:Value) (w:World) : Prop:=∃ b,v = .pointer (some ⟨b,0,none⟩)/\base<=b/\Lay w b #[.int .i64 0,.int .i64 0,.int .u8 0,.slice none 0 0,.slice none 0 0] 118
theorem lay_set5 {W:World} {B:Nat} {x0 x1 x2 x3 x4:Value} {t:TypeId} (h:Lay W B #[x0,x1,x2,x3,x4] t) (u0 u1 u2 u3 u4:Value) :
  Lay (((((W.setCell ⟨B,0,none⟩ u0).setCell ⟨B,1,none⟩ u1).setCell ⟨B,2,none⟩ u2).setCell ⟨B,3,none⟩ u3).setCell ⟨B,4,none⟩ u4) B #[u0,u1,u2,u3,u4] t:=by
 have s:∀ (W:World) (cs:Array Value) (j:Nat) (u:Value),Lay W B cs t->Lay (W.setCell ⟨B,j,none⟩ u) B (cs.setIfInBounds j u) t:=fun W cs j u h=>heap_setCell_same W B j cs t u h
 exact s _ _ 4 u4 (s _ _ 3 u3 (s _ _ 2 u2 (s _ _ 1 u1 (s _ _ 0 u0 h))))
end
section
theorem issFold_acc (f:Int->Int) (x:Issue) (m:Nat) (acc:Int) : acc<=zDI f x m acc:=by
 induction m with
 | zero=>exact Int.le_refl _
 | succ m ih =>
   simp only [zDI];split
   ·exact ih
   ·omega
theorem issFold_ge (f:Int->Int) (x:Issue) (m:Nat) (acc:Int) (j:Nat) (hj:j < m) (y:Item) (hy:x.items[j]? = some y) : 1+f y.d<=zDI f x m acc:=by
 induction m with
 | zero=>omega
 | succ m ih =>
   simp only [zDI];by_cases e:j=m
   ·subst e;rw [hy];simp only;omega
   ·have:=ih (by omega)
    split
    ·exact this
    ·omega
theorem accTo_step (R:List Issue) (f:Int->Int) (k:Nat) (n:Int) : zDH R f k n<=zDH R f (k+1) n:=by
 simp only [zDH];split
 ·exact Int.le_refl _
 ·rename_i x _
  split
  ·rename_i h;subst h;have:=issFold_acc f x x.items.length (max (zDH R f k x.d) 1);omega
  ·exact Int.le_refl _
theorem accTo_mono (R:List Issue) (f:Int->Int) (k m:Nat) (h:k<=m) (n:Int) : zDH R f k n<=zDH R f m n:=by
 induction m with
 | zero =>
   obtain rfl:k=0:=by omega
   exact Int.le_refl _
 | succ m ih =>
   by_cases e:k=m+1
   ·subst e;exact Int.le_refl _
   ·exact Int.le_trans (ih (by omega)) (accTo_step R f m n)
theorem dep_child {R:List Issue} {x:Issue} (hx:x∈R) {y:Item} (hy:y∈x.items) (f:Nat) : 1+dep R f y.d<=dep R (f+1) x.d:=by
 obtain ⟨k,hk,rfl⟩:=List.getElem_of_mem hx;obtain ⟨j,hj,hy'⟩:=List.getElem_of_mem hy;have h1:=accTo_mono R (dep R f) (k+1) R.length (by omega) R[k].d;simp only [dep];refine Int.le_trans ?_ h1;rw [zOT R (dep R f) k hk,mid_at];exact issFold_ge _ _ _ _ j hj y (by rw [List.getElem?_eq_getElem hj,hy'])
theorem dep_pos {R:List Issue} {x:Issue} (hx:x∈R) (f:Nat) : 1<=dep R (f+1) x.d:=by
 obtain ⟨k,hk,rfl⟩:=List.getElem_of_mem hx;have h1:=accTo_mono R (dep R f) (k+1) R.length (by omega) R[k].d;simp only [dep];refine Int.le_trans ?_ h1;rw [zOT R (dep R f) k hk,mid_at];have:=issFold_acc (dep R f) R[k] R[k].items.length (max (zDH R (dep R f) k R[k].d) 1);omega
def zFJ (R:List Issue) (lt:Int->Int) : Nat->Int->Int->List (Int×Int)
 | 0,_,_=>[]
 | f+1,d,m=>match zCQ R d (lt d) with
   | none=>[]
   | some x=>(if x.k=1 then [] else [(d,m)])++x.items.flatMap (fun y=>zFJ R lt f y.d (m*y.c))
def tot (n:Int) : List (Int×Int)->Int
 | []=>0
 | p :: L=>(if p.1=n then p.2 else 0)+tot n L
theorem zOK (n:Int) (L M:List (Int×Int)) : tot n (L++M)=tot n L+tot n M:=by
 induction L with
 | nil=>simp [tot]
 | cons p L ih=>simp only [List.cons_append,tot,ih];omega
theorem tot_flat (n:Int) {α:Type} (g:α->List (Int×Int)) (C:Int) (ys:List α) (h:∀ y∈ys,0<=tot n (g y)/\tot n (g y)<=C) : 0<=tot n (ys.flatMap g)/\tot n (ys.flatMap g)<=(ys.length:Int)*C:=by
 induction ys with
 | nil=>simp [tot]
 | cons y ys ih =>
   have h1:=ih (fun z hz=>h z (List.mem_cons_of_mem _ hz));have h2:=h y (List.mem_cons_self ..);rw [List.flatMap_cons,zOK,List.length_cons];have:((ys.length+1:Nat) : Int)*C=(ys.length:Int)*C+C:=by rw [Int.natCast_add,Int.add_mul];simp
   omega
theorem zIH {R:List Issue} {d l:Int} {x:Issue} (h:zCQ R d l=some x) : x∈R/\x.d=d/\x.l=l:=by
 unfold zCQ at h;refine ⟨List.mem_of_find?_eq_some h,?_⟩;have:=List.find?_some h;simpa [zEV] using this
theorem contr_bd {R:List Issue} {lt:Int->Int} (hR:∀ x∈R,zGW x) (n:Int) : ∀ (f:Nat) (e:Nat) (d m:Int),1<=m->dep R f d < f->dep R f d<=e->0<=tot n (zFJ R lt f d m)/\tot n (zFJ R lt f d m)<=m*160 ^ e
 | 0,_,d,_,_,h,_=>by simp [dep] at h
 | f+1,e,d,m,hm,h,he=>by
   have hpow:∀ k:Nat,(1:Int)<=160 ^ k:=fun k=>by
    induction k with
    | zero=>simp
    | succ k ih=>rw [Int.pow_succ];omega
   have hmul:∀ k:Nat,m<=m*160 ^ k:=fun k=>by
    have:=Int.mul_le_mul_of_nonneg_left (hpow k) (show (0:Int)<=m by omega);omega
   simp only [zFJ];split
   ·have:=hmul e;simp [tot];omega
   ·rename_i x hx
    obtain ⟨hxR,hxd,_⟩:=zIH hx;obtain ⟨hH,hItems,_⟩:=hR x hxR;have hp:=dep_pos hxR f;rw [hxd] at hp;obtain ⟨e',rfl⟩ : ∃ e',e=e'+1:=⟨e - 1,by omega⟩;rw [zOK];by_cases hk:x.k=1
    ·rw [if_pos hk]
     have hl:(x.items.length:Int)<=8:=(hH.2.2.2.1 hk).1.2;have h2:=tot_flat n (fun y:Item=>zFJ R lt f y.d (m*y.c)) (m*20*160 ^ e') x.items (fun y hy=>by
      obtain ⟨j,hj,hyj⟩:=List.getElem_of_mem hy;have hI:=(hItems j hj hj).2.1;rw [hyj] at hI;have hc:=dep_child hxR hy f;rw [hxd] at hc;have h20:m*y.c<=m*20:=Int.mul_le_mul_of_nonneg_left hI.2 (by omega);have h1:1<=m*y.c:=by have:=Int.mul_le_mul_of_nonneg_left hI.1 (show (0:Int)<=m by omega);omega
      have:=contr_bd (lt:=lt) hR n f e' y.d (m*y.c) h1 (by omega) (by omega);refine ⟨this.1,Int.le_trans this.2 (Int.mul_le_mul_of_nonneg_right h20 (by have:=hpow e';omega))⟩)
     have hC:0<=m*20*160 ^ e':=Int.mul_nonneg (by omega) (by have:=hpow e';omega);have h3:=Int.mul_le_mul_of_nonneg_right hl hC;have h4:8*(m*20*160 ^ e')=m*160 ^ (e'+1):=by rw [Int.pow_succ];generalize (160:Int) ^ e'=q;rw [Int.mul_assoc m,Int.mul_left_comm 8 m,show (8:Int)*(20*q)=q*160 by omega]
     simp only [tot];omega
    ·rw [if_neg hk]
     have hk3:1 < x.k:=by have:=hH.2.2.1.1;omega
     have hl0:x.items=[]:=List.eq_nil_of_length_eq_zero (hH.2.2.2.2 hk3).2;rw [hl0];have:=hmul (e'+1);simp only [List.flatMap_nil,tot];split <;> omega
def zIE (R:List Issue) (lt:Int->Int) (d n:Int) : Int:=tot n (zFJ R lt ((nums R).length+1) d 1)
theorem cnt_bd {R:List Issue} (h:zX R=0) (lt:Int->Int) {d:Int} (hd:d∈nums R) (n:Int) : 0<=zIE R lt d n/\zIE R lt d n<=16777216000000:=by
 unfold zX at h;split at h
 ·rename_i hL
  split at h
  ·cases h
  ·rename_i h1
   split at h
   ·cases h
   ·rename_i h2
    have hd1:dep R ((nums R).length+1) d<=(nums R).length:=Int.not_lt.1 fun hh=>h1 ⟨d,hd,hh⟩
    have hd2:dep R ((nums R).length+1) d<=6:=Int.not_lt.1 fun hh=>h2 ⟨d,hd,hh⟩
    have:=contr_bd (lt:=lt) (fun x hx=>by
     obtain ⟨k,hk,rfl⟩:=List.getElem_of_mem hx;exact (hL.2.1 k hk).1 hk) n ((nums R).length+1) 6 d 1 (by omega) (by omega) (by omega)
    unfold zIE;have h6:(1:Int)*160 ^ 6=16777216000000:=by decide
    omega
 ·cases h
end
section
open Tryz
open Go.RowKit
theorem flatR_set5 (L:List Report) (k:Nat) (hk:k < L.length) (x:Report) :
  (((((zDJ L).set (k*5) (.int .i64 x.num)).set (k*5+1) (.int .i64 x.m)).set (k*5+2) (.int .i64 x.d)).set (k*5+3) (.int .i64 x.l)).set (k*5+4) (.int .u8 x.k)=zDJ (L.set k x):=by
 apply List.ext_getElem?;intro i;have hlen:=zOB L;have hlen2:=zOB (L.set k x);rw [List.length_set] at hlen2;by_cases hi:i < L.length*5
 ·have hq:i / 5 < L.length:=by omega
  have hs:i % 5 < 5:=Nat.mod_lt _ (by omega);have e:=zJZ (L.set k x) (i / 5) (by simpa using hq) (i % 5) hs;have e0:=zJZ L (i / 5) hq (i % 5) hs;rw [show i / 5*5+i % 5=i by omega] at e e0;rw [e];have hd:i=i / 5*5+i % 5:=by omega
  generalize hqq:i / 5=q at *;generalize hss:i % 5=s at *;by_cases hqk:q=k
  ·subst hqk
   have e1:(L.set q x)[q]'(by simpa using hq)=x:=List.getElem_set_self _;rw [e1];match s,hs with
   | 0,_=>simp only [List.getElem?_set,List.length_set,hlen];simp [zOG,show i=q*5 by omega];omega
   | 1,_=>simp only [List.getElem?_set,List.length_set,hlen];simp [zOG,show i=q*5+1 by omega];omega
   | 2,_=>simp only [List.getElem?_set,List.length_set,hlen];simp [zOG,show i=q*5+2 by omega];omega
   | 3,_=>simp only [List.getElem?_set,List.length_set,hlen];simp [zOG,show i=q*5+3 by omega];omega
   | 4,_=>simp only [List.getElem?_set,List.length_set,hlen];simp [zOG,show i=q*5+4 by omega];omega
  ·have e1:(L.set k x)[q]'(by simpa using hq)=L[q]:=List.getElem_set_ne (Ne.symm hqk) _;rw [e1,<- e0];rw [List.getElem?_set_ne (by omega),List.getElem?_set_ne (by omega),List.getElem?_set_ne (by omega),List.getElem?_set_ne (by omega),List.getElem?_set_ne (by omega)]
 ·rw [List.getElem?_eq_none (by simp [hlen];omega),List.getElem?_eq_none (by omega)]
theorem swap_down (rs:List Report) (r:Report) (j:Nat) (h0:0 < j) (hj:j<=rs.length) :
  ((rs.take j++r :: rs.drop j).set j (rs[j - 1]'(by omega))).set (j - 1) r=rs.take (j - 1)++r :: rs.drop (j - 1):=by
 obtain ⟨i,rfl⟩ : ∃ i,j=i+1:=⟨j - 1,by omega⟩;simp only [Nat.add_sub_cancel];rw [List.take_succ_eq_append_getElem (by omega),List.append_assoc];have hl:(rs.take i).length=i:=by rw [List.length_take];omega
 rw [List.set_append_right _ _ (by omega),hl,List.set_append_right _ _ (by omega),hl];have e:rs.drop i=rs[i] :: rs.drop (i+1):=List.drop_eq_getElem_cons (by omega);rw [e];simp
def insS (rs:List Report) (r:Report) : List Report:=rs.takeWhile (fun x=>decide (x.num<=r.num))++r :: rs.dropWhile (fun x=>decide (x.num<=r.num))
theorem insS_at (rs:List Report) (r:Report) (k:Nat) (hk:k<=rs.length) (h1:∀ j,j < k->(hj:j < rs.length)->rs[j].num<=r.num) (h2:(hk:k < rs.length)->¬ rs[k].num<=r.num) : insS rs r=rs.take k++r :: rs.drop k:=by
 have h:rs.takeWhile (fun x=>decide (x.num<=r.num))=rs.take k/\rs.dropWhile (fun x=>decide (x.num<=r.num))=rs.drop k:=by
  induction rs generalizing k with
  | nil=>simp
  | cons x rs ih =>
    cases k with
    | zero =>have:=h2 (by simp);simp at this;simp [List.takeWhile_cons,List.dropWhile_cons,this]
    | succ k =>have hx:=h1 0 (by omega) (by simp);simp at hx;obtain ⟨e1,e2⟩:=ih k (by simpa using hk) (fun j hj hjl=>by have:=h1 (j+1) (by omega) (by simp;omega);rwa [List.getElem_cons_succ] at this) (fun hk'=>by have:=h2 (by simp;omega);rwa [List.getElem_cons_succ] at this);simp [List.takeWhile_cons,List.dropWhile_cons,hx,e1,e2]
 unfold insS;rw [h.1,h.2]
def Rise (rs:List Report) : Prop:=∀ i,(h:i+1 < rs.length)->rs[i].num < rs[i+1].num
theorem rise_le {rs:List Report} (h:Rise rs) : ∀ (d i:Nat) (hi:i+d < rs.length),rs[i].num<=(rs[i+d]).num:=by
 intro d;induction d with
 | zero=>intro i hi;exact Int.le_refl _
 | succ d ih =>intro i hi;have h1:=ih i (by omega);have h2:=h (i+d) (by omega);have e:rs[i+(d+1)]=rs[i+d+1]:=rfl;rw [e];omega
theorem cells_rep {w:World} {base g n cap:Nat} {e:TypeId} {L:List Report} (h:w.ownsRow base e 5 (.slice (some ⟨g,0,none⟩) n cap) n (zDJ L)) (k:Nat) (hk:k < L.length) :
  zK w g (k*5) (.int .i64 L[k].num)/\zK w g (k*5+1) (.int .i64 L[k].m)/\zK w g (k*5+2) (.int .i64 L[k].d)/\zK w g (k*5+3) (.int .i64 L[k].l)/\zK w g (k*5+4) (.int .u8 L[k].k):=by
 have key:∀ j u,j < 5->(zOG L[k])[j]? = some u->zK w g (k*5+j) u:=fun j u hj hu=>by
  have:=h.cells (g:=g) rfl (k*5+j) u (by rw [zJZ L k hk j hj];exact hu);rw [zAZ] at this;exact this
 exact ⟨key 0 _ (by omega) rfl,key 1 _ (by omega) rfl,key 2 _ (by omega) rfl,key 3 _ (by omega) rfl,key 4 _ (by omega) rfl⟩
theorem own_put_aux {w:World} {base g n cap:Nat} {e:TypeId} {vs:List Value} (h:w.ownsRow base e 5 (.slice (some ⟨g,0,none⟩) n cap) n vs) (a b c d f:Nat) (u1 u2 u3 u4 u5:Value) :
  (((((w.setCell ⟨g,a,none⟩ u1).setCell ⟨g,b,none⟩ u2).setCell ⟨g,c,none⟩ u3).setCell ⟨g,d,none⟩ u4).setCell ⟨g,f,none⟩ u5).ownsRow base e 5 (.slice (some ⟨g,0,none⟩) n cap) n (((((vs.set a u1).set b u2).set c u3).set d u4).set f u5) :=
 by
 have h1:=(h.stored a u1).1;have h2:=(h1.stored b u2).1;have h3:=(h2.stored c u3).1;have h4:=(h3.stored d u4).1;have h5:=(h4.stored f u5).1;exact h5
theorem own_put {w:World} {base g n cap:Nat} {e:TypeId} {L:List Report} (h:w.ownsRow base e 5 (.slice (some ⟨g,0,none⟩) n cap) n (zDJ L)) (k:Nat) (hk:k < L.length) (x:Report) :
  (((((w.setCell ⟨g,k*5,none⟩ (.int .i64 x.num)).setCell ⟨g,k*5+1,none⟩ (.int .i64 x.m)).setCell ⟨g,k*5+2,none⟩ (.int .i64 x.d)).setCell ⟨g,k*5+3,none⟩ (.int .i64 x.l)).setCell ⟨g,k*5+4,none⟩ (.int .u8 x.k)).ownsRow base e 5 (.slice (some ⟨g,0,none⟩) n cap) n (zDJ (L.set k x)):=by
 have h5:=own_put_aux h (k*5) (k*5+1) (k*5+2) (k*5+3) (k*5+4) (.int .i64 x.num) (.int .i64 x.m) (.int .i64 x.d) (.int .i64 x.l) (.int .u8 x.k);rw [flatR_set5 L k hk x] at h5;exact h5
theorem zEA {w0 w:World} {g a:Nat} {u:Value} (h:w0.grownBy w (some g)) : w0.grownBy (w.setCell ⟨g,a,none⟩ u) (some g) :=
 ⟨Eq.trans rfl h.os,Eq.trans rfl h.tape,Eq.trans rfl h.output,by simpa using h.size,fun k hk hne=>by
  have hg:k≠g:=fun e=>hne (by rw [e])
  rw [Below.heap_setCell _ ⟨g,a,none⟩ u k hg];exact h.block k hk hne⟩
theorem grown_put {w0 w:World} {g a b c d f:Nat} {u1 u2 u3 u4 u5:Value} (h:w0.grownBy w (some g)) : w0.grownBy (((((w.setCell ⟨g,a,none⟩ u1).setCell ⟨g,b,none⟩ u2).setCell ⟨g,c,none⟩ u3).setCell ⟨g,d,none⟩ u4).setCell ⟨g,f,none⟩ u5) (some g) :=
 zEA (zEA (zEA (zEA (zEA h))))
theorem contr_part {R:List Issue} {lt:Int->Int} {f:Nat} {d m:Int} {x:Issue} (hx:zCQ R d (lt d)=some x) (hk:x.k≠1) (hi:x.items=[]) : zFJ R lt (f+1) d m=[(d,m)]:=by
 simp only [zFJ,hx,if_neg hk,hi,List.flatMap_nil,List.append_nil]
theorem contr_asm {R:List Issue} {lt:Int->Int} {f:Nat} {d m:Int} {x:Issue} (hx:zCQ R d (lt d)=some x) (hk:x.k=1) : zFJ R lt (f+1) d m=x.items.flatMap (fun y=>zFJ R lt f y.d (m*y.c)):=by
 simp only [zFJ,hx,if_pos hk,List.nil_append]
def zDY (R:List Issue) (lt:Int->Int) (f:Nat) (m:Int) (x:Issue) (j:Nat) (n:Int) : Int:=tot n ((x.items.take j).flatMap (fun y=>zFJ R lt f y.d (m*y.c)))
theorem zQM (R:List Issue) (lt:Int->Int) (f:Nat) (m:Int) (x:Issue) (n:Int) : zDY R lt f m x 0 n=0:=by simp [zDY,tot]
theorem zQK (R:List Issue) (lt:Int->Int) (f:Nat) (m:Int) (x:Issue) (j:Nat) (hj:j < x.items.length) (n:Int) : zDY R lt f m x (j+1) n=zDY R lt f m x j n+tot n (zFJ R lt f x.items[j].d (m*x.items[j].c)):=by
 unfold zDY;rw [List.take_succ_eq_append_getElem hj,List.flatMap_append,zOK];simp
theorem itemsTo_all (R:List Issue) (lt:Int->Int) (f:Nat) (m:Int) (x:Issue) (n:Int) : zDY R lt f m x x.items.length n=tot n (x.items.flatMap (fun y=>zFJ R lt f y.d (m*y.c))):=by
 unfold zDY;rw [List.take_length]
theorem zQE {R:List Issue} {lt:Int->Int} {f:Nat} {m:Int} {x:Issue} (h:∀ y∈x.items,∀ n,0<=tot n (zFJ R lt f y.d (m*y.c))) (n:Int) (i j:Nat) (hij:i<=j) (hj:j<=x.items.length) : zDY R lt f m x i n<=zDY R lt f m x j n:=by
 induction j with
 | zero =>
   obtain rfl:i=0:=by omega
   exact Int.le_refl _
 | succ j ih =>
   by_cases e:i=j+1
   ·subst e;exact Int.le_refl _
   ·have h1:=ih (by omega) (by omega);rw [zQK R lt f m x j (by omega)];have:=h _ (List.getElem_mem (show j < x.items.length by omega)) n;omega
end
section
structure Has where
 c:Int
 l:Int
 h:Int
def oldC (bef c n:Int) : Int:=min (max 0 (n - bef)) c
def zGH (x:Has) (l old:Int) : Int:=if l=x.l then x.c - old else if l=x.l - 1 then old else 0
def HoldsC (x:Has) (k:Int) (n:Int) : Prop:=if k=1 then 0 < n else if k=2 then 0 < n/\n=x.c else n=0
structure Span where
 lo:Int
 hi:Int
def most:Int:=1125899906842624
def spanAll:Span:=⟨-most,most⟩
def zCK:Span:=⟨1,0⟩
def zBG (x:Has) (bef l k:Int) : Span :=
 if x.c=0\/¬ ((l=x.l - 1/\0<=x.h)\/l=x.l) then (if k=3 then spanAll else zCK)
 else if x.h < 0 then (if k=3 then zCK else spanAll)
 else if l=x.l - 1 then (if k=1 then ⟨1+bef,most+bef⟩ else if k=2 then ⟨x.c+bef,most+bef⟩ else ⟨-most+bef,0+bef⟩)
 else (if k=1 then ⟨-most+bef,x.c - 1+bef⟩ else if k=2 then ⟨-most+bef,0+bef⟩ else ⟨x.c+bef,most+bef⟩)
def Span.has (s:Span) (n:Int) : Prop:=s.lo<=n/\n<=s.hi
theorem allowed_iff {x:Has} {bef l k n:Int} (hc:0<=x.c) (hcm:x.c<=most) (hb:0<=bef) (hbm:bef+1000<=most) (hk:1<=k/\k<=3) (hn:0<=n/\n<=200) (hh:0<=x.h) :
  HoldsC x k (zGH x l (oldC bef x.c n))↔(zBG x bef l k).has n:=by
 unfold HoldsC zGH oldC zBG Span.has spanAll zCK most at *;have hk3:k=1\/k=2\/k=3:=by omega
 rcases hk3 with rfl | rfl | rfl
 all_goals
  by_cases e0:x.c=0
  ·by_cases e1:l=x.l
   ·simp [e0,e1];try omega
   ·by_cases e2:l=x.l - 1
    ·simp [e0,e2];try omega
    ·simp [e0,e1,e2];try omega
  ·by_cases e1:l=x.l
   ·have e3:¬ x.l=x.l - 1:=by omega
    have e4:¬ x.h < 0:=by omega
    simp [e0,e1,e3,e4];try omega
   ·by_cases e2:l=x.l - 1
    ·have e3:¬ x.l - 1=x.l:=by omega
     have e4:¬ x.h < 0:=by omega
     simp [e0,e2,e3,e4,hh];try omega
    ·simp [e0,e1,e2];try omega
theorem zQF {x:Has} {bef l k:Int} (hc:0<=x.c) (hk:1<=k/\k<=3) (hh:x.h < 0) : HoldsC x k (zGH x l 0)↔zBG x bef l k≠zCK:=by
 unfold HoldsC zGH zBG spanAll zCK most at *;have hk3:k=1\/k=2\/k=3:=by omega
 have e4:¬ 0<=x.h:=by omega
 rcases hk3 with rfl | rfl | rfl
 all_goals
  by_cases e0:x.c=0
  ·by_cases e1:l=x.l
   ·simp [e0,e1]
   ·by_cases e2:l=x.l - 1
    ·simp [e0,e2]
    ·simp [e0,e1,e2]
  ·by_cases e1:l=x.l
   ·simp [e0,e1,hh];try omega
   ·by_cases e2:l=x.l - 1
    ·have e3:¬ x.l - 1=x.l:=by omega
     simp [e2,e3,e4]
    ·simp [e1,e2]
theorem sorted_eq {α:Type} {lt:α->α->Prop} (irr:∀ x,¬ lt x x) (asy:∀ x y,lt x y->¬ lt y x) : ∀ xs ys:List α,xs.Pairwise lt->ys.Pairwise lt->(∀ x,x∈xs↔x∈ys)->xs=ys
 | [],[],_,_,_=>rfl
 | [],y :: ys,_,_,h=>absurd ((h y).2 (List.mem_cons_self ..)) (by simp)
 | x :: xs,[],_,_,h=>absurd ((h x).1 (List.mem_cons_self ..)) (by simp)
 | x :: xs,y :: ys,hx,hy,h=>by
   have e:x=y:=by
    rcases List.mem_cons.1 ((h x).1 (List.mem_cons_self ..)) with e | e
    ·exact e
    ·rcases List.mem_cons.1 ((h y).2 (List.mem_cons_self ..)) with e' | e'
     ·exact e'.symm
     ·exact absurd ((List.pairwise_cons.1 hx).1 y e') (asy _ _ ((List.pairwise_cons.1 hy).1 x e))
   subst e;rw [sorted_eq irr asy xs ys (List.pairwise_cons.1 hx).2 (List.pairwise_cons.1 hy).2 (fun z=>⟨fun hz=>by
    rcases List.mem_cons.1 ((h z).1 (List.mem_cons_of_mem _ hz)) with rfl | e
    ·exact absurd ((List.pairwise_cons.1 hx).1 z hz) (irr z)
    ·exact e,fun hz=>by
    rcases List.mem_cons.1 ((h z).2 (List.mem_cons_of_mem _ hz)) with rfl | e
    ·exact absurd ((List.pairwise_cons.1 hy).1 z hz) (irr z)
    ·exact e⟩)]
def lexB:List Int->List Int->Bool
 | a :: r,b :: s=>if a=b then lexB r s else decide (a < b)
 | _,_=>false
def zFV (a b:List Int) : Bool:=if a.length=b.length then lexB a b else decide (a.length < b.length)
theorem lexB_irr:∀ a,lexB a a=false
 | []=>rfl
 | a :: r=>by simp [lexB,lexB_irr r]
theorem lexB_asy:∀ a b,lexB a b=true->lexB b a=false
 | [],_,h=>by simp [lexB] at h
 | _ :: _,[],h=>by simp [lexB] at h
 | a :: r,b :: s,h=>by
   simp only [lexB] at h ⊢;by_cases e:a=b
   ·subst e;rw [if_pos rfl] at h ⊢;exact lexB_asy r s h
   ·rw [if_neg e] at h;rw [if_neg (fun h=>e h.symm)];simp at h ⊢;omega
theorem lexB_tot:∀ a b,a.length=b.length->lexB a b=false->lexB b a=false->a=b
 | [],[],_,_,_=>rfl
 | [],_ :: _,h,_,_=>by simp at h
 | _ :: _,[],h,_,_=>by simp at h
 | a :: r,b :: s,h,h1,h2=>by
   simp only [lexB] at h1 h2;by_cases e:a=b
   ·subst e;rw [if_pos rfl] at h1 h2;rw [lexB_tot r s (by simpa using h) h1 h2]
   ·rw [if_neg e] at h1;rw [if_neg (fun h=>e h.symm)] at h2;simp at h1 h2;omega
theorem lexB_tr:∀ a b c,a.length=b.length->b.length=c.length->lexB a b=true->lexB b c=true->lexB a c=true
 | [],_,_,_,_,h,_=>by simp [lexB] at h
 | _ :: _,[],_,_,_,h,_=>by simp [lexB] at h
 | _ :: _,_ :: _,[],_,_,_,h=>by simp [lexB] at h
 | a :: r,b :: s,c :: t,l1,l2,h1,h2=>by
   simp only [lexB] at h1 h2 ⊢;by_cases e:a=b
   ·subst e
    rw [if_pos rfl] at h1;by_cases e2:a=c
    ·subst e2;rw [if_pos rfl] at h2 ⊢;exact lexB_tr r s t (by simpa using l1) (by simpa using l2) h1 h2
    ·rw [if_neg e2] at h2 ⊢;exact h2
   ·rw [if_neg e] at h1
    by_cases e2:b=c
    ·subst e2;rw [if_neg e];exact h1
    ·rw [if_neg e2] at h2;simp at h1 h2;rw [if_neg (by omega)];simp;omega
theorem befL_irr (a:List Int) : zFV a a=false:=by unfold zFV;rw [if_pos rfl];exact lexB_irr a
theorem befL_asy (a b:List Int) (h:zFV a b=true) : zFV b a=false:=by
 unfold zFV at *;by_cases e:a.length=b.length
 ·rw [if_pos e] at h;rw [if_pos e.symm];exact lexB_asy _ _ h
 ·rw [if_neg e] at h;rw [if_neg (fun h=>e h.symm)];simp at h ⊢;omega
theorem zMM (a b:List Int) (h:zFV a b=false) (h2:zFV b a=false) : a=b:=by
 unfold zFV at *;by_cases e:a.length=b.length
 ·rw [if_pos e] at h;rw [if_pos e.symm] at h2;exact lexB_tot _ _ e h h2
 ·rw [if_neg e] at h;rw [if_neg (fun h=>e h.symm)] at h2;simp at h h2;omega
theorem befL_tr (a b c:List Int) (h:zFV a b=true) (h2:zFV b c=true) : zFV a c=true:=by
 unfold zFV at *;by_cases e:a.length=b.length
 ·rw [if_pos e] at h
  by_cases e2:b.length=c.length
  ·rw [if_pos e2] at h2;rw [if_pos (e.trans e2)];exact lexB_tr _ _ _ e e2 h h2
  ·rw [if_neg e2] at h2;rw [if_neg (by omega)];simp at h2 ⊢;omega
 ·rw [if_neg e] at h
  by_cases e2:b.length=c.length
  ·rw [if_neg (by omega)];simp at h ⊢;omega
  ·rw [if_neg e2] at h2;simp at h h2;rw [if_neg (by omega)];simp;omega
def Ord (A:List (List Int)) : Prop:=A.Pairwise (fun a b=>zFV a b=true)
theorem ord_eq {A B:List (List Int)} (hA:Ord A) (hB:Ord B) (h:∀ l,l∈A↔l∈B) : A=B :=
 sorted_eq (lt:=fun a b=>zFV a b=true) (fun x=>by simp [befL_irr]) (fun x y hh=>by simp [befL_asy x y hh]) A B hA hB h
theorem zIX {a b:List Int} (ha:a.Pairwise (· < ·)) (hb:b.Pairwise (· < ·)) (h:∀ x,x∈a↔x∈b) : a=b :=
 sorted_eq (lt:=fun a b:Int=>a < b) (fun x=>by omega) (fun x y hh=>by omega) a b ha hb h
def IsT (O l:List Int) : Prop:=l.Pairwise (· < ·)/\∀ x∈l,x∈O
def srt (l:List Int) : List Int:=l.mergeSort (fun a b=>decide (a<=b))
theorem zPE {l:List Int} {x:Int} : x∈srt l↔x∈l:=List.mem_mergeSort
theorem srt_rise {l:List Int} (h:l.Nodup) : (srt l).Pairwise (· < ·):=by
 have h1:(srt l).Pairwise (fun a b=>decide (a<=b)=true):=List.pairwise_mergeSort (fun a b c h1 h2=>by simp at *;omega) (fun a b=>by simp;omega) l;have h2:(srt l).Nodup:=(List.mergeSort_perm l _).nodup_iff.2 h;refine (h1.and h2).imp (fun ⟨a1,a2⟩=>?_);simp at a1;omega
def stepP (A:List (List Int)) (x:Int) : List (List Int):=A++A.map (fun l=>srt (l++[x]))
def zQD (O:List Int) : List (List Int):=O.foldl stepP [[]]
theorem zGL {l:List Int} (h:l.Pairwise (· < ·)) : l.Nodup:=h.imp (fun h=>by omega)
theorem zOQ {l:List Int} {x:Int} (h:l.Nodup) (hx:x ∉ l) : (l++[x]).Nodup:=by
 rw [List.nodup_append];exact ⟨h,by simp,fun a ha b hb=>by simp at hb;subst hb;intro e;subst e;exact hx ha⟩
theorem allP_snoc (O:List Int) (x:Int) : zQD (O++[x])=stepP (zQD O) x:=by unfold zQD;rw [List.foldl_append];rfl
theorem allP_rev (O:List Int) (h:O.reverse.Nodup) : (∀ l,l∈zQD O.reverse↔IsT O.reverse l)/\(zQD O.reverse).Nodup:=by
 induction O with
 | nil =>
   refine ⟨fun l=>?_,by simp [zQD]⟩;simp only [List.reverse_nil,zQD,List.foldl_nil,List.mem_singleton,IsT];constructor
   ·rintro rfl;simp
   ·rintro ⟨_,h2⟩
    cases l with
    | nil=>rfl
    | cons a r=>exact absurd (h2 a (List.mem_cons_self ..)) (by simp)
 | cons x O ih =>
   rw [List.reverse_cons] at h ⊢;have hO:O.reverse.Nodup:=(List.nodup_append.1 h).1;have hx:x ∉ O.reverse:=fun hx=>(List.nodup_append.1 h).2.2 x hx x (by simp) rfl
   obtain ⟨h1,h2⟩:=ih hO;generalize O.reverse=P at *;have hxl:∀ l∈zQD P,x ∉ l:=fun l hl hh=>hx ((h1 l).1 hl |>.2 x hh)
   rw [allP_snoc];refine ⟨fun l=>?_,?_⟩
   ·unfold stepP
    rw [List.mem_append,h1];constructor
    ·rintro (⟨a1,a2⟩ | hm)
     ·exact ⟨a1,fun y hy=>List.mem_append_left _ (a2 y hy)⟩
     ·obtain ⟨l0,hl0,rfl⟩:=List.mem_map.1 hm
      obtain ⟨a1,a2⟩:=(h1 l0).1 hl0;refine ⟨srt_rise (zOQ (zGL a1) (hxl l0 hl0)),fun y hy=>?_⟩;rw [zPE,List.mem_append] at hy;rcases hy with hy | hy
      ·exact List.mem_append_left _ (a2 y hy)
      ·exact List.mem_append_right _ hy
    ·rintro ⟨a1,a2⟩
     by_cases hxm:x∈l
     ·right
      have hf:(l.filter (fun y=>decide (y≠x))).Pairwise (· < ·):=a1.filter _;have hIs:IsT P (l.filter (fun y=>decide (y≠x))):=⟨hf,fun y hy=>by
       rw [List.mem_filter] at hy;rcases List.mem_append.1 (a2 y hy.1) with h | h
       ·exact h
       ·simp at h;simp [h] at hy⟩
      refine List.mem_map.2 ⟨_,(h1 _).2 hIs,zIX (srt_rise (zOQ (zGL hf) (by simp))) a1 (fun y=>?_)⟩;rw [zPE,List.mem_append,List.mem_filter];simp only [decide_eq_true_eq,List.mem_singleton];constructor
      ·rintro (⟨h,_⟩ | rfl)
       ·exact h
       ·exact hxm
      ·intro h
       by_cases e:y=x
       ·exact .inr e
       ·exact .inl ⟨h,e⟩
     ·left
      refine ⟨a1,fun y hy=>?_⟩;rcases List.mem_append.1 (a2 y hy) with h | h
      ·exact h
      ·simp at h;subst h;exact absurd hy hxm
   ·unfold stepP
    rw [List.nodup_append];refine ⟨h2,?_,?_⟩
    ·unfold List.Nodup
     rw [List.pairwise_map];refine (List.Pairwise.and_mem.1 h2).imp ?_;rintro a c ⟨ha,hc,hne⟩ he;apply hne;obtain ⟨a1,_⟩:=(h1 a).1 ha;obtain ⟨c1,_⟩:=(h1 c).1 hc;refine zIX a1 c1 (fun y=>?_);have key:y∈srt (a++[x])↔y∈srt (c++[x]):=by rw [he]
     rw [zPE,zPE,List.mem_append,List.mem_append] at key;by_cases e:y=x
     ·subst e;exact ⟨fun h=>absurd h (hxl a ha),fun h=>absurd h (hxl c hc)⟩
     ·simpa [e] using key
    ·intro a ha c hc he;obtain ⟨l0,hl0,rfl⟩:=List.mem_map.1 hc;subst he;exact hxl _ ha (zPE.2 (List.mem_append_right _ (by simp)))
theorem allP_mem {O:List Int} (h:O.Nodup) (l:List Int) : l∈zQD O↔IsT O l:=by
 have:=(allP_rev O.reverse (by rw [List.reverse_reverse];exact h)).1 l;rwa [List.reverse_reverse] at this
theorem allP_nodup {O:List Int} (h:O.Nodup) : (zQD O).Nodup:=by
 have:=(allP_rev O.reverse (by rw [List.reverse_reverse];exact h)).2;rwa [List.reverse_reverse] at this
def zPH (O:List Int) (s:Nat) : Nat->List Int
 | 0=>[]
 | i+1=>zPH O s i++(if s.testBit i then [O.getD i 0] else [])
theorem zJW {O:List Int} {s i:Nat} (hi:i<=O.length) {y:Int} : y∈zPH O s i↔∃ j,j < i/\s.testBit j=true/\O[j]? = some y:=by
 induction i with
 | zero=>simp [zPH]
 | succ i ih =>
   simp only [zPH,List.mem_append,ih (by omega)];have hg:O.getD i 0=O[i]'(by omega):=by rw [List.getD_eq_getElem?_getD,List.getElem?_eq_getElem (by omega)];rfl
   constructor
   ·rintro (⟨j,hj,h1,h2⟩ | h)
    ·exact ⟨j,by omega,h1,h2⟩
    ·split at h
     ·rename_i hb;rw [hg] at h;simp at h;exact ⟨i,by omega,hb,by rw [List.getElem?_eq_getElem (by omega),h]⟩
     ·simp at h
   ·rintro ⟨j,hj,h1,h2⟩
    by_cases e:j=i
    ·subst e;right;rw [if_pos h1,hg];rw [List.getElem?_eq_getElem (by omega)] at h2;simp at h2;simp [h2]
    ·exact .inl ⟨j,by omega,h1,h2⟩
theorem selTo_rise {O:List Int} (hO:O.Pairwise (· < ·)) {s i:Nat} (hi:i<=O.length) : (zPH O s i).Pairwise (· < ·):=by
 induction i with
 | zero=>simp [zPH]
 | succ i ih =>
   simp only [zPH];rw [List.pairwise_append];refine ⟨ih (by omega),by split <;> simp,fun a ha b hb=>?_⟩;split at hb
   ·obtain ⟨j,hj,_,h2⟩:=(zJW (by omega)).1 ha
    have hg:O.getD i 0=O[i]'(by omega):=by rw [List.getD_eq_getElem?_getD,List.getElem?_eq_getElem (by omega)];rfl
    rw [hg] at hb;simp at hb;subst hb;rw [List.getElem?_eq_getElem (by omega)] at h2;simp at h2;subst h2;exact List.pairwise_iff_getElem.1 hO j i (by omega) (by omega) hj
   ·simp at hb
theorem bits_of:∀ (k:Nat) (p:Nat->Bool),∃ s,s < 2 ^ k/\∀ j,j < k->s.testBit j=p j
 | 0,_=>⟨0,by simp,fun j hj=>by omega⟩
 | k+1,p=>by
   obtain ⟨s,hs,h⟩:=bits_of k (fun j=>p (j+1));refine ⟨2*s+(if p 0 then 1 else 0),by rw [Nat.pow_succ];split <;> omega,fun j hj=>?_⟩;cases j with
   | zero =>rw [Nat.testBit_zero];cases p 0 <;> simp <;> omega
   | succ j =>rw [Nat.testBit_succ,<- h j (by omega)];congr 1;split <;> omega
def refT (O:List Int) : List (List Int):=(List.range (2 ^ O.length)).map (fun s=>zPH O s O.length)
theorem refT_mem {O:List Int} (hO:O.Pairwise (· < ·)) (l:List Int) : l∈refT O↔IsT O l:=by
 unfold refT;rw [List.mem_map];constructor
 ·rintro ⟨s,_,rfl⟩;refine ⟨selTo_rise hO (Nat.le_refl _),fun x hx=>?_⟩;obtain ⟨j,_,_,h2⟩:=(zJW (Nat.le_refl _)).1 hx;exact List.mem_of_getElem? h2
 ·rintro ⟨h1,h2⟩
  obtain ⟨s,hs,hb⟩:=bits_of O.length (fun j=>decide (O.getD j 0∈l));refine ⟨s,List.mem_range.2 hs,zIX (selTo_rise hO (Nat.le_refl _)) h1 (fun x=>?_)⟩;rw [zJW (Nat.le_refl _)];constructor
  ·rintro ⟨j,hj,a1,a2⟩;rw [hb j hj] at a1;rw [List.getD_eq_getElem?_getD,a2] at a1;simpa using a1
  ·intro hx;obtain ⟨j,hj,rfl⟩:=List.getElem_of_mem (h2 x hx);refine ⟨j,hj,?_,List.getElem?_eq_getElem hj⟩;rw [hb j hj,List.getD_eq_getElem?_getD,List.getElem?_eq_getElem hj];simpa using hx
end
end Go.Proofs.YtipaopbmklbmnaaGreatDoor
