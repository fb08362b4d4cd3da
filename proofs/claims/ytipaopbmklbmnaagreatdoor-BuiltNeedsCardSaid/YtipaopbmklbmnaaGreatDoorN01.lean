/- Lemmas. -/
import Derived.Laws.OwnMore
import Derived.ArgAppend
import Derived.Deep.DeepCutAuto
import Derived.Test.YtipaopbmklbmnaaGreatDoorT47
set_option linter.all false
set_option maxRecDepth 100000
set_option maxHeartbeats 0
namespace Go.Proofs.YtipaopbmklbmnaaGreatDoor
section
open Tryz
open Go.RowKit
theorem same_set_type {base g j:Nat} {e e':TypeId} {w:World} {u:Value} {cur:Array Value} (hg:w.heap[g]? = some (.cells cur e' (0,0))) (hne:e≠e') : zBZ base e w (w.setCell ⟨g,j,none⟩ u):=fun k _ _ hc=>by
 refine (Below.heap_setCell w ⟨g,j,none⟩ u k (fun h=>?_)).trans hc;subst h;rw [hg] at hc;cases hc;exact hne rfl
section
variable {P:Program}
end
end
section
open Go.RowKit
theorem inB_of {n lo hi:Int} (h:In n lo hi) : inB n lo hi=true:=by unfold inB;simpa [In] using h
end
section
open Tryz
open Go.RowKit
attribute [local go_sem] zAE Oper.grows Oper.growUpon
theorem index02_in (w:World) (v:Value) (l:List Int) (n:Int) (h:Sl zAM 1 w v l) (hn:n∈l) :
  Calls prog 25 #[v,.int .i64 n] w fun e w'=>e = .returned (.int .i64 (l.idxOf n:Nat))/\Below w.heap.size w w':=by
 refine (index02 w v l n h).mono ?_;rintro e w' ⟨rfl,rfl⟩;exact ⟨by rw [idxI_mem l n hn],br_⟩
theorem notes_distinct {R:List Issue} {N:List Note} (h:zDL R N) : ∀ i j,i < j->j < N.length->nm N i≠nm N j:=fun i j hij hj=>by
 rw [nm_at (by omega),nm_at hj];exact (h.2.1 j hj).2.2.2.1 i hij (by omega)
end
section
open Tryz
open Go.RowKit
theorem openIx_len5 {R:List Issue} {N:List Note} (h:zDL R N) {L:List Nat} (hL:OpenIx N N.length L) : L.length<=5:=by
 have h1:=hL.nums;have h2:(L.map (nm N)).Nodup:=zGL h1.1;have h3:=opens_len5 h;have h4:(L.map (nm N)).length<=(zBO N).length:=by
  have:(L.map (nm N)).Subset (zBO N):=fun y hy=>(h1.2 y).1 hy
  exact List.Nodup.length_le_of_subset h2 this
 rw [List.length_map] at h4;omega
end
section
open Tryz
open Go.RowKit Go.ChangeShapes Go.WideShapes
theorem stays_u32:zGG AtU32:=fun _ _ _ _ _ hb ⟨h0,h1⟩=>⟨zC hb h0,h1⟩
section
variable {H:Type} {enc:TypeId×Value->H} {w:World} {sp:Nat->Bool} {hd:Bool}
end
end
section
open Tryz
open Go.RowKit
theorem same_lay {W:World} {base B j:Nat} {cs:Array Value} {t e:TypeId} {u:Value} (h:Lay W B cs t) (hne:e≠t) : zBZ base e W (W.setCell ⟨B,j,none⟩ u):=same_set_type h hne
theorem within02_b (n lo hi:Int) (w:World) (h:In n lo hi) : Calls prog 83 #[.int .i64 n,.int .i64 lo,.int .i64 hi] w fun e w'=>e = .returned (.bool true)/\Below w.heap.size w w' :=
 (zGN n lo hi w).mono fun _ _ g=>⟨by rw [g.1,inB_of h],by rw [g.2];exact br_⟩
theorem letters02 (w:World) (v vl:Value) (R:List Issue) (lt:Int->Int) (hr:Sl zAY 5 w v R) (hl:Sl zAM 1 w vl ((nums R).map lt)) (hR:R.length<=1000) (hall:∀ d∈nums R,In (lt d) 1 (zKG R d)) :
  Calls prog 33 #[.agg #[v],vl] w fun e w'=>e = .returned (.bool true)/\Below w.heap.size w w':=by
 obtain ⟨hb1,B1⟩:=zBY w #[v] 24;have c0:=B1 0 v rfl;clear B1;have HC0:=zE c0;obtain ⟨a,cap,rfl,hm⟩:=zD hr;obtain ⟨al,capl,rfl,hml⟩:=zD hl;have h1:=zJ zU hb1 hr;have hl1:=zJ zN hb1 hl;have HALL:=zE hall;simp only [List.length_map] at hl1 hml ⊢;clear hr hl hall;have HR1:=zE h1;have HL1:=zE hl1;clear h1 hl1;unfold zK at c0;go_enter func33,ntmps33;go_wp2_with fail;clear c0;generalize w.alloc _=w1 at *;refine (numbers02 _ _ R HR1.out hR).mono ?_;rintro e w2 ⟨u,rfl,hu,hb2⟩;obtain ⟨au,cu,rfl,hmu⟩:=zD hu;have HU:=zE hu;have HR2:=zE (zJ zU hb2 HR1.out);have HL2:=zE (zJ zN hb2 HL1.out);have HC2:=zE (zC hb2 HC0.out);have HB2:=zE (zA hb1 hb2);clear hu hb1 hb2 HR1 HL1 HC0;go_wp2;go_loopw [6] (fun i wr=>∃ k:Nat,i = .int .i64 k/\k<=(nums R).length/\Hid (Below w2.heap.size w2 wr)) (fun i _=>(nums R).length - (intOf i).toNat)
 case atStart=>exact ⟨0,rfl,by omega,br_⟩
 case round =>
  obtain ⟨k,rfl,hk,HB⟩:=hrel;by_cases hlt:k < (nums R).length
  ·have hkm:k < ((nums R).map lt).length:=by rw [List.length_map];exact hlt
   obtain ⟨b1,o1,rfl,p0,_⟩:=(zY (zJ zN HB.out HU.out)).2 k hlt;have hX:=(zY (zJ zN HB.out HL2.out)).2 k hkm;obtain ⟨b2,o2,rfl,q0,_⟩:=hX;have hin:=HALL.out _ (List.getElem_mem hlt);rw [List.getElem_map] at q0;generalize (nums R)[k]=d at *;have hp:=zH p0;have hq:=zH q0;have hc:=zH (zC HB.out HC2.out);have hR2:=sl_later zU (zJ zU HB.out HR2.out);simp only [Nat.mul_one] at hp hq;generalize lt d=l at *;have hw:=fun w=>within02_b l 1 (zKG R d) w hin
   clear p0 q0 hin;go_wp2;refine zAR (by kernel_rfl) (by kernel_rfl) (no_implicit_lambda% ?_);repeat ((with_reducible refine wpQuiet_step (fun K hK=>?_));go_simp;first | ((with_reducible refine hK _ ?_);clear hK K) | (refine hK _ (no_implicit_lambda% ?_);clear hK K) | (apply Exists.intro;(with_reducible refine ⟨fun _=>?_,hK _ ?_⟩);(first | (go_at_call 84;exact Calls.quiet_later (zNJ _ _ _ _ (hR2 _))) | (go_at_call 83;exact Calls.quiet_later (hw _)));clear hK K))
   with_reducible refine wpQuiet_nil ?_
   intro _ hw9;obtain ⟨xq,hw8⟩:=hw9;subst hw8;have HB3:=zE (zA HB.out (zG wr xq));clear hp hq hc hR2 hw HB;go_wp2;go_roundw
   ·exact ⟨k+1,by go_num,by omega,HB3⟩
   ·simp [intOf];omega
  ·go_wp2;go_ret;exact ⟨rfl,zA HB2.out HB.out⟩
end
section
open Go.RowKit
def MapK (w:World) (b n:Nat) (K:List Int) (f:Int->Int) : Prop :=
 ∃ D:DataW Unit,w.ownsMap Tryz.prog 3 (plainElem Tryz.prog 3) b n D/\K.Nodup/\Maps.size D=K.length /\
  ∀ x,I64 x->Maps.has D (.int .i64 x)=decide (x∈K)/\∀ z,D.atKey (.int .i64 x) z=if x∈K then .lit (.int .i64 (f x)) else z
theorem MapK.same {w w':World} {b n:Nat} {K:List Int} {f:Int->Int} (h:MapK w b n K f) (e:w'.heap[b]? = w.heap[b]?) : MapK w' b n K f:=by
 obtain ⟨D,h1,h2⟩:=h;exact ⟨D,zMO h1 e,h2⟩
theorem MapK.lt {w:World} {b n:Nat} {K:List Int} {f:Int->Int} (h:MapK w b n K f) : b < w.heap.size:=by obtain ⟨D,h1,h2⟩:=h;exact h1.lt
theorem MapK.ext {w w':World} {b n:Nat} {K:List Int} {f:Int->Int} (h:MapK w b n K f) (hb:Below w.heap.size w w') : MapK w' b n K f:=h.same (hb.block b h.lt)
theorem mapK_made (w:World) (f:Int->Int) : MapK (w.alloc (.map #[] 0)) w.heap.size 0 [] f :=
 ⟨.map [],World.ownsMap_made w _ _ _,List.nodup_nil,rfl,fun x _=>⟨by simp [Maps.has],fun z=>by simp [DataW.atKey]⟩⟩
theorem mapK_look {w:World} {b n:Nat} {K:List Int} {f:Int->Int} (h:MapK w b n K f) {x:Int} (hx:I64 x) (h0:x ∉ K->f x=0) : (Instr.lookup 92 (.map (some b)) (.int .i64 x) false).run Tryz.prog w = .ok (.int .i64 (f x)) w:=by
 obtain ⟨D,ho,-,-,hD⟩:=h;obtain ⟨c,hr,hc,-⟩:=ho.lookup_int zCS Tryz.underlying92 Tryz.underlying3 (Tryz.zeroValue3 w) (zJN hx);rw [(hD x hx).2] at hc;rw [hr];by_cases hk:x∈K
 ·rw [if_pos hk] at hc;simp at hc;simp [hc]
 ·rw [if_neg hk] at hc;simp at hc;rw [h0 hk];simp [hc]
theorem mapK_len {w:World} {b n:Nat} {K:List Int} {f:Int->Int} (h:MapK w b n K f) : ∀ ty,(Builtin.len_ #[92] ty #[.map (some b)]).run Tryz.prog w = .ok (.int .i64 K.length) w:=by
 obtain ⟨D,ho,-,hs,hD⟩:=h;intro ty;rw [ho.len Tryz.underlying92,hs]
theorem mapK_put {w:World} {b n:Nat} {K:List Int} {f:Int->Int} (h:MapK w b n K f) {x c:Int} (hx:I64 x) (hc:I64 c) (hn:n < maxLen) {g:Int->Int} (hg:∀ y,g y=if y=x then c else f y) :
  ∃ w',(Instr.mapUpdate 92 (.map (some b)) (.int .i64 x) (.int .i64 c)).run Tryz.prog w = .ok () w'/\MapK w' b (n+1) (if x∈K then K else K++[x]) g/\w.grownBy w' (some b):=by
 obtain ⟨D,ho,hd,hs,hD⟩:=h;obtain ⟨w',hr,ho',hg'⟩:=ho.update zCS Tryz.underlying92 hn (zJN hx) (plainElem_int Tryz.underlying3 (wf_i64 hc));have hm:∀ y,y∈(if x∈K then K else K++[x])↔y∈K\/y=x:=fun y=>by
  by_cases hk:x∈K
  ·rw [if_pos hk];exact ⟨.inl,fun h=>h.elim id (fun e=>e ▸ hk)⟩
  ·rw [if_neg hk];simp
 refine ⟨w',hr,⟨_,ho',?_,?_,fun y hy=>?_⟩,hg'⟩
 ·by_cases hk:x∈K
  ·rw [if_pos hk];exact hd
  ·rw [if_neg hk,List.nodup_append];exact ⟨hd,by simp,fun a ha b hb=>by simp at hb;subst hb;intro e;subst e;exact hk ha⟩
 ·rw [Maps.size_put (ho.tidy zCS),(hD x hx).1,hs];by_cases hk:x∈K <;> simp [hk]
 ·rw [hg y]
  by_cases e:y=x
  ·subst e;exact ⟨by rw [Maps.has_put_same ho.isMap (zGP _)];simp [hm],fun z=>by rw [Maps.atKey_put_same ho.isMap (zGP _),if_pos ((hm y).2 (.inr rfl)),if_pos rfl]⟩
  ·have e2:y∈(if x∈K then K else K++[x])↔y∈K:=by rw [hm];simp [e]
   exact ⟨by rw [Maps.has_put_other (zNH e),(hD y hy).1];simp [e2],fun z=>by rw [Maps.atKey_put_other (zNH e),(hD y hy).2];simp [e2,e]⟩
theorem mapK_del {w:World} {b n:Nat} {K:List Int} {f:Int->Int} (h:MapK w b n K f) {x:Int} (hx:I64 x) (ty:TypeId) :
  ∃ w',(Builtin.delete_ #[92,3] ty #[.map (some b),.int .i64 x]).run Tryz.prog w = .ok (.tuple #[]) w'/\MapK w' b n (K.erase x) f/\w.grownBy w' (some b):=by
 obtain ⟨D,ho,hd,hs,hD⟩:=h;obtain ⟨w',hr,ho',hg⟩:=ho.drop zCS Tryz.underlying92 (zJN hx) ty;have hm:∀ y,y∈K.erase x↔y≠x/\y∈K:=fun y=>hd.mem_erase_iff
 refine ⟨w',hr,⟨_,ho',hd.erase _,?_,fun y hy=>?_⟩,hg.grown⟩
 ·have:=Maps.size_del (ho.tidy zCS) (k:=.int .i64 x)
  rw [(hD x hx).1,hs] at this;by_cases hk:x∈K
  ·simp [hk] at this;rw [List.length_erase_of_mem hk];omega
  ·simp [hk] at this;rw [List.erase_of_not_mem hk];omega
 ·by_cases e:y=x
  ·subst e;exact ⟨by rw [Maps.has_del_same];simp [hm],fun z=>by rw [Maps.atKey_del_same];simp [hm]⟩
  ·exact ⟨by rw [Maps.has_del_other (zNH e),(hD y hy).1];simp [hm,e],fun z=>by rw [Maps.atKey_del_other (zNH e),(hD y hy).2];simp [hm,e]⟩
end
section
open Tryz
open Go.RowKit
def oldB (b:Built) (S C:List Int) (m d:Int) : Int:=if (zZ b S m d).h < 0 then 0 else oldC (zCX b S (zZ b S m d).h.toNat (b.ms.idxOf m)) (zZ b S m d).c (C.getD (zZ b S m d).h.toNat 0)
def heldB (b:Built) (S C:List Int) (m d l:Int) : Int:=zGH (zZ b S m d) l (oldB b S C m d)
structure CntAt (b:Built) (C:List Int) : Prop where
 len:C.length=b.hs.length
 has:∀ k (hk:k < b.hs.length),b.hs[k].lo<=C.getD k 0/\C.getD k 0<=b.hs[k].hi
noncomputable def endL (b:Built) (S:List Int) (high:Bool) : List Int:=(List.range b.hs.length).map fun k=>if high then (zLY b S k).hi else (zLY b S k).lo
theorem endL_get (b:Built) (S:List Int) (high:Bool) {k:Nat} (hk:k < b.hs.length) : (endL b S high).getD k 0=if high then (zLY b S k).hi else (zLY b S k).lo:=by
 unfold endL;rw [List.getD_eq_getElem?_getD,List.getElem?_map,List.getElem?_range hk];rfl
theorem ends_two (b:Built) (S:List Int) (m d l:Int) : zOP b S m d l=[heldB b S (endL b S false) m d l,heldB b S (endL b S true) m d l]:=by
 unfold zOP heldB oldB;by_cases h0:(zZ b S m d).h < 0
 ·simp only [if_pos h0]
 ·have hk:(zZ b S m d).h.toNat < b.hs.length:=by have:=(zIY b S m d).2;omega
  simp only [if_neg h0,endL_get b S _ hk];rfl
theorem hasOf_d {b:Built} {S:List Int} {m d:Int} {k:Nat} (h:(zZ b S m d).h=k) : ∃ hk:k < b.hs.length,b.hs[k].d=d/\b.hs[k].l=(zZ b S m d).l - 1:=(heapTo_at h).2
theorem find_at {R:List Issue} {d l:Int} {x:Issue} (h:zCQ R d l=some x) : ∃ k,∃ hk:k < R.length,R[k]=x/\x.d=d/\x.l=l:=by
 unfold zCQ at h;obtain ⟨h1,k,hk,e,_⟩:=List.find?_eq_some_iff_getElem.1 h;unfold zEV at h1;simp at h1;exact ⟨k,hk,e,h1.1,h1.2⟩
theorem valid_ord {b:Built} (hv:zF b=0) : ∀ k,k < b.ns.reg.length->zHI b.ns.reg k:=fun k hk=>((zAW (zBJ (zS hv).1).1).2.1 k hk).2
theorem last_ge {R:List Issue} {d:Int} : ∀ n k,k < n->n<=R.length->(hk:k < R.length)->R[k].d=d->R[k].l<=zJI R d n:=by
 intro n;induction n with
 | zero=>intro k hk;omega
 | succ n ih =>
   intro k hk hn hkl hd;rw [lastTo_succ R d n (by omega)];by_cases e:k=n
   ·subst e;rw [if_pos hd];exact Int.le_max_right _ _
   ·have:=ih k (by omega) (by omega) hkl hd
    split
    ·exact Int.le_trans this (Int.le_max_left _ _)
    ·exact this
theorem letter_last {R:List Issue} {N:List Note} (h:zP R N=0) (S:List Int) (m:Int) {d:Int} (hd:d∈nums R) : In (zAA S m N d) 1 (zKG R d):=by
 obtain ⟨x,hx⟩:=zNM h S m d hd;obtain ⟨k,hk,e,e1,e2⟩:=find_at hx;have h1:=(zNN h S m hd).1;have h2:=last_ge (R:=R) (d:=d) R.length k hk (Nat.le_refl _) hk (by rw [e];exact e1);rw [e,e2] at h2;exact ⟨h1,h2⟩
theorem valid_ms {b:Built} (hv:zF b=0) {m:Int} (hm:m∈b.ms) : In m 1 999:=by
 obtain ⟨i,hi,rfl⟩:=List.getElem_of_mem hm;exact ((zS hv).2.2.2.2.2.1 i hi hi).1
end
section
open Tryz
open Go.RowKit
attribute [local go_sem] zAE
structure BoxAt (g:Nat) (w wr:World) (cs:Array Value) (t:TypeId) : Prop where
 below:Below g w wr
 box:Lay wr g cs t
theorem BoxAt.ext {g:Nat} {w wr wr':World} {cs:Array Value} {t:TypeId} (h:BoxAt g w wr cs t) (hb:Below wr.heap.size wr wr') : BoxAt g w wr' cs t:=⟨h.below.trans (hb.mono (Nat.le_of_lt h.box.lt)),h.box.ext hb⟩
theorem lay_else {w:World} {a g j:Nat} {v:Value} {cs:Array Value} {t:TypeId} (h:Lay w a cs t) (hne:a≠g) : Lay (w.setCell ⟨g,j,none⟩ v) a cs t:=(Below.heap_setCell w ⟨g,j,none⟩ v a hne).trans h
theorem Lay.q3 {W:World} {B:Nat} {v0 v1 v2:Value} {t:TypeId} (h:Lay W B #[v0,v1,v2] t) : B < W.heap.size/\(W.cell? ⟨B,0,none⟩=some v0/\W.cell? ⟨B,1,none⟩=some v1/\W.cell? ⟨B,2,none⟩=some v2)/\W.frozen? ⟨B,0,none⟩=false/\W.frozen? ⟨B,1,none⟩=false/\W.frozen? ⟨B,2,none⟩=false:=⟨h.lt,⟨h.cell 0 _ rfl,h.cell 1 _ rfl,h.cell 2 _ rfl⟩,h.frozen 0,h.frozen 1,h.frozen 2⟩
theorem Lay.q4 {W:World} {B:Nat} {v0 v1 v2 v3:Value} {t:TypeId} (h:Lay W B #[v0,v1,v2,v3] t) : B < W.heap.size/\W.cell? ⟨B,0,none⟩=some v0/\W.cell? ⟨B,1,none⟩=some v1/\W.cell? ⟨B,2,none⟩=some v2/\W.cell? ⟨B,3,none⟩=some v3:=⟨h.lt,h.cell 0 _ rfl,h.cell 1 _ rfl,h.cell 2 _ rfl,h.cell 3 _ rfl⟩
theorem Lay.l6 {W:World} {B:Nat} {v0 v1 v2 v3 v4 v5:Value} {t:TypeId} (h:Lay W B #[v0,v1,v2,v3,v4,v5] t) : (∀ x,(W.later x).cell? ⟨B,0,none⟩=some v0)/\(∀ x,(W.later x).cell? ⟨B,1,none⟩=some v1)/\(∀ x,(W.later x).cell? ⟨B,2,none⟩=some v2)/\(∀ x,(W.later x).cell? ⟨B,3,none⟩=some v3)/\(∀ x,(W.later x).cell? ⟨B,4,none⟩=some v4)/\(∀ x,(W.later x).cell? ⟨B,5,none⟩=some v5) :=
 ⟨zH (h.cell 0 _ rfl),zH (h.cell 1 _ rfl),zH (h.cell 2 _ rfl),zH (h.cell 3 _ rfl),zH (h.cell 4 _ rfl),zH (h.cell 5 _ rfl)⟩
theorem wrap2 (z:Int) (h : -9223372036854775808<=z/\z<=9223372036854775807) : IntKind.i64.wrap z=z/\wrap64 z=z:=⟨IntWalk.i64_in _ (by omega),IntWalk.wrap64_in _ (by omega)⟩
end
end Go.Proofs.YtipaopbmklbmnaaGreatDoor
namespace Go
section
open Go.RowKit
def lastD:List Oper->Nat->Nat->Option Nat
 | [],_,_=>none
 | o :: l,i,k=>match lastD l (i+1) k with
   | some j=>some j
   | none=>if o.dst=some k then some i else none
def readF (vs:Nat->Value) (pre:List Oper) (a0:Act) (k:Nat) : Value:=match lastD pre 0 k with
 | some j=>vs j
 | none=>a0.tmps.getD k undef
theorem puts_read (vs:Nat->Value) (k:Nat) : ∀ (l:List Oper) (i:Nat) (a:Act),k < a.tmps.size->(zAB vs l i a).tmps.getD k undef=match lastD l i k with
  | some j=>vs j
  | none=>a.tmps.getD k undef
 | [],_,_,_=>rfl
 | o :: l,i,a,h=>by
   have h1:k < (a.put o.dst (vs i)).tmps.size:=by unfold Act.put;split <;> simpa using h
   rw [zAB,puts_read vs k l (i+1) _ h1];simp only [lastD];cases lastD l (i+1) k with
   | some j=>rfl
   | none =>
     simp only;by_cases e:o.dst=some k
     ·rw [if_pos e,e];simp [Act.put,Array.getD_eq_getD_getElem?,h]
     ·rw [if_neg e]
      cases hd:o.dst with
      | none=>rfl
      | some d =>
        have hne:d≠k:=fun g=>e (by rw [hd,g])
        simp [Act.put,Array.getD_eq_getD_getElem?,hne]
variable {P:Program} {pops:Array Oper} {pre:List Oper} {a0:Act} {w0:World} {Q':List (Value->World->Prop)->Prop} {o:Oper} {l:List Oper} {Hs:List (Value->World->Prop)}
theorem fs_ (N:Nat) (hN:a0.tmps.size=N) (hg:o.guard=none) (R:Value->World->Prop) (hR:zED R)
  (h:∀ (ρ:Operand->Value) vs x,(∀ k,k < N->ρ (.tmp k)=readF vs pre a0 k)->(∀ v,ρ (.const v)=v)->(∀ f,ρ (.func f) = .func (.func f) #[] #[])->zW Hs vs (w0.later x) o.waitsOn->Oper.growUpon P (w0.later x) R ((execOp ρ o).run P (w0.later x)))
  (k:zFC P pops pre a0 w0 Q' l (Hs++[R])) : zFC P pops pre a0 w0 Q' (o :: l) Hs :=
 zL R hR (fun vs x hd=>by
  unfold zAE;have e:Region.wanted o (yielded pops (zAB vs pre 0 a0).tmps)=true:=by unfold Region.wanted;rw [hg]
  rw [if_pos e];exact h _ vs x (fun k hk=>puts_read vs k pre 0 a0 (by omega)) (fun v=>rfl) (fun f=>rfl) hd) k
theorem fx_ {u:Value} (N:Nat) (hN:a0.tmps.size=N) (hg:o.guard=none)
  (h:∀ (ρ:Operand->Value) vs x,(∀ k,k < N->ρ (.tmp k)=readF vs pre a0 k)->(∀ v,ρ (.const v)=v)->(∀ f,ρ (.func f) = .func (.func f) #[] #[])->zW Hs vs (w0.later x) o.waitsOn->Oper.growUpon P (w0.later x) (fun v _=>v=u) ((execOp ρ o).run P (w0.later x)))
  (k:zFC P pops pre a0 w0 Q' l (Hs++[fun v _=>v=u])) : zFC P pops pre a0 w0 Q' (o :: l) Hs :=
 fs_ N hN hg _ (fun _ _ _ _ h=>h) h k
end
end Go
namespace Go.Proofs.YtipaopbmklbmnaaGreatDoor
section
open Tryz
open Go.RowKit
structure Exact (x:Built) (C:List Int) : Prop where
 valid:zF x=0
 shut:zBO x.ns.notes=[]
 rs:x.rs=[]
 len:C.length=x.hs.length
 lo:∀ k (hk:k < x.hs.length),x.hs[k].lo=C.getD k 0/\x.hs[k].hi=C.getD k 0
theorem Exact.isT {x:Built} {C:List Int} (h:Exact x C) (S:List Int) : IsT (zBO x.ns.notes) S↔S=[]:=by
 rw [h.shut];constructor
 ·rintro ⟨_,h2⟩
  cases S with
  | nil=>rfl
  | cons a t=>exact absurd (h2 a (by simp)) (by simp)
 ·rintro rfl;exact ⟨.nil,(fun x hx=>by cases hx)⟩
theorem Exact.left {x:Built} {C:List Int} (h:Exact x C) : zCV x [] :=
 left_iff.2 ⟨fun k hk=>⟨C.getD k 0,(by have:=h.lo k hk;omega),(fun r hr=>by rw [h.rs] at hr;cases hr)⟩,(fun r hr=>by rw [h.rs] at hr;cases hr)⟩
theorem Exact.leftX {x:Built} {C:List Int} (h:Exact x C) : zAQ x=[[]] :=
 leftL_is ⟨by unfold Ord;exact List.pairwise_singleton _ _,fun l=>by
  rw [h.isT];constructor
  ·intro hl
   obtain rfl:l=[]:=by simpa using hl
   exact ⟨rfl,h.left⟩
  ·rintro ⟨rfl,_⟩;exact List.mem_singleton.2 rfl⟩
theorem Exact.cnt {x:Built} {C:List Int} (h:Exact x C) {k:Nat} (hk:k < x.hs.length) : (zLY x [] k).lo=C.getD k 0/\(zLY x [] k).hi=C.getD k 0:=by
 obtain ⟨h1,h2,h3,_⟩:=cnt_hull hk h.left;have:=h.lo k hk;omega
theorem Exact.held {x:Built} {C:List Int} (h:Exact x C) (high:Bool) (m d l:Int) : heldB x [] (endL x [] high) m d l=heldB x [] C m d l:=by
 unfold heldB oldB;by_cases h0:(zZ x [] m d).h < 0
 ·rw [if_pos h0,if_pos h0]
 ·have hk:(zZ x [] m d).h.toNat < x.hs.length:=by have:=(zIY x [] m d).2;omega
  have e:(endL x [] high).getD (zZ x [] m d).h.toNat 0=C.getD (zZ x [] m d).h.toNat 0:=by
   rw [endL_get _ _ _ hk];cases high
   ·exact (h.cnt hk).1
   ·exact (h.cnt hk).2
  rw [if_neg h0,if_neg h0,e]
theorem span_two (a:Int) : zBI [a,a]=⟨a,a⟩:=by simp [zBI]
def Note.put (x:Note) (s:Int) : Note:={ x with sg:=s }
def setN (N:List Note) (num s:Int) : List Note:=N.map fun x=>if x.num=num then x.put s else x
def toT (S:List Int) (x:Note) : Note:=if x.sg=1 then x.put (if x.num∈S then 2 else 0) else x
def setTo (N:List Note) (S:List Int) (k:Nat) : List Note:=(N.take k).map (toT S)++N.drop k
theorem toT_put (S:List Int) (x:Note) (h:x.sg<=2) : ∃ s,toT S x=x.put s/\s<=2/\(s=1->x.sg=1):=by
 unfold toT;by_cases e:x.sg=1
 ·rw [if_pos e]
  by_cases h:x.num∈S
  ·rw [if_pos h];exact ⟨2,rfl,by decide,fun h=>absurd h (by decide)⟩
  ·rw [if_neg h];exact ⟨0,rfl,by decide,fun h=>absurd h (by decide)⟩
 ·rw [if_neg e];exact ⟨x.sg,rfl,h,id⟩
theorem toT_num (S:List Int) (x:Note) : (toT S x).num=x.num:=by unfold toT;split <;> rfl
theorem toT_shut (S:List Int) (x:Note) : (toT S x).sg≠1:=by
 unfold toT;by_cases e:x.sg=1
 ·rw [if_pos e]
  show (if x.num∈S then (2:Int) else 0)≠1
  split <;> decide
 ·rw [if_neg e];exact e
theorem setTo_zero (N:List Note) (S:List Int) : setTo N S 0=N:=by simp [setTo]
theorem setTo_all (N:List Note) (S:List Int) : setTo N S N.length=N.map (toT S):=by simp [setTo]
theorem setTo_len (N:List Note) (S:List Int) (k:Nat) : (setTo N S k).length=N.length:=by
 simp only [setTo,List.length_append,List.length_map,List.length_take,List.length_drop];omega
theorem setTo_get (N:List Note) (S:List Int) (k j:Nat) (hj:j < N.length) : (setTo N S k)[j]? = some (if j < k then toT S N[j] else N[j]):=by
 unfold setTo;by_cases h:j < k
 ·rw [List.getElem?_append_left (by simp;omega),List.getElem?_map,List.getElem?_take_of_lt h,List.getElem?_eq_getElem hj,if_pos h];rfl
 ·by_cases hk:k<=N.length
  ·rw [List.getElem?_append_right (by simp;omega),List.getElem?_drop,if_neg h];simp only [List.length_map,List.length_take];rw [show k+(j - min k N.length)=j by omega,List.getElem?_eq_getElem hj]
  ·omega
theorem setTo_at (N:List Note) (S:List Int) (k j:Nat) (hj:j < N.length) (hj':j < (setTo N S k).length) : (setTo N S k)[j]=if j < k then toT S N[j] else N[j]:=by
 have:=setTo_get N S k j hj;rw [List.getElem?_eq_getElem hj'] at this;exact Option.some.inj this
structure SameBut (N N':List Note) : Prop where
 len:N'.length=N.length
 at_:∀ k (h:k < N.length) (h':k < N'.length),∃ s,N'[k]=N[k].put s/\s<=2/\(s=1->N[k].sg=1)
theorem SameBut.open {N N':List Note} (h:SameBut N N') (k:Nat) : zFN N' k<=zFN N k:=by
 induction k with
 | zero=>exact Nat.le_refl _
 | succ k ih =>
   simp only [zFN];by_cases hk:k < N.length
   ·have hk':k < N'.length:=by rw [h.len];exact hk
    obtain ⟨s,e,_,h1⟩:=h.at_ k hk hk';rw [List.getElem?_eq_getElem hk,List.getElem?_eq_getElem hk'];simp only [e];by_cases hs:s=1
    ·have:=h1 hs;simp only [this,if_true];split <;> omega
    ·have:(N[k].put s).sg≠1:=hs;simp only [if_neg this];split <;> omega
   ·have hk':¬ k < N'.length:=by rw [h.len];exact hk
    rw [List.getElem?_eq_none (by omega),List.getElem?_eq_none (by omega)];simpa using ih
theorem SameBut.ok {R:List Issue} {N N':List Note} (h:SameBut N N') (hN:zDL R N) : zDL R N':=by
 obtain ⟨h1,h2,h3⟩:=hN;refine ⟨by rw [h.len];exact h1,fun k hk'=>?_,by rw [h.len];exact Nat.le_trans (h.open _) h3⟩;have hk:k < N.length:=by rw [<- h.len];exact hk'
 obtain ⟨s,e,hs,_⟩:=h.at_ k hk hk';obtain ⟨a1,a2,a3,a4,a5,a6⟩:=h2 k hk;have num:∀ j (hj:j < N.length) (hj':j < N'.length),N'[j].num=N[j].num/\N'[j].day=N[j].day:=fun j hj hj'=>by
  obtain ⟨s,e,_⟩:=h.at_ j hj hj';rw [e];exact ⟨rfl,rfl⟩
 rw [e];refine ⟨⟨a1.1,a1.2.1,hs,a1.2.2.2⟩,a2,a3,?_,?_,?_⟩
 ·intro j hj hj'
  have hjl:j < N.length:=by rw [<- h.len];exact hj'
  rw [(num j hjl hj').1];exact a4 j hj hjl
 ·rcases a5 with a5 | ⟨j,hj,hj2,e2⟩
  ·exact .inl a5
  ·have hj':j < N'.length:=by rw [h.len];exact hj2
   exact .inr ⟨j,hj,hj',(num j hj2 hj').1.trans e2⟩
 ·intro h0 hj'
  have hjl:k - 1 < N.length:=by rw [<- h.len];exact hj'
  rw [(num _ hjl hj').1,(num _ hjl hj').2];exact a6 h0 hjl
theorem setTo_same {R:List Issue} {N:List Note} (hN:zDL R N) (S:List Int) (k:Nat) : SameBut N (setTo N S k):=by
 refine ⟨setTo_len N S k,fun j hj hj'=>?_⟩;rw [setTo_at N S k j hj hj'];have h2:N[j].sg<=2:=(hN.2.1 j hj).1.2.2.1;split
 ·exact toT_put S _ h2
 ·exact ⟨N[j].sg,rfl,h2,id⟩
theorem setTo_code {R:List Issue} {N:List Note} (h:zP R N=0) (S:List Int) (k:Nat) : zP R (setTo N S k)=0:=by
 obtain ⟨h1,h2⟩:=zBJ h;unfold zP;rw [if_neg (by simp [h1]),if_pos ((setTo_same h2 S k).ok h2)]
theorem setTo_shut (N:List Note) (S:List Int) : zBO (setTo N S N.length)=[]:=by
 rw [setTo_all];unfold zBO;rw [List.filter_eq_nil_iff.2 fun x hx=>?_]
 ·rfl
 ·obtain ⟨y,_,rfl⟩:=List.mem_map.1 hx;have:=toT_shut S y;simpa using this
theorem setTo_open {N:List Note} (S:List Int) {k:Nat} (hk:k < N.length) (hs:N[k].sg=1) : N[k].num∈zBO (setTo N S k):=by
 rw [opens_mem];have hk':k < (setTo N S k).length:=by rw [setTo_len];exact hk
 refine ⟨k,hk',?_⟩;rw [setTo_at N S k k hk hk',if_neg (Nat.lt_irrefl k)];exact ⟨hs,rfl⟩
theorem setTo_skip {N:List Note} (S:List Int) {k:Nat} (hk:k < N.length) (hs:N[k].sg≠1) : setTo N S (k+1)=setTo N S k:=by
 apply List.ext_getElem (by rw [setTo_len,setTo_len]);intro j h1 h2;have hj:j < N.length:=by rw [setTo_len] at h1;exact h1
 rw [setTo_at N S _ j hj,setTo_at N S _ j hj];by_cases e:j=k
 ·subst e;rw [if_pos (by omega),if_neg (by omega)];unfold toT;rw [if_neg hs]
 ·by_cases h:j < k
  ·rw [if_pos (by omega),if_pos h]
  ·rw [if_neg (by omega),if_neg h]
theorem num_apart {R:List Issue} {N:List Note} (h:zDL R N) {i j:Nat} (hi:i < N.length) (hj:j < N.length) (e:N[i].num=N[j].num) : i=j:=by
 rcases Nat.lt_trichotomy i j with g | g | g
 ·exact absurd e ((h.2.1 j hj).2.2.2.1 i g hi)
 ·exact g
 ·exact absurd e.symm ((h.2.1 i hi).2.2.2.1 j g hj)
theorem setTo_put {R:List Issue} {N:List Note} (h:zDL R N) (S:List Int) {k:Nat} (hk:k < N.length) (hs:N[k].sg=1) :
  setN (setTo N S k) N[k].num (if N[k].num∈S then 2 else 0)=setTo N S (k+1):=by
 unfold setN;apply List.ext_getElem (by rw [List.length_map,setTo_len,setTo_len]);intro j h1 h2;have hj:j < N.length:=by rw [setTo_len] at h2;exact h2
 rw [List.getElem_map,setTo_at N S _ j hj,setTo_at N S _ j hj];by_cases e:j=k
 ·subst e;rw [if_pos (show j < j+1 by omega),if_neg (Nat.lt_irrefl j),if_pos rfl];unfold toT;rw [if_pos hs]
 ·have hn:N[j].num≠N[k].num:=fun g=>e (num_apart h hj hk g)
  by_cases hlt:j < k
  ·rw [if_pos hlt,if_pos (show j < k+1 by omega),toT_num,if_neg hn]
  ·rw [if_neg hlt,if_neg (show ¬ j < k+1 by omega),if_neg hn]
def cutH (hs:List Heap) (C:List Int) : List Heap:=hs.mapIdx fun k h=>{ h with lo:=C.getD k 0,hi:=C.getD k 0 }
theorem cutH_len (hs:List Heap) (C:List Int) : (cutH hs C).length=hs.length:=by unfold cutH;rw [List.length_mapIdx]
theorem cutH_at (hs:List Heap) (C:List Int) (k:Nat) (hk:k < hs.length) (hk':k < (cutH hs C).length) : (cutH hs C)[k] = { hs[k] with lo:=C.getD k 0,hi:=C.getD k 0 }:=by
 exact List.getElem_mapIdx (l:=hs) (f:=fun k h=>{ h with lo:=C.getD k 0,hi:=C.getD k 0 }) (h:=hk')
def exactB (b:Built) (S C:List Int) : Built:=⟨⟨b.ns.reg,setTo b.ns.notes S b.ns.notes.length⟩,b.of,b.ms,cutH b.hs C,[]⟩
theorem exact_of {b:Built} (hv:zF b=0) {C:List Int} (hC:CntAt b C) (S:List Int) : Exact (exactB b S C) C:=by
 obtain ⟨h1,h2,h3,h4,h5,h6,h7,h8⟩:=zS hv;have hB:zCA (exactB b S C):=by
  refine ⟨h2,h3,by show (cutH b.hs C).length<=4;rw [cutH_len];exact h4,by show 0<=10;omega,h6,fun k hk hk'=>?_,fun i hi=>absurd hi (Nat.not_lt_zero i)⟩;have hk2:k < b.hs.length:=by have:k < (cutH b.hs C).length:=hk';rwa [cutH_len] at this
  obtain ⟨a1,a2,a3,a4,a5⟩:=h7 k hk2 hk2;have e:(exactB b S C).hs[k] = { b.hs[k] with lo:=C.getD k 0,hi:=C.getD k 0 }:=cutH_at b.hs C k hk2 hk';rw [e];have hc:=hC.has k hk2;refine ⟨a1,a2,?_,?_,fun j hj hj'=>?_⟩
  ·unfold In at *;simp only;omega
  ·unfold In at *;simp only;omega
  ·have hj2:j < b.hs.length:=by
    have:j < (cutH b.hs C).length:=hj';rwa [cutH_len] at this
   have e2:(exactB b S C).hs[j] = { b.hs[j] with lo:=C.getD j 0,hi:=C.getD j 0 }:=cutH_at b.hs C j hj2 hj';rw [e2];exact a5 j hj hj2
 refine ⟨?_,setTo_shut _ _,rfl,by show C.length=(cutH b.hs C).length;rw [cutH_len];exact hC.len,fun k hk=>?_⟩
 ·unfold zF;have:=setTo_code h1 S b.ns.notes.length;rw [if_neg (by show ¬ zP b.ns.reg (setTo b.ns.notes S b.ns.notes.length)≠0;simp [this]),if_pos hB]
 ·have hk2:k < b.hs.length:=by
   have:k < (cutH b.hs C).length:=hk;rwa [cutH_len] at this
  have e:(exactB b S C).hs[k] = { b.hs[k] with lo:=C.getD k 0,hi:=C.getD k 0 }:=cutH_at b.hs C k hk2 hk;rw [e];exact ⟨rfl,rfl⟩
end
section
open Tryz
open Go.RowKit Go.Shelf
attribute [local go_sem] zAE Oper.grows Oper.growUpon readF lastD
theorem indexNote (w:World) (v:Value) (xs:List Note) (h:Sl zBL 10 w v xs) (g:FuncId) (caps:Array Value) (eg:∀ args w,(callFunc g args).run prog w = .ok (.enter g args) w) (p:Note->Prop)
  (hp:∀ x∈xs,∀ w',Below w.heap.size w w'->Calls prog g (#[.agg #[.int .i64 x.num,.int .i64 x.day,.int .u8 x.sg,.int .i64 x.d,.int .i64 x.l,.int .i64 x.fr,.int .i64 x.to,.int .i64 x.ca,.bool x.use,.int .u8 x.ways]]++caps) w' (zAK (p x) w')) :
  Calls prog 120 #[v,.func (.func g) #[] caps] w fun e w'=>(∃ x∈xs,p x)->∃ (k:Nat) (hk:k < xs.length),e = .returned (.int .i64 k)/\p xs[k]/\Below w.heap.size w w':=by
 obtain ⟨a,cap,rfl,hm⟩:=zD h;go_enter func120,ntmps120;go_wp2;go_loopw [8] (fun i wr=>∃ k:Nat,i = .int .i64 k/\k<=xs.length/\Hid (Below w.heap.size w wr)/\Hid (∀ j,j < k->(hj:j < xs.length)->¬ p xs[j])) (fun i _=>xs.length - (intOf i).toNat)
 case atStart=>exact ⟨0,rfl,by omega,br_,fun j hj=>absurd hj (by omega)⟩
 case round =>
  obtain ⟨k,rfl,hk,hb,hall⟩:=hrel;by_cases hlt:k < xs.length
  ·have hcall:=hp xs[k] (List.getElem_mem hlt) wr hb.out
   have HM:=zE (List.getElem_mem hlt);obtain ⟨b,off,rfl,⟨⟨h0,h1,h2,h3,h4,h5,h6,h7,h8,h9⟩,_⟩⟩:=(zY (zJ zAN hb.out h)).2 k hlt;generalize hx:xs[k]=x at *;have HX:=zE hx;clear hx hp h;have hlt3:=zAD h0;unfold zK at h0 h1 h2 h3 h4 h5 h6 h7 h8 h9;go_wp2_with (go_at_fn g;refine hcall.mono ?_;intro e w' hr;rcases hr.both with ⟨h1,rfl,hb'⟩ | ⟨h1,rfl,hb'⟩ <;> clear hr)
   ·have h1':=zE h1;clear h1;go_wp2;go_ret;exact fun _=>⟨k,hlt,rfl,by rw [HX.out];exact h1'.out,zA hb.out hb'⟩
   ·have h1':=zE h1
    clear h1;go_wp2;go_roundw
    ·exact ⟨k+1,by go_num,by omega,zA hb.out hb',zAO _ k hall.out (fun _=>by rw [HX.out];exact h1'.out)⟩
    ·simp [intOf];omega
  ·clear hp h;go_wp2;go_ret;rintro ⟨x,hx,hpx⟩;obtain ⟨j,hj,rfl⟩:=List.getElem_of_mem hx;exact (hall.out j (by omega) hj hpx).elim
theorem settle1_note (w:World) (x:Note) (g:Nat) (num:Int) (hg:zK w g 0 (.int .i64 num)) :
  Calls prog 121 #[.agg #[.int .i64 x.num,.int .i64 x.day,.int .u8 x.sg,.int .i64 x.d,.int .i64 x.l,.int .i64 x.fr,.int .i64 x.to,.int .i64 x.ca,.bool x.use,.int .u8 x.ways],.pointer (some ⟨g,0,none⟩)] w (zAK (x.num=num) w):=by
 have L:=Lay.new w 74 #[.int .i64 x.num,.int .i64 x.day,.int .u8 x.sg,.int .i64 x.d,.int .i64 x.l,.int .i64 x.fr,.int .i64 x.to,.int .i64 x.ca,.bool x.use,.int .u8 x.ways];have hb:=zB w (.cells #[.int .i64 x.num,.int .i64 x.day,.int .u8 x.sg,.int .i64 x.d,.int .i64 x.l,.int .i64 x.fr,.int .i64 x.to,.int .i64 x.ca,.bool x.use,.int .u8 x.ways] 74);have c0:=L.cell 0 _ rfl;have l0:=L.lt;have hg2:=zC hb hg;unfold zK at hg2;go_enter func121,ntmps121;by_cases h:(x.num == num)=true
 ·go_wp2;go_ret;exact zAK.t (by simpa using h) hb
 ·have h':(x.num == num)=false:=by simpa using h
  have H:=zE h;clear h;go_wp2;go_ret;exact zAK.f (by simpa using H.out) hb
theorem enter_settle1:Enters prog 121:=enters_of func121 (by kernel_rfl) rfl
theorem note_put {base g c k:Nat} {w:World} {N:List Note} {z:Int} (h:Sl (Fr base 74 zBL) 10 w (.slice (some ⟨g,0,none⟩) N.length c) N) (hk:k < N.length) (hz:U8 z) :
  Sl (Fr base 74 zBL) 10 (w.setCell ⟨g,k*10+2,none⟩ (.int .u8 z)) (.slice (some ⟨g,0,none⟩) N.length c) (N.set k (N[k].put z)):=by
 obtain ⟨a,cap,e,hm,hc⟩:=h;cases e;refine ⟨_,c,by rw [List.length_set],by rw [List.length_set];exact hm,fun j hj=>?_⟩;rw [List.length_set] at hj;obtain ⟨b,o,eb,⟨⟨h0,h1,h2,h3,h4,h5,h6,h7,h8,h9⟩,hn⟩,hb,cur,hcur⟩:=hc j hj;cases eb;have hfr:∃ cur,(w.setCell ⟨g,k*10+2,none⟩ (.int .u8 z)).heap[g]? = some (.cells cur 74 (0,0)):=⟨_,lay_set (t:=74) (show Lay w g cur 74 from hcur) (k*10+2) _⟩;obtain ⟨cur2,hcur2⟩:=hfr;by_cases e:j=k
 ·subst e
  rw [List.getElem_set_self];exact ⟨g,0,rfl,⟨⟨cell_set_off (by omega) h0,cell_set_off (by omega) h1,by rw [Nat.zero_add] at h2 ⊢;exact cell_set_same h2,cell_set_off (by omega) h3,cell_set_off (by omega) h4,cell_set_off (by omega) h5,cell_set_off (by omega) h6,cell_set_off (by omega) h7,cell_set_off (by omega) h8,cell_set_off (by omega) h9⟩,
   ⟨hn.1,hn.2.1,hz,hn.2.2.2⟩⟩,hb,cur2,hcur2⟩
 ·rw [List.getElem_set_ne (by omega)];exact ⟨g,0,rfl,⟨⟨cell_set_off (by omega) h0,cell_set_off (by omega) h1,cell_set_off (by omega) h2,cell_set_off (by omega) h3,cell_set_off (by omega) h4,cell_set_off (by omega) h5,cell_set_off (by omega) h6,cell_set_off (by omega) h7,cell_set_off (by omega) h8,cell_set_off (by omega) h9⟩,hn⟩,hb,cur2,hcur2⟩
theorem setN_at {R:List Issue} {N:List Note} (h:zDL R N) {k:Nat} (hk:k < N.length) (z:Int) : setN N N[k].num z=N.set k (N[k].put z):=by
 unfold setN;apply List.ext_getElem (by rw [List.length_map,List.length_set]);intro j h1 h2;have hj:j < N.length:=by rwa [List.length_map] at h1
 rw [List.getElem_map];by_cases e:j=k
 ·subst e;rw [if_pos rfl,List.getElem_set_self]
 ·rw [if_neg (fun g=>e (num_apart h hj hk g)),List.getElem_set_ne (by omega)]
theorem issue_small {x:Issue} (h:zGW x) : x.items.length<=100000/\x.dims.length<=100000:=by
 have h1:=h.1;unfold HeadOk In at h1;omega
structure StlAt (g:Nat) (w wr:World) (u vn:Value) (k:Nat) (cs:List Value) (R:List Issue) : Prop where
 box:BoxAt g w wr #[u,vn] 27
 own:wr.ownsRow (g+1) 118 5 u k cs
 row:IssRow (g+1) wr cs (R.take k)
theorem settle_note (w:World) (vr vn:Value) (R:List Issue) (N:List Note) (num:Int) (s:Bool) (h:NoteArg w vr vn R N) (hk:zHN w) (hv:zP R N=0) (hn:num∈zBO N) (h64:I64 num) :
  Calls prog 76 #[.agg #[vr,vn],.int .i64 num,.bool s] w fun e w'=>∃ ur un,e = .returned (.tuple #[.agg #[ur,un],.int .i64 0]) /\
   Sl (Fr w.heap.size 118 (zGI w.heap.size)) 5 w' ur R/\Sl (Fr w.heap.size 74 zBL) 10 w' un (setN N num (if s then 2 else 0))/\Below w.heap.size w w'/\Capd ur R.length/\Capd un N.length:=by
 obtain ⟨i0,hi0,hz0,hz1,hz2⟩:=info_parts infoIssue;obtain ⟨ar,cr,rfl,_⟩:=zD h.reg.sl;obtain ⟨an,cn,rfl,_⟩:=zD h.sl;have S:=(((Sta.of ((Ever.and (p:=fun w=>zHN w) (fun _ k=>hk.ext k) (fun _ k=>h.ext k)))).new #[.slice ar R.length cr,.slice an N.length cn] 27).new #[.int .i64 num] 3).new #[.slice none 0 0,.slice none 0 0] 27;simp only [World.size_alloc] at S;have HV:=zE (And.intro hv hn);have hno:=(zBJ hv).2;have hL:=zAW (zBJ hv).1;have HNO:=zE hno;have HL:=zE hL;have h12:N.length<=12:=hno.1;have h60:R.length<=60:=by have:=hL.1.2;omega
 clear h hk hv hn hno hL;obtain ⟨l0,⟨q0,q1⟩,-⟩:=(S.get 2 rfl).q2;go_enter func76,ntmps76;go_wp2_with fail;clear q0 q1 l0;generalize hg0:w.heap.size=g0 at *;generalize ((w.alloc _).alloc _).alloc _=w2 at *;refine (opened_note _ _ _ R N S.now.1 S.now.2).mono ?_;rintro e w3 ⟨⟨p,rfl,hp⟩,h⟩;obtain ⟨pf,rfl,hF⟩:=hp HV.out.1;rw [HV.out.1];replace S:=S.ext h;obtain ⟨vd,vo,O,LF,-,hO,hperm⟩:=hF.is;obtain ⟨ao,co,rfl,_⟩:=zD hO;have hmem:num∈O:=(hperm.mem_iff).2 (by rw [opens_to];exact HV.out.2);clear hF hp h hperm;have f2:=zH (show zK w3 pf 3 _ from LF.cell 3 _ rfl);have n0:=zH (show zK w3 (g0+1) 0 _ from (S.get 1 rfl).cell 0 _ rfl);have HO:=zE (fun xq=>zJ zN (zG w3 xq) hO);have HM:=zE hmem;clear hO hmem LF;go_upto_region 4 with fail
 refine zAR (by kernel_rfl) (by kernel_rfl) (no_implicit_lambda% ?_);repeat ((with_reducible refine wpQuiet_step (fun K hK=>?_));go_simp;first | ((with_reducible refine hK _ ?_);clear hK K) | (refine hK _ (no_implicit_lambda% ?_);clear hK K) | (apply Exists.intro;(with_reducible refine ⟨fun _=>?_,hK _ ?_⟩);((go_at_call 74;exact Calls.quiet_later (contains_i _ _ O num (HO.out _))));clear hK K))
 with_reducible refine wpQuiet_nil ?_
 intro _ hw9;obtain ⟨xq,hw8⟩:=hw9;subst hw8;rw [decide_eq_true HM.out];have S1:=S.ext (zG w3 xq);clear S f2 n0 HO HM;generalize w3.later xq=w4 at *;have hw4:=S1.held.below.size;have hr2:=(S1.get 0 rfl).lt;obtain ⟨l0,⟨q0,q1⟩,-⟩:=(S1.get 2 rfl).q2;go_wp2_with fail;clear q0 q1 l0;refine (clone_note _ _ N S1.now.1.sl (by omega)).mono ?_;rintro e w5 ⟨un,rfl,⟨hns,cn,hno⟩,h⟩;replace S1:=S1.ext h;obtain ⟨a9,c9,rfl⟩:=zDC hno;have HW:Hid (StlAt w5.heap.size w5 (w5.alloc (.cells #[.slice none 0 0,.slice a9 N.length c9] 27)) (.slice none 0 0) (.slice a9 N.length c9) 0 [] R):=⟨⟨zB _ _,Lay.new _ _ _⟩,World.ownsRow_nil _ _ _ _,by rw [List.take_zero];exact issRow_nil _ _⟩;have HNN:=zE (And.intro hns hno);have HS:=zE S1;have h4:=S1.held.below.size;clear h hns hno;obtain ⟨l0,⟨q0,q1⟩,-⟩:=(S1.get 2 rfl).q2;go_wp2;clear q0 q1 l0 S1;generalize hgx:w5.heap.size=gx at *;generalize w5.alloc _=w6 at *;go_loopw [39] (fun q wr=>∃ (k:Nat) (u:Value) (cs:List Value),q = .int .i64 k/\k<=R.length/\Hid (StlAt gx w5 wr u (.slice a9 N.length c9) k cs R)) (fun q _=>R.length - (intOf q).toNat)
 case atStart=>exact ⟨0,_,_,rfl,by omega,HW⟩
 case round =>
  clear HW;obtain ⟨k,u,cs,rfl,hk,HW⟩:=hrel;have S:=HS.out.ext (by rw [hgx];exact HW.out.box.below);by_cases hlt:k < R.length
  case pos =>
   obtain ⟨b,off,rfl,⟨c0,c1,c2⟩,hnum,vi,vd,c3,c4,si,sd⟩:=(zY S.now.1.reg.sl).2 k hlt;have htk:Hid (R.take (k+1)=R.take k++[R[k]]):=List.take_succ_eq_append_getElem hlt;have hsm:R[k].items.length<=100000/\R[k].dims.length<=100000:=issue_small ((HL.out.2.1 k hlt).1 hlt);generalize R[k]=x at *;obtain ⟨ai,ci,rfl,_⟩:=zD si;obtain ⟨ad,cd,rfl,_⟩:=zD sd;unfold zK at c0 c1 c2 c3 c4;have L1:=(HeldB.nil wr).new #[.int .i64 x.d,.int .i64 x.l,.int .u8 x.k,.slice ai x.items.length ci,.slice ad x.dims.length cd] 118;have HW1:Hid (StlAt gx w5 _ u (.slice a9 N.length c9) k cs R):=⟨HW.out.box.ext L1.below,zAC L1.below HW.out.own,issRow_same (same_below L1.below) (same_below L1.below) HW.out.row⟩;have HI:=zE (zJ zAX L1.below si);have HD:=zE (zJ zBS L1.below sd);have HL1:=zE (L1.get 0 rfl);have HWL:Hid (gx < wr.heap.size/\∀ g,u.ownBlock=some g->g < wr.heap.size):=⟨HW.out.box.box.lt,fun g e=>(HW.out.own.lt g e).2⟩;clear S L1 HW si sd;go_upto_region 10 with fail
   clear c0 c1 c2 c3 c4;have hgw:gx < wr.heap.size:=HWL.out.1;have hlo:=HWL.out.2;have HLO:=zE hlo;clear hlo HWL;generalize wr.heap.size=gy at *;generalize wr.alloc _=wA at *;have d3:=zH (show zK wA gy 3 _ from HL1.out.cell 3 _ rfl);have d4:=zH (show zK wA gy 4 _ from HL1.out.cell 4 _ rfl);have HSM:=zE hsm;have HWS:Hid (gx+1<=wA.heap.size):=HW1.out.box.box.lt;refine zM 7 (by kernel_rfl) (by kernel_rfl) ?_;simp only [tk_];iterate 2 (apply fx_ 76 (by kernel_rfl) rfl;focus (intro rq vs xq hr hc hf hd;(try simp [hq_] at hd);go_simp;exact ⟨br_,rfl⟩))
   refine fs_ 76 (by kernel_rfl) rfl (fun v w'=>Sl (Fr wA.heap.size 97 zBV) 2 w' v x.items) (fun v w w' hb h=>zJ (zFG zAX) hb h) ?_ ?_
   ·intro rq vs xq hr hc hf hd
    (try simp [hq_] at hd)
    go_simp;refine (clone_item _ _ x.items (zJ zAX (zG wA xq) HI.out) HSM.out.1).mono ?_;rintro e w9 ⟨ui,rfl,⟨h1,cs,h2⟩,hb⟩;exact ⟨ui,rfl,hb,zOV (zG wA xq).size (fr_of_own h1 h2)⟩
   iterate 2 (apply fx_ 76 (by kernel_rfl) rfl;focus (intro rq vs xq hr hc hf hd;(try simp [hq_] at hd);go_simp;exact ⟨br_,rfl⟩))
   refine fs_ 76 (by kernel_rfl) rfl (fun v w'=>Sl (Fr wA.heap.size 167 zGJ) 3 w' v x.dims) (fun v w w' hb h=>zJ (zFG zBS) hb h) ?_ ?_
   ·intro rq vs xq hr hc hf hd
    (try simp [hq_] at hd)
    go_simp;refine (clone_dim _ _ x.dims (zJ zBS (zG wA xq) HD.out) HSM.out.2).mono ?_;rintro e w9 ⟨ui,rfl,⟨h1,cs,h2⟩,hb⟩;exact ⟨ui,rfl,hb,zOV (zG wA xq).size (fr_of_own h1 h2)⟩
   apply fx_ 76 (by kernel_rfl) rfl;focus (intro rq vs xq hr hc hf hd;(try simp [hq_] at hd);go_simp;exact ⟨br_,rfl⟩)
   refine zQ (by simp only [List.length_append,List.length_cons,List.length_nil]) (fun vs xq hd=>?_);simp [zW,zAI,List.range,List.range.loop] at hd;simp only [pf_];obtain ⟨e0,e1,e2,e3,e4,e5,e6⟩:=hd;simp only [Nat.zero_add,Nat.reduceAdd] at e0 e1 e2 e3 e4 e5 e6 ⊢;obtain ⟨ui,cui,hui,_⟩:=zD e2;obtain ⟨ud,cud,hud,_⟩:=zD e5;rw [hui] at e2;rw [hud] at e5;simp only [e0,e1,hui,e3,e4,hud,e6];have HW2:Hid (StlAt gx w5 (wA.later xq) u (.slice a9 N.length c9) k cs R):=⟨HW1.out.box.ext (zG wA xq),zAC (zG wA xq) HW1.out.own,issRow_same (same_below (zG wA xq)) (same_below (zG wA xq)) HW1.out.row⟩;have HL2:=zE (HL1.out.ext (zG wA xq));have S2:=zE (And.intro e2 e5);have hsz:=(zG wA xq).size;clear e0 e1 e2 e3 e4 e5 e6 hui hud d3 d4 HW1 HL1 HI HD HSM hsm;generalize wA.later xq=wB at *;obtain ⟨ly,⟨y0,y1,y2,y3,y4⟩,z0,z1,z2,z3,z4⟩:=HL2.out.q5;go_upto_region 11 with fail
   clear y0 y1 y2 y3 y4 z0 z1 z2 z3 z4 ly;have hty:wB.heap[gy]? = some (.cells #[.int .i64 x.d,.int .i64 x.l,.int .u8 x.k,.slice ai x.items.length ci,.slice ad x.dims.length cd] 118 (0,0)):=HL2.out;have hL3:=lay_set HL2.out 3 (.slice ui x.items.length cui);have hty2:(wB.setCell ⟨gy,3,none⟩ (.slice ui x.items.length cui)).heap[gy]? = some (.cells _ 118 (0,0)):=hL3;have HL4:=zE (lay_set hL3 4 (.slice ud x.dims.length cud));have hlo2:∀ g,u.ownBlock=some g->g≠gy:=fun g e h=>by have:=HLO.out g e;omega
   have HW3:Hid (StlAt gx w5 ((wB.setCell ⟨gy,3,none⟩ (.slice ui x.items.length cui)).setCell ⟨gy,4,none⟩ (.slice ud x.dims.length cud)) u (.slice a9 N.length c9) k cs R) :=
    ⟨⟨zI (by omega) (zI (by omega) HW2.out.box.below),lay_else (lay_else HW2.out.box.box (by omega)) (by omega)⟩,
     (HW2.out.own.kept (zEK _ gy 3 _) (.inr fun e=>hlo2 _ e rfl)).kept (zEK _ gy 4 _) (.inr fun e=>hlo2 _ e rfl),
     issRow_same (same_set_type hty2 (by decide)) (same_set_type hty2 (by decide)) (issRow_same (same_set_type hty (by decide)) (same_set_type hty (by decide)) HW2.out.row)⟩
   have S3:Hid (Sl (Fr wA.heap.size 97 zBV) 2 ((wB.setCell ⟨gy,3,none⟩ (.slice ui x.items.length cui)).setCell ⟨gy,4,none⟩ (.slice ud x.dims.length cud)) (.slice ui x.items.length cui) x.items/\Sl (Fr wA.heap.size 167 zGJ) 3 ((wB.setCell ⟨gy,3,none⟩ (.slice ui x.items.length cui)).setCell ⟨gy,4,none⟩ (.slice ud x.dims.length cud)) (.slice ud x.dims.length cud) x.dims):=(And.intro (zCH zDZ (same_set_type hty2 (by decide)) (zCH zDZ (same_set_type hty (by decide)) S2.out.1)) (zCH zHA (same_set_type hty2 (by decide)) (zCH zHA (same_set_type hty (by decide)) S2.out.2)));clear hty hty2 hL3 HL2 HW2 S2;generalize (wB.setCell _ _).setCell _ _=wC at *;have HL5:Hid (Lay wC gy #[.int .i64 x.d,.int .i64 x.l,.int .u8 x.k,.slice ui x.items.length cui,.slice ud x.dims.length cud] 118):=HL4.out;have hb1:=zB wC (.cells #[.int .i64 x.d,.int .i64 x.l,.int .u8 x.k,.slice ui x.items.length cui,.slice ud x.dims.length cud] 118);have HW4:Hid (StlAt gx w5 _ u (.slice a9 N.length c9) k cs R):=⟨HW3.out.box.ext hb1,zAC hb1 HW3.out.own,issRow_same (same_below hb1) (same_below hb1) HW3.out.row⟩;have HCN:=zE (cellsN_new wC [.int .i64 x.d,.int .i64 x.l,.int .u8 x.k,.slice ui x.items.length cui,.slice ud x.dims.length cud] 118 _ rfl);have S4:=zE (And.intro (zJ (zFG zAX) hb1 S3.out.1) (zJ (zFG zBS) hb1 S3.out.2));obtain ⟨aw,cw,rfl⟩:=zDC HW3.out.own;obtain ⟨ly,⟨y0,y1,y2,y3,y4⟩,-⟩:=HL5.out.q5;obtain ⟨lx,⟨x0,x1⟩,-⟩:=HW3.out.box.box.q2;have hsz3:gx+1<=wC.heap.size:=HW3.out.box.box.lt;clear HL4 HW3 S3 hb1 HL5;have hk80:k < 80:=by omega
   go_wp2_with (at_builtin;generalize wC.heap.size=g7 at *;generalize wC.alloc _=w7 at *;refine wpList_append_own _ rfl _ _ 22 rfl (gx+1) 118 i0 _ 5 72 underlying22 hi0 hz0 hz1 hz2 rfl (by decide) _ _ _ rfl HW4.out.own ⟨g7,0,none⟩ 1 1 [.int .i64 x.d,.int .i64 x.l,.int .u8 x.k,.slice ui x.items.length cui,.slice ud x.dims.length cud] rfl rfl HCN.out (by intro u hu;simp at hu;rcases hu with rfl | rfl | rfl | rfl | rfl <;> rfl) (by unfold maxLen;omega) (by omega) (by have:=HW4.out.box.box.lt;omega) ?_;intro v' w8 hown' hgrow _;obtain ⟨av,cv,rfl⟩:=zDC hown';have L8:=HW4.out.box.box.kept hgrow (fun e=>by have:=(HW4.out.own.lt _ e.symm).1;omega);have m0:=L8.cell 0 _ rfl;have f0:=L8.frozen 0;have l5:=L8.lt);have hwA:gx+1<=wA.heap.size:=HWS.out;have hrow:=issRow_snoc (issRow_same (same_grown hgrow HW4.out.own (by decide)) (same_grown hgrow HW4.out.own (by decide)) HW4.out.row) x _ _ hnum (zCH zDZ (same_grown hgrow HW4.out.own (by decide)) (zOV hwA S4.out.1)) (zCH zHA (same_grown hgrow HW4.out.own (by decide)) (zOV hwA S4.out.2));rw [<- htk.out] at hrow;have HF:Hid (StlAt gx w5 (w8.setCell ⟨gx,0,none⟩ (.slice av (k+1) cv)) (.slice av (k+1) cv) (.slice a9 N.length c9) (k+1) _ R) :=
    ⟨⟨zI (Nat.le_refl _) (HW4.out.box.below.grown hgrow (Nat.le_of_lt HW4.out.box.box.lt) (fun r e=>by have:=(HW4.out.own.lt r e).1;omega)),lay_set L8 0 _⟩,own_set hown' (by omega),issRow_same (zRG (by omega)) (zRG (by omega)) hrow⟩
   clear hrow hown' hgrow L8 HW4 S4;go_wp2;exact ⟨⟨k+1,_,_,by go_num,by omega,HF⟩,by simp [intOf];omega⟩
  case neg =>
   obtain rfl:k=R.length:=by omega
   have hrow:=HW.out.row;rw [List.take_length] at hrow;have HIS:=zE (issRow_sl hrow HW.out.own);have HCD:=zE (capd_own HW.out.own);have hbx:Below w5.heap.size w5 wr:=by rw [hgx];exact HW.out.box.below
   have hns:=zJ zAN hbx HNN.out.1;have hown:=zAC hbx HNN.out.2;obtain ⟨aw,cw,rfl⟩:=zDC HW.out.own;obtain ⟨k0,hk0,hsg,hnum0⟩:=(opens_mem _ _).1 HV.out.2;have hN:0 < N.length:=by omega
   obtain ⟨gn,cn2,e9,hgn⟩:=zIQ hown hN;cases e9;have hgx1:gn < gx:=by have:=(HNN.out.2.lt gn rfl).2;omega
   obtain ⟨lx,⟨x0,x1⟩,-⟩:=HW.out.box.box.q2;have hbz:=S.held.below;have HCL:=zE (indexNote wr _ N hns 121 #[.pointer (some ⟨g0+1,0,none⟩)] enter_settle1 (fun x=>x.num=num) (fun x hx w' hb=>settle1_note w' x (g0+1) num (zC hb ((S.get 1 rfl).cell 0 _ rfl))));have HNS:=zE (fr_of_own hns hown);have HOW:=zE hown;have HEX:Hid (∃ x∈N,x.num=num):=⟨_,List.getElem_mem hk0,hnum0⟩;have HSS:=zE S;clear hns hown hrow hbx hbz S;go_wp2_with fail;clear x0 x1 lx;refine HCL.out.mono ?_;intro e w9 hpost;obtain ⟨kk,hkk,rfl,hp,h9⟩:=hpost HEX.out;have hkk2:(kk:Int) < N.length:=by omega
   have hns9:=zJ (zFG zAN) h9 HNS.out;have hown9:=zAC h9 HOW.out;have hgl:=(hown9.lt gn rfl).2;have hset0:=setN_at HNO.out hkk 0;have hset2:=setN_at HNO.out hkk 2;rw [hp] at hset0 hset2;have HSET:=zE (And.intro hset0 hset2);clear hset0 hset2;obtain ⟨b',o',eb,⟨⟨-,-,n2,-⟩,-⟩,-,-⟩:=(zY hns9).2 kk hkk;cases eb;rw [Nat.zero_add] at n2;have fz:=fun q=>hown9.frozenAt q
   have HP0:=zE (note_put hns9 hkk (z:=0) ⟨by omega,by omega⟩);have HOW1:=zE (hown9.stored (kk*10+2) (.int .u8 0)).1;have LX:=HW.out.box.box.ext h9;have LX1:=zE (lay_else (g:=gn) (j:=kk*10+2) (v:=.int .u8 0) LX (by omega));have LR1:=zE (lay_else (g:=gn) (j:=kk*10+2) (v:=.int .u8 0) ((HSS.out.get 0 rfl).ext h9) (by omega));have HI1:=zE (zIZ (zRG (g:=gn) (j:=kk*10+2) (u:=.int .u8 0) (by omega)) (zRG (by omega)) (zRG (by omega)) (zJ (zFG stays_issueN) h9 HIS.out));have HB1:=zE (zI (j:=kk*10+2) (u:=.int .u8 0) (show w.heap.size<=gn by omega) (zA HSS.out.held.below h9));obtain ⟨lx,⟨x0,x1⟩,-⟩:=LX.q2;unfold zK at n2;clear LX hns9 hown9 hpost HCL HNS HOW HIS;go_upto_region 15 with fail
   clear x0 x1 lx n2 fz;generalize w9.setCell _ _=wz at *;cases s
   case' false =>have LX2:=LX1.out;have LR2:=LR1.out;have HI2:=HI1;have HP2:=HP0;have HB2:=HB1;have HOW2:=HOW1;generalize wz=wY at *
   case' true =>
    have hlt3:kk < (N.set kk (N[kk].put 0)).length:=by rw [List.length_set];exact hkk
    have hP0:Sl (Fr w4.heap.size 74 zBL) 10 wz (.slice (some ⟨gn,0,none⟩) (N.set kk (N[kk].put 0)).length c9) (N.set kk (N[kk].put 0)):=by rw [List.length_set];exact HP0.out
    obtain ⟨b',o',eb,⟨⟨-,-,n2,-⟩,-⟩,-,-⟩:=(zY hP0).2 kk hlt3;cases eb;have hP2:=note_put hP0 hlt3 (z:=2) ⟨by omega,by omega⟩;rw [List.getElem_set_self,List.set_set,List.length_set] at hP2;have HP2:Hid (Sl (Fr w4.heap.size 74 zBL) 10 _ _ (N.set kk (N[kk].put 2))):=hP2;have LX2:=lay_else (g:=gn) (j:=kk*10+2) (v:=.int .u8 2) LX1.out (by omega);have LR2:=lay_else (g:=gn) (j:=kk*10+2) (v:=.int .u8 2) LR1.out (by omega);have HI2:=zE (zIZ (zRG (g:=gn) (j:=kk*10+2) (u:=.int .u8 2) (by omega)) (zRG (by omega)) (zRG (by omega)) HI1.out);have HB2:=zE (zI (j:=kk*10+2) (u:=.int .u8 2) (show w.heap.size<=gn by omega) HB1.out);have HOW2:=zE (HOW1.out.stored (kk*10+2) (.int .u8 2)).1;have fz:=fun q=>HOW1.out.frozenAt q
    have hgl:=(HOW1.out.lt gn rfl).2;rw [Nat.zero_add] at n2;unfold zK at n2;obtain ⟨lx,⟨x0,x1⟩,-⟩:=LX1.out.q2;clear hP0 hP2;go_upto_region 17 with fail
    clear x0 x1 lx n2 fz;generalize wz.setCell _ _=wY at *
   all_goals
    obtain ⟨lr,⟨r0,r1⟩,y0,y1⟩:=LR2.q2;obtain ⟨lx,⟨x0,x1⟩,-⟩:=LX2.q2;go_wp2;generalize hW:(wY.setCell _ _).setCell _ _=wF;obtain ⟨L9,h9',-⟩:=zIW LR2 [.slice aw R.length cw,.slice (some ⟨gn,0,none⟩) N.length c9] rfl hW;have hF:fillW wY (g0+2) 0 [.slice aw R.length cw,.slice (some ⟨gn,0,none⟩) N.length c9]=wF:=hW;have hI:=zIZ (zRG (g:=g0+2) (j:=1) (u:=.slice (some ⟨gn,0,none⟩) N.length c9) (by omega)) (zRG (by omega)) (zRG (by omega)) (zIZ (zRG (g:=g0+2) (j:=0) (u:=.slice aw R.length cw) (by omega)) (zRG (by omega)) (zRG (by omega)) HI2.out);have hN:=zCH zGM (zRG (g:=g0+2) (j:=1) (u:=.slice (some ⟨gn,0,none⟩) N.length c9) (by omega)) (zCH zGM (zRG (g:=g0+2) (j:=0) (u:=.slice aw R.length cw) (by omega)) HP2.out);rw [show (wY.setCell ⟨g0+2,0,none⟩ (.slice aw R.length cw)).setCell ⟨g0+2,1,none⟩ (.slice (some ⟨gn,0,none⟩) N.length c9)=wF from hW] at hI hN;obtain ⟨lz,⟨s0,s1⟩,-⟩:=L9.q2;refine bodyPost_ret (v:=.tuple #[.agg #[.slice aw R.length cw,.slice (some ⟨gn,0,none⟩) N.length c9],.int .i64 0]) (by simp [results,results76,go_sem,s0,s1,lz]) rfl ?_;refine ⟨_,_,rfl,?_,?_,hg0 ▸ HB2.out.trans (h9' _ (by omega)),HCD.out,capd_own HOW2.out⟩
    ·refine sl_to (fun b o x hx=>?_) hI;obtain ⟨⟨h1,h2,vi,vd,h3,h4,h5,h6⟩,h7,h8⟩:=hx;exact ⟨⟨h1,h2,vi,vd,h3,h4,zOV (by omega) h5,zOV (by omega) h6⟩,by omega,h8⟩
    ·first | rw [HSET.out.1] | rw [HSET.out.2]
     exact zOV (by omega) hN
end
section
open Tryz
open Go.RowKit
attribute [local go_sem] zAE
def chL (L:List Int) (i:Nat) : Int:=L.getD (i % L.length) 0
theorem tmod_is {n:Int} (hn:0<=n) {k:Nat} (hk:0 < k) : n.tmod k=((n.toNat % k:Nat) : Int):=by
 obtain ⟨m,rfl⟩ : ∃ m:Nat,n=m:=⟨n.toNat,by omega⟩;rw [Int.tmod_eq_emod_of_nonneg (by omega)];simp
theorem choose_is (w:World) (v:Value) (L:List Int) (i:Nat) (hL:Sl AtU32 1 w v L) (h1:i<=1000) :
  Calls prog 11 #[v,.int .i64 i] w fun e w'=>e = .returned (.int .i64 (chL L i))/\w'=w:=by
 obtain ⟨a,c,rfl,hn⟩:=zD hL;go_enter func11,ntmps11;by_cases h:L.length=0
 ·have e:((L.length:Int) == 0)=true:=by simp [h]
  have hc:Hid (chL L i=0):=by unfold Hid chL;rw [List.length_eq_zero_iff.1 h];rfl
  go_wp2;go_ret;exact ⟨by rw [hc.out];rfl,rfl⟩
 have e:((L.length:Int) == 0)=false:=by simpa using h
 have hk:i % L.length < L.length:=Nat.mod_lt _ (Nat.pos_of_ne_zero h);have hke:(i:Int).tmod L.length=((i % L.length:Nat) : Int):=by rw [tmod_is (by omega) (Nat.pos_of_ne_zero h)];rfl
 obtain ⟨b,o,rfl,c0,hu⟩:=(zY hL).2 _ hk;have hc:Hid (chL L i=L[i % L.length]):=by unfold Hid chL;rw [List.getD_eq_getElem?_getD,List.getElem?_eq_getElem hk];rfl
 rw [Nat.mul_one] at c0;unfold zK at c0;generalize i % L.length=k at *;generalize L[k]=z at *;have hu1:=hu.1;have hu2:=hu.2;have w1:wrap64 z=z:=IntWalk.wrap64_in _ (by omega);have w3:IntKind.i64.wrap z=z:=IntWalk.i64_in _ (by omega);have hk2:(k:Int) < (L.length:Int):=by omega
 clear hL;go_wp2;go_ret;exact ⟨by rw [hc.out];rfl,rfl⟩
theorem chq_ {w:World} {v:Value} {L:List Int} (hL:Sl AtU32 1 w v L) (i:Nat) (h1:i<=1000) (xq:Later) :
  Calls prog 11 #[v,.int .i64 i] (w.later xq) fun e w'=>e = .returned (.int .i64 (chL L i))/\Below (w.later xq).heap.size (w.later xq) w' :=
 (choose_is _ v L i (zJ stays_u32 (zG w xq) hL) h1).mono fun _ _ g=>⟨g.1,by rw [g.2];exact br_⟩
theorem chL_in {w:World} {v:Value} {L:List Int} (hL:Sl AtU32 1 w v L) (i:Nat) : 0<=chL L i/\chL L i<=4294967295:=by
 unfold chL;by_cases h:L.length=0
 ·rw [List.length_eq_zero_iff.1 h];simp
 ·have hk:i % L.length < L.length:=Nat.mod_lt _ (Nat.pos_of_ne_zero h);obtain ⟨a,c,rfl,_⟩:=zD hL;obtain ⟨b,o,_,_,hu⟩:=(zY hL).2 _ hk;rw [List.getD_eq_getElem?_getD,List.getElem?_eq_getElem hk];exact hu
theorem rowInts_pick {w:World} {cs:List Value} {T:List (List Int)} (hr:zEO [3] zJC 1 w cs T) {i:Nat} (hi:i < T.length) : ∃ v,cs[i]? = some v/\OnT [3] (fun w=>Sl zAM 1 w v T[i]) w:=by
 obtain ⟨ps,rfl,hl,hk⟩:=hr;have hip:i < ps.length:=by omega
 obtain ⟨h1,h2⟩:=hk i hi hip;obtain ⟨v,e,_⟩:=h2.now;refine ⟨v,?_,fun w' k=>?_⟩
 ·have:=flatten_get (fun k h=>(hk k (by omega) h).1) i hip 0 (by omega);rw [Nat.mul_one,Nat.add_zero] at this;rw [this,e];rfl
 ·obtain ⟨v',e',hs⟩:=h2 w' k;rw [e] at e';cases e';exact hs
end
section
open Tryz
open Go.RowKit Go.Shelf
attribute [local go_sem] zAE Oper.grows Oper.growUpon readF lastD
structure CntTo (b:Built) (k:Nat) (C:List Int) : Prop where
 len:C.length=k
 has:∀ j,j < k->(h:j < b.hs.length)->b.hs[j].lo<=C.getD j 0/\C.getD j 0<=b.hs[j].hi
theorem CntTo.put {b:Built} {k:Nat} {C:List Int} (h:CntTo b k C) (hk:k < b.hs.length) {v:Int} (h1:b.hs[k].lo<=v) (h2:v<=b.hs[k].hi) : CntTo b (k+1) (C++[v]):=by
 refine ⟨by rw [List.length_append,h.len];rfl,fun j hj hj'=>?_⟩;rw [List.getD_eq_getElem?_getD];by_cases e:j < k
 ·rw [List.getElem?_append_left (by rw [h.len];exact e),<- List.getD_eq_getElem?_getD];exact h.has j e hj'
 ·obtain rfl:j=k:=by omega
  rw [List.getElem?_append_right (by rw [h.len];exact Nat.le_refl _),h.len,Nat.sub_self];exact ⟨h1,h2⟩
theorem CntTo.all {b:Built} {C:List Int} (h:CntTo b b.hs.length C) : CntAt b C:=⟨h.len,fun k hk=>h.has k hk hk⟩
theorem CntAt.i64 {b:Built} (hv:zF b=0) {C:List Int} (h:CntAt b C) : ∀ c∈C,I64 c:=fun c hc=>by
 obtain ⟨j,hj,rfl⟩:=List.getElem_of_mem hc;have hj':j < b.hs.length:=by rw [<- h.len];exact hj
 have h1:=h.has j hj';have h2:=zGO hv hj';rw [List.getD_eq_getElem?_getD,List.getElem?_eq_getElem hj] at h1;simp only [Option.getD_some] at h1;unfold I64;omega
def cutTo (hs:List Heap) (C:List Int) (k:Nat) : List Heap:=hs.mapIdx fun j h=>if j < k then { h with lo:=C.getD j 0,hi:=C.getD j 0 } else h
theorem cutTo_len (hs:List Heap) (C:List Int) (k:Nat) : (cutTo hs C k).length=hs.length:=by unfold cutTo;rw [List.length_mapIdx]
theorem cutTo_at (hs:List Heap) (C:List Int) (k j:Nat) (hj:j < hs.length) (hj':j < (cutTo hs C k).length) : (cutTo hs C k)[j]=if j < k then { hs[j] with lo:=C.getD j 0,hi:=C.getD j 0 } else hs[j] :=
 List.getElem_mapIdx (l:=hs) (f:=fun j h=>if j < k then { h with lo:=C.getD j 0,hi:=C.getD j 0 } else h) (h:=hj')
theorem cutTo_zero (hs:List Heap) (C:List Int) : cutTo hs C 0=hs:=by
 apply List.ext_getElem (cutTo_len _ _ _);intro j h1 h2;rw [cutTo_at _ _ _ _ h2,if_neg (by omega)]
theorem cutTo_all (hs:List Heap) (C:List Int) : cutTo hs C hs.length=cutH hs C:=by
 apply List.ext_getElem (by rw [cutTo_len,cutH_len]);intro j h1 h2;have hj:j < hs.length:=by rw [cutTo_len] at h1;exact h1
 rw [cutTo_at _ _ _ _ hj,if_pos hj,cutH_at _ _ _ hj h2]
theorem cutTo_put (hs:List Heap) (C:List Int) {k:Nat} (hk:k < hs.length) (hC:C.length=k) (v:Int) : (cutTo hs C k).set k { hs[k] with lo:=v,hi:=v } = cutTo hs (C++[v]) (k+1):=by
 apply List.ext_getElem (by rw [List.length_set,cutTo_len,cutTo_len]);intro j h1 h2;have hj:j < hs.length:=by rw [cutTo_len] at h2;exact h2
 rw [cutTo_at hs _ _ _ hj];by_cases e:j=k
 ·subst e
  have e2:(C++[v]).getD j 0=v:=by rw [List.getD_eq_getElem?_getD,List.getElem?_append_right (by omega),hC,Nat.sub_self];rfl
  rw [List.getElem_set_self,if_pos (by omega),e2]
 ·rw [List.getElem_set_ne (by omega),cutTo_at hs _ _ _ hj]
  by_cases h:j < k
  ·have e2:(C++[v]).getD j 0=C.getD j 0:=by rw [List.getD_eq_getElem?_getD,List.getElem?_append_left (by omega),<- List.getD_eq_getElem?_getD]
   rw [if_pos h,if_pos (by omega),e2]
  ·rw [if_neg h,if_neg (by omega)]
theorem heap_put {base g o c k:Nat} {w:World} {X:List Heap} {v:Int} (h:Sl (Fr base 42 zDO) 4 w (.slice (some ⟨g,o,none⟩) X.length c) X) (hk:k < X.length) (hz:I64 v) :
  Sl (Fr base 42 zDO) 4 ((w.setCell ⟨g,o+k*4+2,none⟩ (.int .i64 v)).setCell ⟨g,o+k*4+3,none⟩ (.int .i64 v)) (.slice (some ⟨g,o,none⟩) X.length c) (X.set k { X[k] with lo:=v,hi:=v }):=by
 obtain ⟨a,cap,e,hm,hc⟩:=h;cases e;refine ⟨_,c,by rw [List.length_set],by rw [List.length_set];exact hm,fun j hj=>?_⟩;rw [List.length_set] at hj;obtain ⟨b,q,eb,⟨⟨h0,h1,h2,h3⟩,hn⟩,hb,cur,hcur⟩:=hc j hj;cases eb;have hcur1:=lay_set (t:=42) (show Lay w g cur 42 from hcur) (o+k*4+2) (.int .i64 v);have hcur2:=lay_set hcur1 (o+k*4+3) (.int .i64 v);by_cases e:j=k
 ·subst e;rw [List.getElem_set_self];exact ⟨g,o,rfl,⟨⟨cell_set_off (by omega) (cell_set_off (by omega) h0),cell_set_off (by omega) (cell_set_off (by omega) h1),cell_set_off (by omega) (cell_set_same h2),cell_set_same (cell_set_off (by omega) h3)⟩,⟨hn.1,hn.2.1,hz,hz⟩⟩,hb,_,hcur2⟩
 ·rw [List.getElem_set_ne (by omega)];exact ⟨g,o,rfl,⟨⟨cell_set_off (by omega) (cell_set_off (by omega) h0),cell_set_off (by omega) (cell_set_off (by omega) h1),cell_set_off (by omega) (cell_set_off (by omega) h2),cell_set_off (by omega) (cell_set_off (by omega) h3)⟩,hn⟩,hb,_,hcur2⟩
def StA (base:Nat) (R:List Issue) (N:List Note) (v:Value) (w:World) : Prop:=∃ ur un,v = .agg #[ur,un]/\(Sl (Fr base 118 (zGI base)) 5 w ur R/\Sl (Fr base 74 zBL) 10 w un N)/\Capd ur R.length/\Capd un N.length
def StP (base:Nat) (R:List Issue) (N:List Note) (v:Value) (w:World) : Prop:=∃ y,v = .tuple #[y,.int .i64 0]/\StA base R N y w
theorem stA_stays (base:Nat) (R:List Issue) (N:List Note) : zED (StA base R N):=fun _ _ _ hb ⟨ur,un,e,h,h2⟩=>⟨ur,un,e,⟨zJ (zFG stays_issueN) hb h.1,zJ (zFG zAN) hb h.2⟩,h2⟩
theorem stP_stays (base:Nat) (R:List Issue) (N:List Note) : zED (StP base R N):=fun v w w' hb ⟨y,e,h⟩=>⟨y,e,stA_stays base R N y w w' hb h⟩
theorem rows_lay {base B j:Nat} {w:World} {u ur un:Value} {cs:Array Value} {t:TypeId} {R:List Issue} {N:List Note} (L:Lay w B cs t) (ht:118≠t/\97≠t/\167≠t/\74≠t)
  (h:Sl (Fr base 118 (zGI base)) 5 w ur R/\Sl (Fr base 74 zBL) 10 w un N) : Sl (Fr base 118 (zGI base)) 5 (w.setCell ⟨B,j,none⟩ u) ur R/\Sl (Fr base 74 zBL) 10 (w.setCell ⟨B,j,none⟩ u) un N :=
 ⟨zIZ (same_lay L ht.1) (same_lay L ht.2.1) (same_lay L ht.2.2.1) h.1,zCH zGM (same_lay L ht.2.2.2) h.2⟩
structure SetAt (base gx:Nat) (w3 w5 wr:World) (s2 s3 s4 ur un:Value) (R:List Issue) (N:List Note) : Prop where
 box:BoxAt gx w3 wr #[ur,un,s2,s3,s4,.slice none 0 0] 32
 keep:zFL [3] w5 wr
 row:Sl (Fr base 118 (zGI base)) 5 wr ur R/\Sl (Fr base 74 zBL) 10 wr un N
 caps:Capd ur R.length/\Capd un N.length
theorem SetAt.ext {base gx:Nat} {w3 w5 wr wr':World} {s2 s3 s4 ur un:Value} {R:List Issue} {N:List Note} (h:SetAt base gx w3 w5 wr s2 s3 s4 ur un R N) (hb:Below wr.heap.size wr wr') : SetAt base gx w3 w5 wr' s2 s3 s4 ur un R N :=
 ⟨h.box.ext hb,h.keep.trans (zBM hb),⟨zJ (zFG stays_issueN) hb h.row.1,zJ (zFG zAN) hb h.row.2⟩,h.caps⟩
theorem SetAt.put {base gx:Nat} {w3 w5 wr:World} {s2 s3 s4 ur un ur' un':Value} {R:List Issue} {N N':List Note} (h:SetAt base gx w3 w5 wr s2 s3 s4 ur un R N)
  (hr:Sl (Fr base 118 (zGI base)) 5 wr ur' R/\Sl (Fr base 74 zBL) 10 wr un' N') (hc:Capd ur' R.length/\Capd un' N'.length) :
  SetAt base gx w3 w5 ((wr.setCell ⟨gx,0,none⟩ ur').setCell ⟨gx,1,none⟩ un') s2 s3 s4 ur' un' R N':=by
 have L0:=h.box.box;have L1:=lay_set L0 0 ur';exact ⟨⟨zI (Nat.le_refl _) (zI (Nat.le_refl _) h.box.below),lay_set L1 1 un'⟩,(h.keep.trans (keepT_set L0 (by decide))).trans (keepT_set L1 (by decide)),
  rows_lay L1 (by decide) (rows_lay L0 (by decide) hr),hc⟩
theorem SetAt.arg {base gx:Nat} {w3 w5 wr:World} {s2 s3 s4 ur un:Value} {R:List Issue} {N:List Note} (h:SetAt base gx w3 w5 wr s2 s3 s4 ur un R N) (hl:Looks wr) : NoteArg wr ur un R N :=
 ⟨⟨sl_map (fun _ _ _ g=>issueN_issue g.1) h.row.1,h.caps.1,hl⟩,zLL h.row.2,h.caps.2⟩
theorem builtN_fill {base g:Nat} (hg:g < base) {vr vn vm vh vs:Value} {b:Built} : ∀ (l:List Value) (j:Nat) (w:World),BuiltN base w vr vn vm vh vs b->BuiltN base (fillW w g j l) vr vn vm vh vs b
 | [],_,_,h=>h
 | _ :: l,j,_,h=>builtN_fill hg l (j+1) _ (h.set hg)
theorem own_fill {base g:Nat} (hg:g < base) {e:TypeId} {sz n:Nat} {v:Value} {cs:List Value} : ∀ (l:List Value) (j:Nat) (w:World),w.ownsRow base e sz v n cs->(fillW w g j l).ownsRow base e sz v n cs
 | [],_,_,h=>h
 | _ :: l,j,_,h=>own_fill hg l (j+1) _ (own_set h hg)
structure HpAt (n2:Nat) (w2 w6 wr:World) (uh uc:Value) (X:List Heap) (C:List Int) : Prop where
 below:Below n2 w2 wr
 keep:∀ e,e≠42->zBZ 0 e w6 wr
 size:w6.heap.size<=wr.heap.size
 hs:Sl (Fr n2 42 zDO) 4 wr uh X
 own:wr.ownsRow w6.heap.size 3 1 uc C.length (C.map (Value.int .i64))
theorem HpAt.ext {n2:Nat} {w2 w6 wr wr':World} {uh uc:Value} {X:List Heap} {C:List Int} (h:HpAt n2 w2 w6 wr uh uc X C) (h2:n2<=w6.heap.size) (hb:Below wr.heap.size wr wr') : HpAt n2 w2 w6 wr' uh uc X C :=
 ⟨h.below.trans (hb.mono (Nat.le_trans h2 h.size)),fun e he=>(h.keep e he).trans (same_below hb),Nat.le_trans h.size hb.size,zJ (zFG zCU) hb h.hs,zAC hb h.own⟩
theorem HpAt.put {n2 bh oh c k n:Nat} {w2 w6 wr:World} {uc:Value} {X:List Heap} {C:List Int} {v:Int} (hn:X.length=n) (h:HpAt n2 w2 w6 wr (.slice (some ⟨bh,oh,none⟩) n c) uc X C) (hk:k < X.length) (hz:I64 v) (hl:bh < w6.heap.size) :
  HpAt n2 w2 w6 ((wr.setCell ⟨bh,oh+k*4+2,none⟩ (.int .i64 v)).setCell ⟨bh,oh+k*4+3,none⟩ (.int .i64 v)) (.slice (some ⟨bh,oh,none⟩) n c) uc (X.set k { X[k] with lo:=v,hi:=v }) C:=by
 subst hn;obtain ⟨b',o',e,_,hb,cur,hcur⟩:=(zY h.hs).2 k hk;cases e;have L1:=lay_set (t:=42) (show Lay wr bh cur 42 from hcur) (oh+k*4+2) (.int .i64 v);exact ⟨zI hb (zI hb h.below),fun e he=>((h.keep e he).trans (same_set_type hcur he)).trans (same_set_type L1 he),by simpa using h.size,heap_put h.hs hk hz,own_set (own_set h.own hl) hl⟩
theorem HpAt.add {n2:Nat} {w2 w6 wr w':World} {uh uc v':Value} {X:List Heap} {C:List Int} {v:Int} (h:HpAt n2 w2 w6 wr uh uc X C) (h2:n2<=w6.heap.size) (hg:wr.grownBy w' uc.ownBlock) (ho:w'.ownsRow w6.heap.size 3 1 v' (C.length+1) (C.map (Value.int .i64)++[.int .i64 v])) :
  HpAt n2 w2 w6 w' uh v' X (C++[v]) :=
 ⟨h.below.grown hg (Nat.le_trans h2 h.size) (fun r e=>Nat.le_trans h2 (h.own.lt r e).1),
  fun e he k cur hk hc=>(hg.block k (Array.getElem?_eq_some_iff.1 (h.keep e he k cur hk hc)).1 (fun e=>by have:=(h.own.lt k e.symm).1;have:=(Array.getElem?_eq_some_iff.1 hc).1;omega)).trans (h.keep e he k cur hk hc),
  Nat.le_trans h.size hg.size,zCH zEF (same_grown hg h.own (by decide)) h.hs,by rw [List.length_append,List.map_append];exact ho⟩
theorem exact_law (w:World) (vr vn vm vh vs vl:Value) (b:Built) (x:Int) (by_:List Int) (hB:BuiltAt w vr vn vm vh vs b) (hT:Tables w) (hY:Tiny b) (hv:zF b=0) (hx:U8 x) (hl:Sl AtU32 1 w vl by_) :
  Calls prog 28 #[.agg #[vr,vn,.int .i64 b.of,vm,vh,vs],.int .u8 x,vl] w fun e w'=>∃ ur un um uh uc Z C,e = .returned (.tuple #[.agg #[ur,un,.int .i64 b.of,um,uh,.slice none 0 0],uc,.bool true]) /\
   BuiltArg w' ur un um uh (.slice none 0 0) (exactB b Z C)/\Sl zAM 1 w' uc C/\CntAt b C/\Below w.heap.size w w':=by
 obtain ⟨i0,hif,iz0,iz1,iz2⟩:=info_parts zFY;obtain ⟨al,cl,rfl,_⟩:=zD hl;have S:=((Sta.of (((tables_ever hT).and (fun _ k=>zJ stays_u32 k hl)).and (fun _ k=>hB.ext k))).new #[vr,vn,.int .i64 b.of,vm,vh,vs] 32).new #[.slice none 0 0,.slice none 0 0,.int .i64 0,.slice none 0 0,.slice none 0 0,.slice none 0 0] 32;rw [World.size_alloc] at S;have HCI:=zE (fun i=>chL_in hl i);have HV:=zE (And.intro hY hv);have HNO:=zE (zBJ (zS hv).1).2;obtain ⟨an0,cn0,rfl,_⟩:=zD hB.notes;have HG:=zE hT;clear hB hT hl hv hY;obtain ⟨l0,⟨q0,q1,q2,q3,q4,q5⟩,-⟩:=(S.get 1 rfl).q6;go_enter func28,ntmps28;go_wp2_with fail;clear q0 q1 q2 q3 q4 q5 l0;generalize hg0:w.heap.size=g0 at *;generalize (w.alloc _).alloc _=w2 at *;have hlt0:=(S.get 0 rfl).lt;generalize hn2:w2.heap.size=n2 at *;have HS2:=zE S;refine (twin08 _ _ _ _ _ _ b S.now.1 HV.out.1).mono ?_;rintro e w3 ⟨ur,un,um,uh,us,rfl,hN,-,h,k1,k2,k3⟩;rw [hn2] at hN;obtain ⟨ar,cr,rfl,_⟩:=zD hN.reg;obtain ⟨an,cn,rfl,_⟩:=zD hN.notes;obtain ⟨am,cm,rfl,_⟩:=zD hN.ms;obtain ⟨ah,ch,rfl,_⟩:=zD hN.hs;obtain ⟨a5,c5,rfl,_⟩:=zD hN.rs;replace S:=S.ext h;have HB3:Hid (Below n2 w2 w3):=hn2 ▸ h;obtain ⟨l0,⟨q0,q1,q2,q3,q4,q5⟩,-⟩:=(S.get 1 rfl).q6;have HN:=zE hN;have HK:=zE (And.intro k1 (And.intro k2 k3));clear hN h k1 k2 k3;go_wp2_with fail;clear q0 q1 q2 q3 q4 q5 l0;have HW:Hid (SetAt n2 w3.heap.size w3 (w3.alloc (.cells #[.slice ar b.ns.reg.length cr,.slice an b.ns.notes.length cn,.int .i64 b.of,.slice am b.ms.length cm,.slice ah b.hs.length ch,.slice none 0 0] 32)) (w3.alloc (.cells #[.slice ar b.ns.reg.length cr,.slice an b.ns.notes.length cn,.int .i64 b.of,.slice am b.ms.length cm,.slice ah b.hs.length ch,.slice none 0 0] 32)) (.int .i64 b.of) (.slice am b.ms.length cm) (.slice ah b.hs.length ch) (.slice ar b.ns.reg.length cr) (.slice an b.ns.notes.length cn) b.ns.reg b.ns.notes) :=
  ⟨⟨zB _ _,Lay.new _ _ _⟩,keepT_refl _ _,⟨zJ (zFG stays_issueN) (zB _ _) HN.out.reg,zJ (zFG zAN) (zB _ _) HN.out.notes⟩,HK.out.1,HK.out.2.1⟩
 have HS:=zE S;replace S:=S.ext HW.out.box.below;generalize hgx:w3.heap.size=gx at *;generalize w3.alloc _=w4 at *;refine (truths03 _ _ _ b.ns.notes S.now.1.notes (by have:=HNO.out.1;omega) (notes_distinct HNO.out) (fun L h=>openIx_len5 HNO.out h)).mono ?_;rintro e w5 ⟨u,O,rfl,hO,hOm,hO5,⟨base,cs,hown,hri⟩,h⟩;have hw5:=HW.out.ext h;have HW5:Hid (SetAt n2 gx w3 w5 w5 _ _ _ _ _ _ _):=⟨hw5.box,keepT_refl _ _,hw5.row,hw5.caps⟩;have hlen:0 < (refT O).length:=by rw [refT_len];exact Nat.pow_pos (by decide)
 clear S h hO hOm hO5 HW hw5;obtain ⟨gt,ct,rfl,_⟩:=zIQ hown hlen;have hk:x.toNat % (refT O).length < (refT O).length:=Nat.mod_lt _ hlen;have hke:=tmod_is (n:=x) hx.1 hlen;obtain ⟨vz,hcz,hz⟩:=rowInts_pick hri hk;have c0:=hown.cells (g:=gt) rfl _ _ hcz;rw [zAZ] at c0;generalize (refT O)[x.toNat % (refT O).length]=Z at *;generalize x.toNat % (refT O).length=i at *;obtain ⟨az,cz,rfl,_⟩:=zD hz.now;have HZ:=zE hz;have hil:(i:Int) < (refT O).length:=by omega
 have hx1:=hx.1;have hx2:=hx.2;obtain ⟨w1,w2'⟩:=wrap2 x (by omega);clear hown hri hcz hz hx hk;generalize (refT O).length=nT at *;have S:=HS.out.ext (by rw [hgx];exact HW5.out.box.below);obtain ⟨lx,⟨q0,q1,q2,q3,q4,q5⟩,-⟩:=(S.get 1 rfl).q6;have h12:b.ns.notes.length<=12:=HNO.out.1;go_wp2;clear c0 hke hil hlen hx1 hx2 w1 w2' q0 q1 q2 q3 q4 q5 lx S;go_loopw [37] (fun q wr=>∃ (k:Nat) (a1 a2:Value),q = .int .i64 k/\k<=b.ns.notes.length/\Hid (SetAt n2 gx w3 w5 wr (.int .i64 b.of) (.slice am b.ms.length cm) (.slice ah b.hs.length ch) a1 a2 b.ns.reg (setTo b.ns.notes Z k))) (fun q _=>b.ns.notes.length - (intOf q).toNat)
 case atStart=>exact ⟨0,_,_,rfl,by omega,by rw [setTo_zero];exact HW5⟩
 case round =>
  obtain ⟨k,a1,a2,rfl,hk,HW⟩:=hrel;have S:=HS.out.ext (by rw [hgx];exact HW.out.box.below);by_cases hlt:k < b.ns.notes.length
  case pos =>
   obtain ⟨bn,on,rfl,⟨n0,n1,n2',n3,n4,n5,n6,n7,n8,n9⟩,hnum⟩:=(zY S.now.1.notes).2 k hlt;have hput:=setTo_put HNO.out Z hlt;have hskip:=setTo_skip (N:=b.ns.notes) Z hlt;have hopen:=setTo_open (N:=b.ns.notes) Z hlt;generalize b.ns.notes[k]=y at *;unfold zK at n0 n1 n2' n3 n4 n5 n6 n7 n8 n9;have L1:=(HeldB.nil wr).new #[.int .i64 y.num,.int .i64 y.day,.int .u8 y.sg,.int .i64 y.d,.int .i64 y.l,.int .i64 y.fr,.int .i64 y.to,.int .i64 y.ca,.bool y.use,.int .u8 y.ways] 74;have HL1:=zE (L1.get 0 rfl);have HW1:=zE (HW.out.ext L1.below);replace S:=S.ext L1.below;have HNU:=zE hnum.1;clear L1 HW hnum;have m0:=HL1.out.cell 0 _ rfl;have m2:=HL1.out.cell 2 _ rfl;have ml:=HL1.out.lt;by_cases hs:y.sg=1
   case neg =>
    have hsk:=hskip hs;have HSK:=zE hsk;have hs':(y.sg != 1)=true:=by simpa using hs
    clear hs S hput hskip hopen hsk;go_wp2;exact ⟨⟨k+1,a1,a2,by go_num,by omega,by rw [HSK.out];exact HW1⟩,by simp [intOf];omega⟩
   case pos =>
    have HPUT:=zE (hput hs);have HOPEN:=zE (hopen hs);have hs':(y.sg != 1)=false:=by simpa using hs
    obtain ⟨s,hsm⟩ : ∃ s:Bool,s=decide (y.num∈Z):=⟨_,rfl⟩;have hdec:decide (zKD Z y.num ≥ 0)=s:=by
     rw [hsm];by_cases h:y.num∈Z
     ·simpa [h] using idxI_in Z y.num h
     ·have:=idxI_out Z y.num h;simp only [h,decide_false,decide_eq_false_iff_not];omega
    have HSM:Hid ((if s=true then (2:Int) else 0)=if y.num∈Z then 2 else 0):=by rw [hsm];unfold Hid;simp
    have HDEC:=zE hdec;have HLK:=zE (And.intro S.now.2.2.1 S.now.2.2.2.1);have hzz:=HZ.out _ HW1.out.keep;have HZZ:=zE hzz;clear hs hput hskip hopen hsm hdec hzz S;go_upto_region 9 with fail
    have j0:=zH (show zK _ _ 0 (.int .i64 y.num) from HL1.out.cell 0 _ rfl);clear n0 n1 n2' n3 n4 n5 n6 n7 n8 n9 m0 m2 ml;generalize wr.heap.size=gy at *;generalize wr.alloc _=wA at *;obtain ⟨k0,k1,k2,k3,k4,k5⟩:=HW1.out.box.box.l6;have HCALL:=zE (fun xq=>(index02 (wA.later xq) _ Z y.num (zJ zN (zG wA xq) HZZ.out)).mono (R':=fun e w'=>e = .returned (.int .i64 (zKD Z y.num))/\Below (wA.later xq).heap.size (wA.later xq) w') (fun e w' h=>⟨h.1,by rw [<- h.2];exact br_⟩));have hn2A:n2<=wA.heap.size:=by have:=HB3.out.size;have:=HW1.out.box.box.lt;omega
    have HN2A:=zE hn2A;generalize hidx:zKD Z y.num=q at *;have hdec:=HDEC.out;clear HDEC;refine wp_region_growD 14 12 (by kernel_rfl) (by kernel_rfl) rfl rfl (fun v=>v = .int .i64 0) ?_;simp only [tk_];iterate 7 (apply fx_ 114 (by kernel_rfl) rfl;focus (intro rq vs xq hr hc hf hd;(try simp [hq_] at hd);go_simp;exact ⟨br_,rfl⟩))
    apply fx_ 114 (by kernel_rfl) rfl;focus (intro rq vs xq hr hc hf hd;(try simp [hq_] at hd);go_simp;refine (HCALL.out xq).mono ?_;rintro e w9 ⟨rfl,hb9⟩;exact ⟨rfl,hb9⟩)
    refine fs_ 114 (by kernel_rfl) rfl (fun v _=>v = .bool s) (fun v w w' hb h=>h) ?_ ?_
    ·intro rq vs xq hr hc hf hd
     (try simp [hq_] at hd)
     go_simp;exact br_
    refine fs_ 114 (by kernel_rfl) rfl (StP n2 b.ns.reg (setTo b.ns.notes Z (k+1))) (stP_stays _ _ _) ?_ ?_
    ·intro rq vs xq hr hc hf hd
     (try simp [hq_] at hd)
     go_simp;have hA:=(HW1.out.ext (zG wA xq));refine (settle_note (wA.later xq) a1 a2 b.ns.reg (setTo b.ns.notes Z k) y.num s (hA.arg (HLK.out.1.ext (zG wA xq))) (HLK.out.2.ext (zG wA xq)) (setTo_code (zS HV.out.2).1 Z k) HOPEN.out HNU.out).mono ?_;rintro e w9 ⟨ur,un,rfl,h1,h2,hb,c1,c2⟩;have hz:=(zG wA xq).size;rw [HSM.out,HPUT.out] at h2;exact ⟨_,rfl,hb,_,rfl,ur,un,rfl,⟨issueN_weak (Nat.le_trans HN2A.out hz) h1,zOV (Nat.le_trans HN2A.out hz) h2⟩,c1,by rw [setTo_len] at c2 ⊢;exact c2⟩
    refine fs_ 114 (by kernel_rfl) rfl (StP n2 b.ns.reg (setTo b.ns.notes Z (k+1))) (stP_stays _ _ _) ?_ ?_
    ·intro rq vs xq hr hc hf hd
     (try simp [hq_] at hd)
     go_simp;exact br_
    refine fs_ 114 (by kernel_rfl) rfl (StA n2 b.ns.reg (setTo b.ns.notes Z (k+1))) (stA_stays _ _ _) ?_ ?_
    ·intro rq vs xq hr hc hf hd
     (try simp [hq_] at hd)
     obtain ⟨p,e,hp⟩:=hd;go_simp;exact br_
    refine fs_ 114 (by kernel_rfl) rfl (fun v _=>v = .int .i64 0) (fun v w w' hb h=>h) ?_ ?_
    ·intro rq vs xq hr hc hf hd
     (try simp [hq_] at hd)
     obtain ⟨p,e,hp⟩:=hd;go_simp;exact br_
    refine fs_ 114 (by kernel_rfl) rfl (NewBx wA.heap.size #[.slice none 0 0,.slice none 0 0] 27) (zFE _ _ _) ?_ ?_
    ·intro rq vs xq hr hc hf hd
     (try simp [hq_] at hd)
     go_simp;exact ⟨zB _ _,_,rfl,(zG wA xq).size,Lay.new _ _ _⟩
    refine ⟨fun v w h=>h,fun vs w8 w9 hd=>?_,fun vs w8 hb8 hf=>?_⟩
    ·(try simp [hq_] at hd)
     obtain ⟨p,e,hp⟩:=hd;refine ⟨.int .i64 0,?_,rfl⟩;simp only [pf_];rw [e];go_simp
    ·have h11:=hf 11 (by decide) (by decide)
     have h13:=hf 13 (by decide) (by decide);simp [zAI] at h11 h13;clear hf;obtain ⟨ur,un,e11,⟨hr,hn⟩,hcr,hcn⟩:=h11;obtain ⟨gb,e13,hgb,hLb⟩:=h13;obtain ⟨lb,⟨q0,q1⟩,f0,f1⟩:=hLb.q2;obtain ⟨aur,nur,cur,rfl⟩:=anySl_of hr;obtain ⟨aun,nun,cun,rfl⟩:=anySl_of hn;simp only [pf_];rw [e11,e13];go_simp
     (try simp only [List.drop_succ_cons,List.drop_zero])
     have hL1:=zCF hLb 0 (.slice aur nur cur);have HL9:=zE (zCF hL1 1 (.slice aun nun cun));have HR:=zE (rows_lay (j:=1) (u:=.slice aun nun cun) hL1 (by decide) (rows_lay (j:=0) (u:=.slice aur nur cur) hLb (by decide) ⟨hr,hn⟩));have HW2:=zE (HW1.out.ext (zI (j:=1) (u:=.slice aun nun cun) hgb (zI (j:=0) (u:=.slice aur nur cur) hgb hb8)));have HCC:=zE (And.intro hcr hcn);clear hL1 hLb hr hn hcr hcn hb8 q0 q1 f0 f1 lb e11 e13 k0 k1 k2 k3 k4 k5 j0 HCALL HW1;generalize (w8.setCell _ _).setCell _ _=w9 at *;have HL:Hid (Lay w9 gb #[.slice aur nur cur,.slice aun nun cun] 27):=HL9.out;obtain ⟨lx,⟨p0,p1,p2,p3,p4,p5⟩,f0,f1,-⟩:=HW2.out.box.box.q6;obtain ⟨lb,⟨q0,q1⟩,-⟩:=HL.out.q2;have HF:=zE (HW2.out.put HR.out HCC.out);go_wp2;exact ⟨⟨k+1,_,_,by go_num,by omega,HF⟩,by simp [intOf];omega⟩
  case neg =>
   obtain rfl:k=b.ns.notes.length:=by omega
   obtain ⟨aa1,nn1,ca1,rfl⟩:=anySl_of HW.out.row.1;obtain ⟨aa2,nn2,ca2,rfl⟩:=anySl_of HW.out.row.2;have hbe:Below w3.heap.size w3 wr:=by rw [hgx];exact HW.out.box.below
   have hsz3:=HB3.out.size;have H0:Hid (HpAt n2 w2 wr wr (.slice ah b.hs.length ch) (.slice none 0 0) (cutTo b.hs [] 0) []):=⟨HB3.out.trans (HW.out.box.below.mono (by omega)),fun _ _ _ _ _ h=>h,Nat.le_refl _,by rw [cutTo_zero];exact zJ (zFG zCU) hbe HN.out.hs,World.ownsRow_nil _ _ _ _⟩;have HM:=zE (zJ (zFG zN) hbe HN.out.ms);have H6:=zE (zJ (zFG zCU) hbe HN.out.hs);have HR:=zE HW.out.row;have HCR:=zE HW.out.caps;have HBX:=zE HW.out.box.box;have HGX:Hid (gx < wr.heap.size):=HW.out.box.box.lt;have h26:n2<=wr.heap.size:=by have:=HW.out.box.box.lt;omega
   have HOF:Hid (I64 b.of):=HN.out.of;have HN26:=zE h26;clear hbe HW HW5 HZ HS S HB3 hsz3 h26 HN;generalize wr=w6 at *;obtain ⟨lx,⟨p0,p1,p2,p3,p4,p5⟩,-⟩:=HBX.out.q6;have h4:b.hs.length<=4:=(zS HV.out.2).2.2.2.1;go_wp2;clear p0 p1 p2 p3 p4 p5 lx;go_loopw [16,66] (fun vc q wr=>∃ (k:Nat) (C:List Int),q = .int .i64 k/\k<=b.hs.length/\Hid (CntTo b k C)/\Hid (HpAt n2 w2 w6 wr (.slice ah b.hs.length ch) vc (cutTo b.hs C k) C)) (fun _ q _=>b.hs.length - (intOf q).toNat)
   case atStart=>exact ⟨0,[],rfl,by omega,⟨rfl,fun j h=>absurd h (by omega)⟩,H0⟩
   case round =>
    clear H0;obtain ⟨k,C,rfl,hk,HC,HP⟩:=hrel;by_cases hlt:k < b.hs.length
    case pos =>
     have SP:=HS2.out.ext (by rw [hn2];exact HP.out.below);have hkX:k < (cutTo b.hs C k).length:=by rw [cutTo_len];exact hlt
     have hX:=cutTo_at b.hs C k k hlt hkX;rw [if_neg (Nat.lt_irrefl k)] at hX;obtain ⟨bh,oh,rfl,⟨⟨c0,c1,c2,c3⟩,-⟩,hbb,cur,hcur⟩:=(zY HP.out.hs).2 k hkX;rw [hX] at c2 c3;have hvh:=zGO HV.out.2 hlt;have HPUT:Hid (∀ (q:k < (cutTo b.hs C k).length) v,(cutTo b.hs C k).set k { (cutTo b.hs C k)[k] with lo:=v,hi:=v } = cutTo b.hs (C++[v]) (k+1)):=fun q v=>(congrArg (fun h:Heap=>(cutTo b.hs C k).set k { h with lo:=v,hi:=v }) hX).trans (cutTo_put b.hs C hlt HC.out.len v)
     have HCP:=zE (fun v h1 h2=>HC.out.put hlt (v:=v) h1 h2);have hzc:=HCI.out k;have HCALL:=zE (fun xq=>chq_ SP.now.2.1 k (by omega) xq);obtain ⟨k0,k1,k2,k3,k4,k5⟩:=(show Lay wr gx _ _ from HP.out.keep _ (by decide) gx _ (Nat.zero_le _) HBX.out).l6;obtain ⟨lx,⟨p0,p1,p2,p3,p4,p5⟩,-⟩:=(show Lay wr gx _ _ from HP.out.keep _ (by decide) gx _ (Nat.zero_le _) HBX.out).q6;have HCL:Hid (C.length=k):=HC.out.len;have hk2:(k:Int) < b.hs.length:=by omega
     generalize hhk:b.hs[k]=h at *;have c2':=zH c2;have c3':=zH c3;have hfz:∀ j,wr.frozen? ⟨bh,j,none⟩=false:=fun j=>by unfold World.frozen?;rw [hcur];simp
     have hl6:bh < w6.heap.size:=by obtain ⟨b',o',e,-,-,cur0,hcur0⟩:=(zY H6.out).2 k hlt;cases e;exact (Array.getElem?_eq_some_iff.1 hcur0).1
     have HL6:=zE hl6;have HCUR:Hid (∃ cur,wr.heap[bh]? = some (.cells cur 42 (0,0))):=⟨cur,hcur⟩;clear SP hX c0 c1 c2 c3 hkX hl6 hcur;go_upto_region 19 with fail
     clear p0 p1 p2 p3 p4 p5 lx k0 k1 k2 k3 k4 k5;obtain ⟨hd,hle,hlo,hhi⟩:=h;simp only at *;generalize chL by_ k=z at *;have hr1:=Int.tmod_lt_of_pos z (show (0:Int) < hhi - hlo+1 by omega);have hr2:=Int.tmod_nonneg (hhi - hlo+1) hzc.1;have hrr:=HCP.out (hlo+z.tmod (hhi - hlo+1)) (by omega) (by omega);obtain ⟨v1,v3⟩:=wrap2 (hhi - hlo) (by omega);obtain ⟨v2,v4⟩:=wrap2 (hhi - hlo+1) (by omega);have v0:¬ (hhi - hlo+1=0):=by omega
     have v0':((hhi - hlo+1) == 0)=false:=by simpa using v0
     generalize hrg:z.tmod (hhi - hlo+1)=r at *;obtain ⟨v5,v6⟩:=wrap2 r (by omega);obtain ⟨v7,v8⟩:=wrap2 (hlo+r) (by omega);have HRR:=zE hrr;clear HCP hrr;refine zM 19 (by kernel_rfl) (by kernel_rfl) ?_;simp only [List.append_eq,List.cons_append,List.nil_append,List.take_succ_cons,List.take_zero];iterate 6 (apply fx_ 114 (by kernel_rfl) rfl;focus (intro rq vs xq hr hc hf hd;(try simp [hq_] at hd);go_simp;exact ⟨br_,rfl⟩))
     apply fx_ 114 (by kernel_rfl) rfl;focus (intro rq vs xq hr hc hf hd;(try simp [hq_] at hd);go_simp;refine (HCALL.out xq).mono ?_;rintro e w9 ⟨rfl,hb9⟩;exact ⟨rfl,hb9⟩)
     iterate 12 (apply fx_ 114 (by kernel_rfl) rfl;focus (intro rq vs xq hr hc hf hd;(try simp [hq_] at hd);go_simp;exact ⟨br_,rfl⟩))
     refine zQ (by simp only [List.length_append,List.length_cons,List.length_nil]) (fun vs xq hd=>?_);simp [zW,zAI,List.range,List.range.loop] at hd;simp only [pf_];obtain ⟨e0,e1,e2,e3,e4,e5,e6,e7,e8,e9,e10,e11,e12,e13,e14,e15,e16,e17,e18⟩:=hd;simp only [Nat.zero_add,Nat.reduceAdd] at e0 e1 e2 e3 e4 e5 e6 e7 e8 e9 e10 e11 e12 e13 e14 e15 e16 e17 e18 ⊢;simp only [e0,e1,e2,e3,e4,e5,e6,e7,e8,e9,e10,e11,e12,e13,e14,e15,e16,e17,e18];have HP1:=zE (HP.out.ext HN26.out (zG wr xq));have hfz1:=fun j=>(World.frozen?_of_block (a:=⟨bh,j,none⟩) ((zG wr xq).block bh (by have:=HP.out.size;have:=HL6.out;omega))).trans (hfz j)
     clear e0 e1 e2 e3 e4 e5 e6 e7 e8 e9 e10 e11 e12 e13 e14 e15 e16 e17 e18;have hz8:=hfz1 (oh+k*4+2);have d2:=c2' xq;have d3:=c3' xq;generalize wr.later xq=w8 at *;have h64:I64 (hlo+r):=by unfold I64;omega
     have hkX:k < (cutTo b.hs C k).length:=by rw [cutTo_len];exact hlt
     have hp2:=HP1.out.put (cutTo_len _ _ _) hkX h64 HL6.out;rw [HPUT.out hkX] at hp2;have HP2:=zE hp2;have g2:=cell_set_same (u:=.int .i64 (hlo+r)) (show zK w8 bh (oh+k*4+2) _ from d2);have g3:=cell_set_off (j:=oh+k*4+2) (u:=.int .i64 (hlo+r)) (show oh+k*4+3≠oh+k*4+2 by omega) (show zK w8 bh (oh+k*4+3) _ from d3);have G4:=zE (cell_set_off (j:=oh+k*4+3) (u:=.int .i64 (hlo+r)) (show oh+k*4+2≠oh+k*4+3 by omega) g2);have hz9:(w8.setCell ⟨bh,oh+k*4+2,none⟩ (.int .i64 (hlo+r))).frozen? ⟨bh,oh+k*4+3,none⟩=false:=by rw [World.frozen?_setCell];exact hfz1 _
     unfold zK at g2 g3;clear hp2 hkX HP1 HP hfz hfz1 HPUT c2' c3';go_upto_region 20 with fail
     clear d2 d3 hz8;generalize w8.setCell _ _=wA at *;go_upto_region 21 with fail
     clear g2 g3 hz9;generalize wA.setCell _ _=wB at *;have g4:=G4.out;unfold zK at g4;have hCl:C.length<=4:=by have:=HCL.out;omega
     have HP3:=zE (HP2.out.ext HN26.out (zB wB (.cells #[.int .i64 (hlo+r)] 3)));have HCN:=zE (cellsN_new wB [.int .i64 (hlo+r)] 3 _ rfl);clear HP2 G4;go_wp2_with (at_builtin;generalize wB.heap.size=g7 at *;generalize wB.alloc _=w7 at *;refine wpList_append_own _ rfl _ _ 28 rfl w6.heap.size 3 i0 (.int .i64 0) 1 8 underlying28 hif iz0 iz1 iz2 rfl (by decide) _ _ _ rfl HP3.out.own ⟨g7,0,none⟩ 1 1 [.int .i64 (hlo+r)] rfl rfl HCN.out (by simp [Value.oneCell']) (by unfold maxLen;omega) (by omega) HP3.out.size ?_;intro v' w9 hown' hgrow _);have HF:=zE (HP3.out.add HN26.out hgrow hown');clear hown' hgrow HP3 HCN;go_wp2;exact ⟨⟨k+1,C++[hlo+r],by go_num,by omega,HRR,HF⟩,by simp [intOf];omega⟩
    case neg =>
     obtain rfl:k=b.hs.length:=by omega
     have hC:=HC.out.all;have hHS:=HP.out.hs;rw [cutTo_all] at hHS;have hN:BuiltN n2 wr (.slice aa1 nn1 ca1) (.slice aa2 nn2 ca2) (.slice am b.ms.length cm) (.slice ah b.hs.length ch) (.slice none 0 0) (exactB b Z C) :=
      ⟨zIZ (fun k cur _ hc=>HP.out.keep _ (by decide) k cur (Nat.zero_le _) hc) (fun k cur _ hc=>HP.out.keep _ (by decide) k cur (Nat.zero_le _) hc) (fun k cur _ hc=>HP.out.keep _ (by decide) k cur (Nat.zero_le _) hc) HR.out.1,
       zCH zGM (fun k cur _ hc=>HP.out.keep _ (by decide) k cur (Nat.zero_le _) hc) HR.out.2,zCH zFP (fun k cur _ hc=>HP.out.keep _ (by decide) k cur (Nat.zero_le _) hc) HM.out,hHS,zIR _ _ _ _ _,HOF.out⟩
     have hX:=exact_of HV.out.2 hC Z;have HTY:Hid (Tiny (exactB b Z C)/\zF (exactB b Z C)=0):=⟨⟨⟨HV.out.1.1.1,by show (setTo b.ns.notes Z b.ns.notes.length).length<=16;rw [setTo_len];exact HV.out.1.1.2⟩,HV.out.1.2.1,by show (cutH b.hs C).length<=8;rw [cutH_len];exact HV.out.1.2.2.1,by show 0<=16;omega⟩,hX.valid⟩;have HRD:=zE (fun xq=>(ready_law (wr.later xq) _ _ _ _ _ (exactB b Z C) (hN.ext (zG wr xq)).at).mono (R':=fun e w'=>e = .returned (.bool true)/\Below (wr.later xq).heap.size (wr.later xq) w') fun e w' hr=>by
       rcases hr.both with ⟨_,rfl,h⟩ | ⟨hno,_,_⟩
       ·exact ⟨rfl,h⟩
       ·exact absurd HTY.out hno)
     have HNN:=zE hN;have HCC:=zE hC;obtain ⟨ac,cc,rfl⟩:=zDC HP.out.own;obtain ⟨k0,k1,k2,k3,k4,k5⟩:=(show Lay wr gx _ _ from HP.out.keep _ (by decide) gx _ (Nat.zero_le _) HBX.out).l6;clear hC hHS hN hX HC HM HR HTY;go_upto_region 23 with fail
     refine wp_region_growD 4 1 (by kernel_rfl) (by kernel_rfl) rfl rfl (fun v=>v = .slice ac C.length cc) ?_;simp only [tk_];apply fx_ 114 (by kernel_rfl) rfl;focus (intro rq vs xq hr hc hf hd;(try simp [hq_] at hd);go_simp;exact ⟨br_,rfl⟩)
     refine fs_ 114 (by kernel_rfl) rfl (fun v _=>v = .slice ac C.length cc) (fun v w w' hb h=>h) ?_ ?_
     ·intro rq vs xq hr hc hf hd
      (try simp [hq_] at hd)
      go_simp;exact br_
     apply fx_ 114 (by kernel_rfl) rfl;focus (intro rq vs xq hr hc hf hd;(try simp [hq_] at hd);go_simp;exact ⟨br_,rfl⟩)
     apply fx_ 114 (by kernel_rfl) rfl;focus (intro rq vs xq hr hc hf hd;(try simp [hq_] at hd);go_simp;refine (HRD.out xq).mono ?_;rintro e w9 ⟨rfl,hb9⟩;exact ⟨rfl,hb9⟩)
     refine ⟨fun v w h=>h,fun vs w8 w9 hd=>?_,fun vs w8 hb8 hf=>?_⟩
     ·refine ⟨.slice ac C.length cc,?_,rfl⟩;simp only [pf_];go_simp
     ·have h0:=hf 0 (by decide) (by decide)
      have h3:=hf 3 (by decide) (by decide);simp [zAI] at h0 h3;clear hf;have HP8:=zE (HP.out.ext HN26.out hb8);have HN8:=zE (HNN.out.ext hb8);have LR:=((HS2.out.ext (by rw [hn2];exact HP8.out.below)).get 0 rfl);have HB8:=zE (HS2.out.ext (by rw [hn2];exact HP8.out.below)).held.below;obtain ⟨lx,⟨p0,p1,p2,p3,p4,p5⟩,f0,f1,f2,f3,f4,f5⟩:=LR.q6;simp only [pf_];rw [h0,h3];go_simp
      (try simp only [List.drop_succ_cons,List.drop_zero])
      clear k0 k1 k2 k3 k4 k5 h0 h3 hb8 HP HNN HRD;go_wp2;generalize hW:(((((w8.setCell _ _).setCell _ _).setCell _ _).setCell _ _).setCell _ _).setCell _ _=wF;obtain ⟨lv,hlv⟩ : ∃ l:List Value,l=[.slice aa1 nn1 ca1,.slice aa2 nn2 ca2,.int .i64 b.of,.slice am b.ms.length cm,.slice ah b.hs.length ch,.slice none 0 0]:=⟨_,rfl⟩;have hF:fillW w8 (g0+1) 0 lv=wF:=by rw [hlv];exact hW
      obtain ⟨L9,h9',-⟩:=zIW LR lv (by rw [hlv];rfl) hF;have hN9:=builtN_fill (g:=g0+1) (by omega) lv 0 w8 HN8.out;have hO9:=own_fill (g:=g0+1) (by have:=HN26.out;omega) lv 0 w8 HP8.out.own;rw [hF] at hN9 hO9;rw [hlv] at L9;have hb9:Below w.heap.size w wF:=HB8.out.trans (h9' _ (by omega));have hG9:=tables_ever HG.out wF hb9;have hC9:=zBF hO9 (CntAt.i64 HV.out.2 HCC.out);obtain ⟨lz,⟨s0,s1,s2,s3,s4,s5⟩,-⟩:=L9.q6;refine bodyPost_ret (v:=.tuple #[.agg #[.slice aa1 nn1 ca1,.slice aa2 nn2 ca2,.int .i64 b.of,.slice am b.ms.length cm,.slice ah b.hs.length ch,.slice none 0 0],.slice ac C.length cc,.bool true]) (by simp [results,results28,go_sem,s0,s1,s2,s3,s4,s5,lz]) rfl ?_;exact ⟨_,_,_,_,_,Z,C,rfl,⟨⟨⟨hN9.at.reg,HCR.out.1,hG9.1⟩,hN9.at.notes,HCR.out.2⟩,hN9.at,by show Capd _ (cutH b.hs C).length;rw [cutH_len];exact HK.out.2.2,hG9.2.1⟩,hC9,HCC.out,hb9⟩
end
section
open Tryz
open Go.RowKit
theorem kind_same {R:List Issue} (h:∀ k,k < R.length->zHI R k) {i j:Nat} (hij:i<=j) (hj:j < R.length) (hd:R[i].d=R[j].d) : R[i].k=R[j].k:=by
 induction j with
 | zero=>obtain rfl:i=0:=by omega
         rfl
 | succ j ih =>
   by_cases e:i=j+1
   ·subst e;rfl
   ·have h1:=(h (j+1) hj hj).2 (by omega)
    simp only [Nat.add_sub_cancel] at h1;have h2:R[i].d<=R[j].d:=by
     by_cases e2:i=j
     ·subst e2;exact Int.le_refl _
     ·have:=refs_rise h i j (by omega) (by omega)
      rcases this with g | g
      ·exact Int.le_of_lt g
      ·exact Int.le_of_eq g.1
    rcases h1 with h1 | h1
    ·omega
    ·exact (ih (by omega) (by omega) (hd.trans h1.1.symm)).trans h1.2.2.symm
theorem part_kind {R:List Issue} (h:∀ k,k < R.length->zHI R k) {d l l':Int} (hp:zFO R d l) (hx:∃ x,zCQ R d l'=some x) : zFO R d l':=by
 obtain ⟨x,hx1,hx2⟩:=hp;obtain ⟨y,hy⟩:=hx;obtain ⟨i,hi,e1,d1,_⟩:=find_at hx1;obtain ⟨j,hj,e2,d2,_⟩:=find_at hy;refine ⟨y,hy,?_⟩;have:y.k=x.k:=by
  subst e1 e2;rcases Nat.le_total i j with g | g
  ·exact (kind_same h g hj (by omega)).symm
  ·exact kind_same h g hi (by omega)
 omega
theorem tot_flat0 {α:Type} (n:Int) (g:α->List (Int×Int)) : ∀ L:List α,(∀ y∈L,tot n (g y)=0)->tot n (L.flatMap g)=0
 | [],_=>rfl
 | y :: L,h=>by
   rw [List.flatMap_cons,zOK,h y (List.mem_cons_self ..),tot_flat0 n g L fun z hz=>h z (List.mem_cons_of_mem _ hz)];rfl
theorem tot_asm {R:List Issue} {lt:Int->Int} {n:Int} (h:∀ x,zCQ R n (lt n)=some x->x.k=1) : ∀ (f:Nat) (d m:Int),tot n (zFJ R lt f d m)=0:=by
 intro f;induction f with
 | zero=>intro d m;rfl
 | succ f ih =>
   intro d m;simp only [zFJ];cases e:zCQ R d (lt d) with
   | none=>rfl
   | some x =>
     simp only;rw [zOK,tot_flat0 n _ _ fun y _=>ih _ _];by_cases hk:x.k=1
     ·rw [if_pos hk];rfl
     ·rw [if_neg hk]
      have hd:d≠n:=by rintro rfl;exact hk (h x e)
      simp [tot,hd]
theorem cnt_asm {R:List Issue} {lt:Int->Int} {n:Int} (h:∀ x,zCQ R n (lt n)=some x->x.k=1) (d:Int) : zIE R lt d n=0:=tot_asm h _ _ _
def sumD:List Hold->Int->Int
 | [],_=>0
 | y :: L,d=>(if y.d=d then y.lo else 0)+sumD L d
theorem sumD_append (L M:List Hold) (d:Int) : sumD (L++M) d=sumD L d+sumD M d:=by
 induction L with
 | nil=>simp [sumD]
 | cons y L ih=>simp only [List.cons_append,sumD,ih];omega
theorem sumD_flat (g:Issue->List Hold) (d:Int) (f:Issue->Int) : ∀ R:List Issue,(∀ y∈R,sumD (g y) d=f y)->sumD (R.flatMap g) d=(R.map f).foldr (· + ·) 0
 | [],_=>rfl
 | y :: R,h=>by
   rw [List.flatMap_cons,sumD_append,h y (List.mem_cons_self ..),sumD_flat g d f R fun z hz=>h z (List.mem_cons_of_mem _ hz)];rfl
theorem two_sum (x:Has) (o d:Int) : ∀ R:List Issue,R.Pairwise (fun a b=>¬ (a.d=b.d/\a.l=b.l)) ->
  (R.map fun y=>if y.d=d then zGH x y.l o else 0).foldr (· + ·) 0=(if ∃ y∈R,y.d=d/\y.l=x.l then x.c - o else 0)+(if ∃ y∈R,y.d=d/\y.l=x.l - 1 then o else 0)
 | [],_=>by simp
 | y :: R,h=>by
   obtain ⟨h1,h2⟩:=List.pairwise_cons.1 h;rw [List.map_cons,List.foldr_cons,two_sum x o d R h2];have e:∀ l:Int,(∃ z∈y :: R,z.d=d/\z.l=l)↔(y.d=d/\y.l=l)\/∃ z∈R,z.d=d/\z.l=l:=fun l=>by simp
   have n:∀ l:Int,(y.d=d/\y.l=l)->¬ ∃ z∈R,z.d=d/\z.l=l:=fun l ⟨a1,a2⟩ ⟨z,hz,b1,b2⟩=>h1 z hz ⟨a1.trans b1.symm,a2.trans b2.symm⟩
   have pos:∀ (l u:Int),(y.d=d/\y.l=l)->(if (∃ z∈y :: R,z.d=d/\z.l=l) then u else 0)=u/\(if (∃ z∈R,z.d=d/\z.l=l) then u else 0)=0:=fun l u h=>⟨if_pos ((e l).2 (.inl h)),if_neg (n l h)⟩
   have neg:∀ (l u:Int),¬ (y.d=d/\y.l=l)->(if (∃ z∈y :: R,z.d=d/\z.l=l) then u else 0)=(if (∃ z∈R,z.d=d/\z.l=l) then u else 0):=fun l u h=>by
    simp only [e,h,false_or]
   by_cases hd:y.d=d
   ·rw [if_pos hd]
    unfold zGH;by_cases a:y.l=x.l
    ·have h3:=pos x.l (x.c - o) ⟨hd,a⟩;rw [if_pos a,h3.1,h3.2,neg (x.l - 1) o (fun h=>by omega)];omega
    ·rw [if_neg a,neg x.l (x.c - o) (fun h=>a h.2)]
     by_cases c:y.l=x.l - 1
     ·have h3:=pos (x.l - 1) o ⟨hd,c⟩;rw [if_pos c,h3.1,h3.2];omega
     ·rw [if_neg c,neg (x.l - 1) o (fun h=>c h.2)];omega
   ·rw [if_neg hd,neg x.l _ (fun h=>hd h.1),neg (x.l - 1) _ (fun h=>hd h.1)];omega
theorem old_bd {b:Built} (hv:zF b=0) (S C:List Int) (m d:Int) : 0<=oldB b S C m d/\oldB b S C m d<=(zZ b S m d).c:=by
 have hc:=zJP hv S m d;unfold oldB oldC;split <;> omega
theorem held_nn {b:Built} (hv:zF b=0) (S C:List Int) (m d l:Int) : 0<=heldB b S C m d l:=by
 have h:=old_bd hv S C m d;unfold heldB zGH;split
 ·omega
 ·split <;> omega
theorem valid_kind {b:Built} (hv:zF b=0) {d l:Int} {x:Issue} (hx:zCQ b.ns.reg d l=some x) : In x.k 1 3:=by
 obtain ⟨k,hk,rfl,_,_⟩:=find_at hx;exact (((zAW (zBJ (zS hv).1).1).2.1 k hk).1 hk).1.2.2.1
theorem Exact.ask {x:Built} {C:List Int} (h:Exact x C) {m:Int} (hm:m∈x.ms) : zBK x m=0:=by
 unfold zBK;rw [if_neg (by simp [h.valid]),if_neg (fun h=>h hm),if_neg (by rw [h.leftX];simp)]
theorem Exact.span {x:Built} {C:List Int} (h:Exact x C) (m d l:Int) : zAU x (zAQ x) m d l=⟨heldB x [] C m d l,heldB x [] C m d l⟩:=by
 rw [h.leftX];unfold zAU;rw [List.flatMap_singleton,ends_two,h.held,h.held,span_two]
open Classical in
theorem Exact.hold {x:Built} {C:List Int} (h:Exact x C) (m:Int) (y:Issue) :
  zBQ x m y=if zFO x.ns.reg y.d y.l/\0 < heldB x [] C m y.d y.l then [⟨y.d,y.l,heldB x [] C m y.d y.l,heldB x [] C m y.d y.l⟩] else []:=by
 unfold zBQ;rw [h.span]
theorem sumD_zero {L:List Hold} {d:Int} (h:∀ y∈L,y.d≠d) : sumD L d=0:=by
 induction L with
 | nil=>rfl
 | cons y L ih =>
   show (if y.d=d then y.lo else 0)+sumD L d=0
   rw [if_neg (h y (List.mem_cons_self ..)),ih fun z hz=>h z (List.mem_cons_of_mem _ hz)];rfl
theorem reg_pair {R:List Issue} (h:∀ k,k < R.length->zHI R k) : R.Pairwise (fun a b=>a.d < b.d\/(a.d=b.d/\a.l < b.l)) :=
 List.pairwise_iff_getElem.2 fun i j _ hj hij=>refs_rise h i j hij hj
theorem Exact.sum {x:Built} {C:List Int} (h:Exact x C) {m:Int} (hm:m∈x.ms) {d:Int} (hd:d∈nums x.ns.reg) : sumD (zBA x m) d=(zZ x [] m d).c:=by
 have ho:=valid_ord h.valid;unfold zBA;rw [if_pos (h.ask hm)];obtain ⟨z,hz⟩:=zNM (zS h.valid).1 [] m d hd;have hz':zCQ x.ns.reg d (zZ x [] m d).l=some z:=hz;by_cases hp:∃ l,zFO x.ns.reg d l
 ·obtain ⟨l0,hp⟩:=hp
  have hmem:∀ {l:Int} {y:Issue},zCQ x.ns.reg d l=some y->∃ y∈x.ns.reg,y.d=d/\y.l=l:=fun hy=>by
   obtain ⟨k,hk,e,e1,e2⟩:=find_at hy;exact ⟨x.ns.reg[k],List.getElem_mem hk,by rw [e];exact e1,by rw [e];exact e2⟩
  rw [sumD_flat _ d (fun y=>if y.d=d then zGH (zZ x [] m d) y.l (oldB x [] C m d) else 0) x.ns.reg ?_,two_sum _ _ _ _ ((reg_pair ho).imp fun h1 h2=>by omega),if_pos (hmem hz')]
  ·by_cases h0:oldB x [] C m d=0
   ·rw [h0];simp
   ·have hh:¬ (zZ x [] m d).h < 0:=fun hn=>h0 (by unfold oldB;rw [if_pos hn])
    obtain ⟨hk,h1,h2⟩:=hasOf_d (b:=x) (S:=[]) (m:=m) (d:=d) (k:=(zZ x [] m d).h.toNat) (by omega);have hH:=((zS h.valid).2.2.2.2.2.2.1 _ hk hk).1;obtain ⟨y,hy,_⟩:=hH;rw [h1,h2] at hy;rw [if_pos (hmem hy)];omega
  ·intro y hy
   obtain ⟨k,hk,rfl⟩:=List.getElem_of_mem hy;rw [h.hold];have hn:=held_nn h.valid [] C m x.ns.reg[k].d x.ns.reg[k].l;by_cases e:x.ns.reg[k].d=d
   ·have hP:zFO x.ns.reg x.ns.reg[k].d x.ns.reg[k].l:=part_kind ho (l:=l0) (by rw [e];exact hp) ⟨_,find_self ho hk⟩
    have e2:zGH (zZ x [] m d) x.ns.reg[k].l (oldB x [] C m d)=heldB x [] C m x.ns.reg[k].d x.ns.reg[k].l:=by rw [e];rfl
    rw [if_pos e,e2];by_cases h1:0 < heldB x [] C m x.ns.reg[k].d x.ns.reg[k].l
    ·rw [if_pos ⟨hP,h1⟩];simp [sumD,e]
    ·rw [if_neg (fun h=>h1 h.2)]
     show (0:Int)=_
     omega
   ·rw [if_neg e]
    apply sumD_zero;intro u hu;split at hu
    ·simp at hu;subst hu;exact e
    ·cases hu
 ·have hk:z.k=1:=by
   have h1:=valid_kind h.valid hz;have h2:¬ 1 < z.k:=fun g=>hp ⟨_,z,hz,g⟩
   unfold In at h1;omega
  have hc:(zZ x [] m d).c=0:=cnt_asm (fun y hy=>by rw [hz] at hy;cases hy;exact hk) _;rw [hc];apply sumD_zero;intro u hu;obtain ⟨y,hy,hu⟩:=List.mem_flatMap.1 hu;unfold zBQ at hu;split at hu
  ·rename_i hP;simp at hu;subst hu;rintro rfl;exact hp ⟨_,hP.1⟩
  ·cases hu
theorem Exact.parts_mem {x:Built} {C:List Int} (h:Exact x C) {m:Int} (hm:m∈x.ms) (u:Hold) :
  u∈zBA x m↔∃ k,∃ hk:k < x.ns.reg.length,1 < x.ns.reg[k].k/\0 < heldB x [] C m x.ns.reg[k].d x.ns.reg[k].l/\u=⟨x.ns.reg[k].d,x.ns.reg[k].l,heldB x [] C m x.ns.reg[k].d x.ns.reg[k].l,heldB x [] C m x.ns.reg[k].d x.ns.reg[k].l⟩:=by
 have ho:=valid_ord h.valid;unfold zBA;rw [if_pos (h.ask hm),List.mem_flatMap];constructor
 ·rintro ⟨y,hy,hu⟩
  obtain ⟨k,hk,rfl⟩:=List.getElem_of_mem hy;rw [h.hold] at hu;split at hu
  ·rename_i hP;exact ⟨k,hk,(part_at ho hk).1 hP.1,hP.2,by simpa using hu⟩
  ·cases hu
 ·rintro ⟨k,hk,h1,h2,rfl⟩;refine ⟨_,List.getElem_mem hk,?_⟩;rw [h.hold,if_pos ⟨(part_at ho hk).2 h1,h2⟩];exact List.mem_singleton.2 rfl
theorem Exact.parts_ok {x:Built} {C:List Int} (h:Exact x C) {m:Int} (hm:m∈x.ms) {u:Hold} (hu:u∈zBA x m) : u.lo=u.hi/\1<=u.lo/\u.d∈nums x.ns.reg:=by
 obtain ⟨k,hk,_,h2,rfl⟩:=(h.parts_mem hm u).1 hu;exact ⟨rfl,h2,zOE _ (valid_ord h.valid) k hk⟩
theorem Exact.parts_rise {x:Built} {C:List Int} (h:Exact x C) {m:Int} (hm:m∈x.ms) : (zBA x m).Pairwise (fun a b=>a.d < b.d\/(a.d=b.d/\a.l < b.l)):=by
 unfold zBA;rw [if_pos (h.ask hm),List.pairwise_flatMap];refine ⟨fun y _=>?_,(reg_pair (valid_ord h.valid)).imp fun hab=>?_⟩
 ·unfold zBQ
  split
  ·exact List.pairwise_singleton _ _
  ·exact .nil
 ·intro u hu v hv
  unfold zBQ at hu hv;split at hu
  ·split at hv
   ·simp at hu hv;subst hu hv;exact hab
   ·cases hv
  ·cases hu
theorem rise_ext:∀ {L M:List Hold},L.Pairwise (fun a b=>a.d < b.d)->M.Pairwise (fun a b=>a.d < b.d)->(∀ y,y∈L↔y∈M)->L=M
 | [],[],_,_,_=>rfl
 | [],y :: M,_,_,h=>absurd ((h y).2 (List.mem_cons_self ..)) (by simp)
 | x :: L,[],_,_,h=>absurd ((h x).1 (List.mem_cons_self ..)) (by simp)
 | x :: L,y :: M,hL,hM,h=>by
   obtain ⟨l1,l2⟩:=List.pairwise_cons.1 hL;obtain ⟨m1,m2⟩:=List.pairwise_cons.1 hM;have hxy:x=y:=by
    rcases List.mem_cons.1 ((h x).1 (List.mem_cons_self ..)) with e | e
    ·exact e
    ·rcases List.mem_cons.1 ((h y).2 (List.mem_cons_self ..)) with e2 | e2
     ·exact e2.symm
     ·have a:=m1 x e;have c:=l1 y e2;omega
   subst hxy;rw [rise_ext l2 m2 fun z=>?_];constructor
   ·intro hz
    rcases List.mem_cons.1 ((h z).1 (List.mem_cons_of_mem _ hz)) with e | e
    ·subst e;have:=l1 z hz;omega
    ·exact e
   ·intro hz
    rcases List.mem_cons.1 ((h z).2 (List.mem_cons_of_mem _ hz)) with e | e
    ·subst e;have:=m1 z hz;omega
    ·exact e
def Built.heapless (b:Built) : Built:={ b with hs:=[] }
theorem Exact.heapless {x:Built} {C:List Int} (h:Exact x C) : Exact x.heapless []:=by
 obtain ⟨h1,h2,h3,h4,h5,h6,h7,h8⟩:=zS h.valid;have hB:zCA x.heapless:=⟨h2,h3,by show 0<=4;omega,h5,h6,(fun i hi=>absurd hi (Nat.not_lt_zero i)),h8⟩;refine ⟨?_,h.shut,h.rs,rfl,fun k hk=>absurd hk (Nat.not_lt_zero k)⟩;unfold zF;rw [if_neg (by show ¬ zP x.ns.reg x.ns.notes≠0;simp [h1]),if_pos hB]
theorem pieces_rise {R:List Issue} (ho:∀ k,k < R.length->zHI R k) (lt:Int->Int) (d:Int) : (zIL R lt d).Pairwise (fun a b=>a.d < b.d):=by
 unfold zIL zEP;rw [List.take_length,List.pairwise_filterMap];refine (nums_sorted _ ho).imp fun {a b} hab u hu v hv=>?_
 split at hu
 ·split at hv
  ·simp at hu hv;subst hu hv;exact hab
  ·cases hv
 ·cases hu
theorem pieces_mem {R:List Issue} {lt:Int->Int} {d:Int} (p:Item) : p∈zIL R lt d↔p.d∈nums R/\0 < zIE R lt d p.d/\p.c=zIE R lt d p.d:=by
 unfold zIL zEP;rw [List.take_length,List.mem_filterMap];constructor
 ·rintro ⟨n,hn,h⟩
  split at h
  ·rename_i h0;simp at h;subst h;exact ⟨hn,h0,rfl⟩
  ·cases h
 ·rintro ⟨h1,h2,h3⟩;refine ⟨p.d,h1,?_⟩;rw [if_pos h2,<- h3]
theorem Exact.own {x:Built} (h:Exact x []) (hs:x.hs=[]) {m:Int} (hm:m∈x.ms) :
  zBA x m=(zIL x.ns.reg (zAA [] m x.ns.notes) x.of).map fun p=>⟨p.d,zAA [] m x.ns.notes p.d,p.c,p.c⟩:=by
 have ho:=valid_ord h.valid;have hh:∀ d,(zZ x [] m d).h < 0:=fun d=>by have:=(zIY x [] m d).2;rw [hs] at this;exact this
 have hl:∀ d l,heldB x [] [] m d l=if l=zAA [] m x.ns.notes d then zIE x.ns.reg (zAA [] m x.ns.notes) x.of d else 0:=fun d l=>by
  have e:oldB x [] [] m d=0:=by unfold oldB;rw [if_pos (hh d)]
  unfold heldB zGH;rw [e];by_cases a:l=(zZ x [] m d).l
  ·rw [if_pos a,if_pos (show l=zAA [] m x.ns.notes d from a)];exact Int.sub_zero _
  ·rw [if_neg a,if_neg (show ¬ l=zAA [] m x.ns.notes d from a)];simp
 refine rise_ext ?_ ?_ fun u=>?_
 ·refine List.Pairwise.imp_of_mem (fun {a b} ha hb hab=>?_) (h.parts_rise hm)
  obtain ⟨i,hi,_,a2,rfl⟩:=(h.parts_mem hm a).1 ha;obtain ⟨j,hj,_,b2,rfl⟩:=(h.parts_mem hm b).1 hb;rw [hl] at a2 b2;rcases hab with g | ⟨g1,g2⟩
  ·exact g
  ·exfalso
   split at a2
   ·split at b2
    ·rename_i e1 e2;simp only at g1 g2;rw [e1,e2,g1] at g2;omega
    ·omega
   ·omega
 ·rw [List.pairwise_map];exact pieces_rise ho _ _
 ·rw [h.parts_mem hm,List.mem_map]
  constructor
  ·rintro ⟨k,hk,h1,h2,rfl⟩
   rw [hl] at h2;split at h2
   ·rename_i e;refine ⟨⟨x.ns.reg[k].d,zIE x.ns.reg (zAA [] m x.ns.notes) x.of x.ns.reg[k].d⟩,(pieces_mem _).2 ⟨zOE _ ho k hk,h2,rfl⟩,?_⟩;rw [hl,if_pos e,<- e]
   ·omega
  ·rintro ⟨p,hp,rfl⟩
   obtain ⟨hd,hc,hpc⟩:=(pieces_mem p).1 hp;obtain ⟨z,hz⟩:=zNM (zS h.valid).1 [] m p.d hd;have hk1:=valid_kind h.valid hz;have hk:1 < z.k:=by apply Classical.byContradiction;intro hn;have:=cnt_asm (R:=x.ns.reg) (lt:=zAA [] m x.ns.notes) (n:=p.d) (fun y hy=>by rw [hz] at hy;cases hy;unfold In at hk1;omega) x.of;omega
   obtain ⟨k,hkl,rfl,e1,e2⟩:=find_at hz;refine ⟨k,hkl,hk,?_,?_⟩
   ·rw [hl,e1,if_pos e2];exact hc
   ·rw [hl,e1,if_pos e2,e2,hpc]
theorem sumD_bd {L:List Hold} (h:∀ y∈L,1<=y.lo) (d:Int) : 0<=sumD L d:=by
 induction L with
 | nil=>exact Int.le_refl _
 | cons y L ih =>
   have h1:=h y (List.mem_cons_self ..);have h2:=ih fun z hz=>h z (List.mem_cons_of_mem _ hz)
   show 0<=(if y.d=d then y.lo else 0)+sumD L d
   split <;> omega
theorem sumD_in {L:List Hold} (h:∀ y∈L,1<=y.lo) {u:Hold} (hu:u∈L) : 1<=sumD L u.d:=by
 induction L with
 | nil=>cases hu
 | cons y L ih =>
   have h1:=h y (List.mem_cons_self ..);have h2:=sumD_bd (fun z hz=>h z (List.mem_cons_of_mem _ hz)) u.d;show 1<=(if y.d=u.d then y.lo else 0)+sumD L u.d
   rcases List.mem_cons.1 hu with e | e
   ·rw [if_pos (by rw [e])];omega
   ·have:=ih (fun z hz=>h z (List.mem_cons_of_mem _ hz)) e;split <;> omega
theorem sumD_take {L:List Hold} {j:Nat} (hj:j < L.length) (d:Int) : sumD (L.take (j+1)) d=if d=L[j].d then sumD (L.take j) L[j].d+L[j].lo else sumD (L.take j) d:=by
 rw [List.take_succ_eq_append_getElem hj,sumD_append];show sumD (L.take j) d+((if L[j].d=d then L[j].lo else 0)+0)=_
 by_cases e:d=L[j].d
 ·rw [if_pos e.symm,if_pos e,e];omega
 ·rw [if_neg (fun h=>e h.symm),if_neg e];omega
theorem sumD_le {L:List Hold} (h:∀ y∈L,1<=y.lo) (j:Nat) (d:Int) : 0<=sumD (L.take j) d/\sumD (L.take j) d<=sumD L d:=by
 have e:sumD L d=sumD (L.take j) d+sumD (L.drop j) d:=by rw [<- sumD_append,List.take_append_drop]
 have h1:=sumD_bd (fun y hy=>h y (List.mem_of_mem_take hy)) d (L:=L.take j);have h2:=sumD_bd (fun y hy=>h y (List.mem_of_mem_drop hy)) d (L:=L.drop j);omega
def KeyIn (L:List Hold) (j:Nat) (K:List Int) : Prop:=∀ x,x∈K↔∃ y∈L.take j,y.d=x
def KeyOut (L:List Hold) (P:List Item) (i:Nat) (K:List Int) : Prop:=∀ x,x∈K↔(∃ y∈L,y.d=x)/\∀ p∈P.take i,p.d≠x
theorem keyIn_put {L:List Hold} {j:Nat} {K:List Int} (h:KeyIn L j K) (hj:j < L.length) : KeyIn L (j+1) (if L[j].d∈K then K else K++[L[j].d]):=fun x=>by
 rw [List.take_succ_eq_append_getElem hj];have e:(∃ y∈L.take j++[L[j]],y.d=x)↔(∃ y∈L.take j,y.d=x)\/L[j].d=x:=by
  constructor
  ·rintro ⟨y,hy,e⟩
   rcases List.mem_append.1 hy with g | g
   ·exact .inl ⟨y,g,e⟩
   ·rw [List.mem_singleton.1 g] at e;exact .inr e
  ·rintro (⟨y,hy,e⟩ | e)
   ·exact ⟨y,List.mem_append_left _ hy,e⟩
   ·exact ⟨_,List.mem_append_right _ (List.mem_singleton.2 rfl),e⟩
 rw [e,<- h x];by_cases hk:L[j].d∈K
 ·rw [if_pos hk];exact ⟨.inl,fun g=>g.elim id (fun e=>e ▸ hk)⟩
 ·rw [if_neg hk,List.mem_append,List.mem_singleton];exact or_congr Iff.rfl eq_comm
theorem keyIn_no {L:List Hold} {j:Nat} {K:List Int} (h:KeyIn L j K) {x:Int} (hx:x ∉ K) : sumD (L.take j) x=0:=sumD_zero fun y hy e=>hx ((h x).2 ⟨y,hy,e⟩)
theorem keyOut_of {L:List Hold} {K:List Int} (P:List Item) (h:KeyIn L L.length K) : KeyOut L P 0 K:=fun x=>by
 rw [h x,List.take_length];exact ⟨fun g=>⟨g,fun p hp=>by simp at hp⟩,fun g=>g.1⟩
theorem keyOut_del {L:List Hold} {P:List Item} {i:Nat} {K:List Int} (h:KeyOut L P i K) (hn:K.Nodup) (hi:i < P.length) : KeyOut L P (i+1) (K.erase P[i].d):=fun x=>by
 rw [hn.mem_erase_iff,h x,List.take_succ_eq_append_getElem hi];constructor
 ·rintro ⟨h1,h2,h3⟩
  refine ⟨h2,fun p hp=>?_⟩;rcases List.mem_append.1 hp with g | g
  ·exact h3 p g
  ·rw [List.mem_singleton.1 g];exact fun e=>h1 e.symm
 ·rintro ⟨h2,h3⟩;exact ⟨fun e=>h3 P[i] (List.mem_append_right _ (List.mem_singleton.2 rfl)) e.symm,h2,fun p hp=>h3 p (List.mem_append_left _ hp)⟩
structure Needs (L:List Hold) (P:List Item) : Prop where
 one:∀ y∈L,y.lo=y.hi/\1<=y.lo
 rise:L.Pairwise (fun a b=>a.d < b.d\/(a.d=b.d/\a.l < b.l))
 sum:∀ p∈P,sumD L p.d=p.c
 apart:P.Pairwise (fun a b=>a.d < b.d)
 all:∀ y∈L,(∃ p∈P,p.d=y.d)/\sumD L y.d<=16777216000000
theorem Exact.needs {x:Built} {C:List Int} (h:Exact x C) {m:Int} (hm:m∈x.ms) : Needs (zBA x m) (zIL x.ns.reg (zAA [] m x.ns.notes) x.of):=by
 have hs:∀ d∈nums x.ns.reg,sumD (zBA x m) d=zIE x.ns.reg (zAA [] m x.ns.notes) x.of d:=fun d hd=>h.sum hm hd
 refine ⟨fun y hy=>⟨(h.parts_ok hm hy).1,(h.parts_ok hm hy).2.1⟩,h.parts_rise hm,fun p hp=>?_,pieces_rise (valid_ord h.valid) _ _,fun y hy=>?_⟩
 ·obtain ⟨h1,_,h3⟩:=(pieces_mem p).1 hp;rw [hs _ h1,h3]
 ·obtain ⟨_,_,hd⟩:=h.parts_ok hm hy;have h1:=sumD_in (fun y hy=>(h.parts_ok hm hy).2.1) hy;have h2:=hs _ hd;have h3:=zJP h.valid [] m y.d;have h4:zIE x.ns.reg (zAA [] m x.ns.notes) x.of y.d=(zZ x [] m y.d).c:=rfl;exact ⟨⟨⟨y.d,zIE x.ns.reg (zAA [] m x.ns.notes) x.of y.d⟩,(pieces_mem _).2 ⟨hd,by simp only;omega,rfl⟩,rfl⟩,by omega⟩
theorem Needs.none {L:List Hold} {P:List Item} (h:Needs L P) {K:List Int} (hk:KeyOut L P P.length K) : K=[]:=by
 rw [List.eq_nil_iff_forall_not_mem];intro x hx;obtain ⟨⟨y,hy,rfl⟩,h2⟩:=(hk x).1 hx;obtain ⟨p,hp,e⟩:=(h.all y hy).1;rw [List.take_length] at h2;exact h2 p hp e
theorem Needs.not {L:List Hold} {P:List Item} {K:List Int} (h:Needs L P) {i:Nat} (hi:i < P.length) (hk:KeyOut L P i K) : P[i].d ∉ K->sumD L P[i].d=0:=fun hx=>by
 refine sumD_zero fun y hy e=>hx ((hk _).2 ⟨⟨y,hy,e⟩,fun p hp e2=>?_⟩)
 obtain ⟨j,hj,rfl⟩:=List.getElem_of_mem hp;rw [List.length_take] at hj;rw [List.getElem_take] at e2;have:=List.pairwise_iff_getElem.1 h.apart j i (by omega) hi (by omega);omega
end
end Go.Proofs.YtipaopbmklbmnaaGreatDoor
