/- Lemmas. -/
import Derived.Maps.OwnIn
import Derived.Maps.RangeWalk
import Derived.Test.YtipaopbmklbmnaaGreatDoorProg
import Derived.Shelf.RegionOpen
import Derived.Test.YtipaopbmklbmnaaGreatDoorT13
set_option linter.all false
set_option maxRecDepth 100000
set_option maxHeartbeats 0
namespace Go.Proofs.YtipaopbmklbmnaaGreatDoor
section
open Go.RowKit
def zJU (w:World) (b o:Nat) (x:List Int) : Prop:=∃ v,zK w b o v/\Sl zAM 1 w v x
theorem zGK:zGG zJU:=fun _ _ _ _ _ hb ⟨v,h1,h2⟩=>⟨v,zC hb h1,zJ zN hb h2⟩
def AtHas (w:World) (b o:Nat) (x:Has) : Prop:=(zK w b o (.int .i64 x.c)/\zK w b (o+1) (.int .i64 x.l)/\zK w b (o+2) (.int .i64 x.h))/\I64 x.c/\I64 x.l/\I64 x.h
theorem stays_has:zGG AtHas:=fun _ _ _ _ _ hb ⟨⟨h0,h1,h2⟩,hr⟩=>⟨⟨zC hb h0,zC hb h1,zC hb h2⟩,hr⟩
structure Hold where
 d:Int
 l:Int
 lo:Int
 hi:Int
def AtHold (w:World) (b o:Nat) (x:Hold) : Prop:=(zK w b o (.int .i64 x.d)/\zK w b (o+1) (.int .i64 x.l)/\zK w b (o+2) (.int .i64 x.lo)/\zK w b (o+3) (.int .i64 x.hi))/\I64 x.d/\I64 x.l/\I64 x.lo/\I64 x.hi
theorem zIK:zGG AtHold:=fun _ _ _ _ _ hb ⟨⟨h0,h1,h2,h3⟩,hr⟩=>⟨⟨zC hb h0,zC hb h1,zC hb h2,zC hb h3⟩,hr⟩
def atD (T:List Int) (k:Nat) : Int:=T.getD k 0
def sumTo (T:List Int) : Nat->Int
 | 0=>0
 | k+1=>sumTo T k+T.getD k 0
theorem sameParts08 (w:World) (v v':Value) (xs:List Hold) (hx:Sl AtHold 4 w v xs) (hy:Sl AtHold 4 w v' xs) :
  Calls Tryz.prog 46 #[v,v'] w fun e w'=>e = .returned (.bool true)/\Below w.heap.size w w':=by
 obtain ⟨a,cap,rfl,hm⟩:=zD hx;obtain ⟨a',cap',rfl,_⟩:=zD hy;go_enter Tryz.func46,Tryz.ntmps46;go_wp2;go_loopw [5] (fun i wr=>∃ k:Nat,i = .int .i64 k/\k<=xs.length/\Below w.heap.size w wr) (fun i _=>xs.length - (intOf i).toNat)
 case atStart=>exact ⟨0,rfl,by omega,Below.refl _ _⟩
 case round =>
  obtain ⟨k,rfl,hk,hb⟩:=hrel;by_cases hlt:k < xs.length
  ·have X:=(zY (zJ zIK hb hx)).2 k hlt
   have Y:=(zY (zJ zIK hb hy)).2 k hlt;obtain ⟨b,off,rfl,⟨p0,p1,p2,p3⟩,_⟩:=X;obtain ⟨b',off',rfl,⟨q0,q1,q2,q3⟩,_⟩:=Y;unfold zK at p0 p1 p2 p3 q0 q1 q2 q3;generalize xs[k]=x at *;clear hx hy;go_wp2;go_quiet (fail)
   go_wp2;go_roundw
   case rel=>exact ⟨k+1,by go_num,by omega,zA hb (zAJ _ _)⟩
   case measure=>simp [intOf];omega
  ·go_wp2;go_ret;exact ⟨rfl,hb⟩
end
section
open Tryz
open Go.RowKit
def zFL (es:List TypeId) (w w':World) : Prop:=∀ (k:Nat) (cur:Array Value) (e:TypeId) (q:Nat×Nat),e∈es->w.heap[k]? = some (Obj.cells cur e q)->w'.heap[k]? = some (Obj.cells cur e q)
theorem keepT_refl (es:List TypeId) (w:World) : zFL es w w:=fun _ _ _ _ _ h=>h
theorem zFL.trans {es:List TypeId} {w w1 w2:World} (h:zFL es w w1) (k:zFL es w1 w2) : zFL es w w2:=fun b cur e q he hc=>k b cur e q he (h b cur e q he hc)
theorem zFL.sub {es fs:List TypeId} {w w':World} (h:zFL fs w w') (hs:∀ e∈es,e∈fs) : zFL es w w':=fun b cur e q he hc=>h b cur e q (hs e he) hc
theorem zBM {es:List TypeId} {w w':World} (hb:Below w.heap.size w w') : zFL es w w':=fun k _ _ _ _ hc=>(hb.block k (Array.getElem?_eq_some_iff.1 hc).1).trans hc
theorem keepT_set {es:List TypeId} {w:World} {g j:Nat} {u:Value} {cur:Array Value} {e:TypeId} {q:Nat×Nat} (hg:w.heap[g]? = some (.cells cur e q)) (hne:e ∉ es) : zFL es w (w.setCell ⟨g,j,none⟩ u):=fun k _ e' _ he hc=>by
 refine (Below.heap_setCell w ⟨g,j,none⟩ u k (fun h=>?_)).trans hc;subst h;rw [hg] at hc;cases hc;exact hne he
theorem zBX {es:List TypeId} {e:TypeId} {w w':World} {v:Value} {sz n:Nat} {cs:List Value} {base:Nat} (hgr:w.grownBy w' v.ownBlock) (hown:w.ownsRow base e sz v n cs) (hne:e ∉ es) : zFL es w w':=fun k cur e' q he hc=>by
 have hk:=(Array.getElem?_eq_some_iff.1 hc).1;refine (hgr.block k hk (fun h=>?_)).trans hc;rcases hown.2 with ⟨rfl,_⟩ | ⟨g,cap,cur',rfl,_,hcur,_⟩
 ·simp [Value.ownBlock] at h
 ·simp [Value.ownBlock] at h;subst h;rw [hcur] at hc;cases hc;exact hne he
def OnT (es:List TypeId) (P:World->Prop) (w:World) : Prop:=∀ w',zFL es w w'->P w'
theorem OnT.now {es:List TypeId} {P:World->Prop} {w:World} (h:OnT es P w) : P w:=h w (keepT_refl es w)
theorem OnT.keep {es:List TypeId} {P:World->Prop} {w w':World} (h:OnT es P w) (k:zFL es w w') : OnT es P w':=fun w2 k2=>h w2 (k.trans k2)
theorem OnT.ext {es:List TypeId} {P:World->Prop} {w w':World} (hb:Below w.heap.size w w') (h:OnT es P w) : OnT es P w':=h.keep (zBM hb)
theorem OnT.weak {es fs:List TypeId} {P:World->Prop} {w:World} (h:OnT es P w) (hs:∀ e∈es,e∈fs) : OnT fs P w:=fun w' k=>h w' (k.sub hs)
theorem OnT.mono {es:List TypeId} {P Q:World->Prop} {w:World} (h:OnT es P w) (hpq:∀ w,P w->Q w) : OnT es Q w:=fun w' k=>hpq _ (h w' k)
theorem OnT.both {es:List TypeId} {P Q:World->Prop} {w:World} (h:OnT es P w) (k:OnT es Q w) : OnT es (fun w=>P w/\Q w) w:=fun w' q=>⟨h w' q,k w' q⟩
def zEO {α:Type} (es:List TypeId) (F:World->List Value->α->Prop) (sz:Nat) (w:World) (cs:List Value) (xs:List α) : Prop :=
 ∃ ps:List (List Value),cs=ps.flatten/\ps.length=xs.length/\∀ (k:Nat) (h:k < xs.length) (h':k < ps.length),ps[k].length=sz/\OnT es (fun w=>F w ps[k] xs[k]) w
theorem rowIs_nil {α:Type} (es:List TypeId) (F:World->List Value->α->Prop) (sz:Nat) (w:World) : zEO es F sz w [] []:=⟨[],rfl,rfl,fun k h=>by simp at h⟩
theorem zEO.snoc {α:Type} {es:List TypeId} {F:World->List Value->α->Prop} {sz:Nat} {w:World} {cs:List Value} {xs:List α} (h:zEO es F sz w cs xs) {vs:List Value} {x:α} (hl:vs.length=sz) (hF:OnT es (fun w=>F w vs x) w) : zEO es F sz w (cs++vs) (xs++[x]):=by
 obtain ⟨ps,rfl,hpl,hk⟩:=h;refine ⟨ps++[vs],by simp,by simp [hpl],fun k h1 h2=>?_⟩;have g1:k < xs.length+1:=by simpa using h1
 by_cases e:k < xs.length
 ·have:=hk k e (by omega);simp only [List.getElem_append_left (show k < ps.length by omega),List.getElem_append_left e];exact this
 ·obtain rfl:k=xs.length:=by omega
  have e1:(ps++[vs])[xs.length]'h2=vs:=by simp [List.getElem_append_right (show ps.length<=xs.length by omega),hpl]
  have e2:(xs++[x])[xs.length]'h1=x:=by simp
  rw [e1,e2];exact ⟨hl,hF⟩
theorem zEO.keep {α:Type} {es:List TypeId} {F:World->List Value->α->Prop} {sz:Nat} {w w':World} {cs:List Value} {xs:List α} (h:zEO es F sz w cs xs) (hk:zFL es w w') : zEO es F sz w' cs xs:=by
 obtain ⟨ps,h1,h2,h3⟩:=h;exact ⟨ps,h1,h2,fun k a b=>⟨(h3 k a b).1,(h3 k a b).2.keep hk⟩⟩
theorem flatten_get {ps:List (List Value)} {sz:Nat} (h:∀ (k:Nat) (h:k < ps.length),ps[k].length=sz) (k:Nat) (hk:k < ps.length) (j:Nat) (hj:j < sz) : ps.flatten[k*sz+j]? = ps[k][j]?:=by
 induction ps generalizing k with
 | nil=>simp at hk
 | cons p ps ih =>
   have hp:=h 0 (by simp);simp only [List.getElem_cons_zero] at hp;cases k with
   | zero =>rw [List.flatten_cons,Nat.zero_mul,Nat.zero_add,List.getElem?_append_left (by omega)];rfl
   | succ k =>rw [List.flatten_cons,List.getElem?_append_right (by rw [hp,Nat.succ_mul];omega)];rw [show (k+1)*sz+j - p.length=k*sz+j by rw [hp,Nat.succ_mul];omega];rw [ih (fun i hi=>by have:=h (i+1) (by simpa using hi);simpa using this) k (by simpa using hk)];rfl
theorem zEO.sl {α:Type} {es:List TypeId} {F:World->List Value->α->Prop} {E:World->Nat->Nat->α->Prop} {sz:Nat} {w:World} {cs:List Value} {xs:List α} {base:Nat} {e:TypeId} {v:Value} (h:zEO es F sz w cs xs) (hown:w.ownsRow base e sz v xs.length cs)
  (hE:∀ w b o vs x,vs.length=sz->(∀ j u,vs[j]? = some u->zK w b (o+j) u)->F w vs x->E w b o x) : OnT (e :: es) (fun w=>Sl E sz w v xs) w:=by
 intro w' hk;obtain ⟨ps,rfl,hpl,hps⟩:=h;rcases hown.2 with ⟨rfl,hn0⟩ | ⟨g,cap,cur,rfl,hg,hcur,hcap,hcm,hrest⟩
 ·exact ⟨none,0,by rw [hn0],by omega,fun k hk=>by omega⟩
 ·have hown':w'.ownsRow base e sz (.slice (some ⟨g,0,none⟩) xs.length cap) xs.length ps.flatten:=⟨hown.1,.inr ⟨g,cap,cur,rfl,hg,hk g cur e _ (by simp) hcur,hcap,hcm,hrest⟩⟩
  refine ⟨some ⟨g,0,none⟩,cap,rfl,by unfold maxLen at hcm;omega,fun k hk1=>⟨g,0,rfl,?_⟩⟩;have hk2:k < ps.length:=by omega
  obtain ⟨hl,hF⟩:=hps k hk1 hk2;refine hE w' g (0+k*sz) ps[k] _ hl (fun j u hju=>?_) (hF w' (hk.sub (fun e he=>by simp [he])));have hj:j < sz:=by rw [<- hl];exact (List.getElem?_eq_some_iff.1 hju).1
  have:=hown'.cells (g:=g) rfl (k*sz+j) u (by rw [flatten_get (fun i hi=>(hps i (by omega) hi).1) k hk2 j hj];exact hju);rw [zAZ] at this;rw [Nat.zero_add];exact this
theorem zEO.at1 {α:Type} {es:List TypeId} {F:World->List Value->α->Prop} {w:World} {cs:List Value} {xs:List α} (h:zEO es F 1 w cs xs) : cs.length=xs.length/\∀ k (hk:k < xs.length),∃ v,cs[k]? = some v/\OnT es (fun w=>F w [v] xs[k]) w:=by
 obtain ⟨ps,rfl,hpl,hps⟩:=h;have hlen:∀ (ps:List (List Value)),(∀ k (h:k < ps.length),ps[k].length=1)->ps.flatten.length=ps.length:=by
  intro ps;induction ps with
  | nil=>intro _;rfl
  | cons p ps ih =>intro h;have h0:=h 0 (by simp);simp only [List.getElem_cons_zero] at h0;rw [List.flatten_cons,List.length_append,h0,ih (fun k hk=>by have:=h (k+1) (by simpa using hk);simpa using this),List.length_cons];omega
 refine ⟨by rw [hlen ps (fun k hk=>(hps k (by omega) hk).1),hpl],fun k hk=>?_⟩;have hk2:k < ps.length:=by omega
 obtain ⟨hl,hF⟩:=hps k hk hk2;obtain ⟨v,hv⟩:=List.length_eq_one_iff.1 hl;have:=flatten_get (fun i hi=>(hps i (by omega) hi).1) k hk2 0 (by omega);rw [hv] at this;refine ⟨v,by simpa using this,?_⟩;rw [hv] at hF;exact hF
theorem rowIs_of1 {α:Type} {es:List TypeId} {F:World->List Value->α->Prop} {w:World} {cs:List Value} {xs:List α} (hl:cs.length=xs.length) (h:∀ k (hk:k < xs.length),∃ v,cs[k]? = some v/\OnT es (fun w=>F w [v] xs[k]) w) : zEO es F 1 w cs xs:=by
 refine ⟨cs.map (fun v=>[v]),?_,by simp [hl],fun k hk hk2=>?_⟩
 ·clear h hl
  induction cs with
  | nil=>rfl
  | cons c cs ih=>simp [List.flatten_cons,<- ih]
 ·obtain ⟨v,h1,h2⟩:=h k hk
  have:(cs.map (fun v=>[v]))[k]=[v]:=by rw [List.getElem_map];have:=(List.getElem?_eq_some_iff.1 h1).2;rw [this]
  rw [this];exact ⟨rfl,h2⟩
def IsInt (_:World) (vs:List Value) (x:Int) : Prop:=vs=[.int .i64 x]/\I64 x
theorem isInt_at (w:World) (b o:Nat) (vs:List Value) (x:Int) (_:vs.length=1) (hc:∀ j u,vs[j]? = some u->zK w b (o+j) u) (h:IsInt w vs x) : zAM w b o x:=by
 obtain ⟨rfl,hr⟩:=h;exact ⟨hc 0 _ rfl,hr⟩
def IsItem (_:World) (vs:List Value) (x:Item) : Prop:=vs=[.int .i64 x.d,.int .i64 x.c]/\I64 x.d/\I64 x.c
theorem isItem_at (w:World) (b o:Nat) (vs:List Value) (x:Item) (_:vs.length=2) (hc:∀ j u,vs[j]? = some u->zK w b (o+j) u) (h:IsItem w vs x) : zBV w b o x:=by
 obtain ⟨rfl,hr⟩:=h;exact ⟨⟨hc 0 _ rfl,hc 1 _ rfl⟩,hr⟩
def IsHold (_:World) (vs:List Value) (x:Hold) : Prop:=vs=[.int .i64 x.d,.int .i64 x.l,.int .i64 x.lo,.int .i64 x.hi]/\I64 x.d/\I64 x.l/\I64 x.lo/\I64 x.hi
theorem isHold_at (w:World) (b o:Nat) (vs:List Value) (x:Hold) (_:vs.length=4) (hc:∀ j u,vs[j]? = some u->zK w b (o+j) u) (h:IsHold w vs x) : AtHold w b o x:=by
 obtain ⟨rfl,hr⟩:=h;exact ⟨⟨hc 0 _ rfl,hc 1 _ rfl,hc 2 _ rfl,hc 3 _ rfl⟩,hr⟩
def zJC (w:World) (vs:List Value) (x:List Int) : Prop:=∃ v,vs=[v]/\Sl zAM 1 w v x
theorem isInts_at (w:World) (b o:Nat) (vs:List Value) (x:List Int) (_:vs.length=1) (hc:∀ j u,vs[j]? = some u->zK w b (o+j) u) (h:zJC w vs x) : zJU w b o x:=by
 obtain ⟨v,rfl,hs⟩:=h;exact ⟨v,hc 0 _ rfl,hs⟩
def Cells (b:Nat) (vs:List Value) (w:World) : Prop:=∀ j u,vs[j]? = some u->zK w b j u
theorem Cells.ext {b:Nat} {vs:List Value} {w w':World} (hb:Below w.heap.size w w') (h:Cells b vs w) : Cells b vs w':=fun j u hj=>zC hb (h j u hj)
end
section
def zPY (a b:Span) : Span:=⟨max a.lo b.lo,min a.hi b.hi⟩
theorem meet_has {a b:Span} {n:Int} : (zPY a b).has n↔a.has n/\b.has n:=by unfold zPY Span.has;simp only;omega
section
variable (H:Report->Has) (B:Report->Int)
def zHT (r:Report) : Span:=zBG (H r) (B r) r.l r.k
open Classical in
noncomputable def zJG (L:List Span) : List Report->Option (List Span)
 | []=>some L
 | r :: rs=>if 0<=(H r).h then (if (zPY (L.getD (H r).h.toNat zCK) (zHT H B r)).lo<=(zPY (L.getD (H r).h.toNat zCK) (zHT H B r)).hi then zJG (L.set (H r).h.toNat (zPY (L.getD (H r).h.toNat zCK) (zHT H B r))) rs else none)
   else if zHT H B r=zCK then none else zJG L rs
def NumLeft (rs:List Report) (k:Nat) (n:Int) : Prop:=∀ r∈rs,(H r).h=k->(zHT H B r).has n
theorem leftGo_some {L L':List Span} {rs:List Report} (hin:∀ r∈rs,(H r).h < L.length) (hne:∀ k (hk:k < L.length),L[k].lo<=L[k].hi) (h:zJG H B L rs=some L') :
  (∀ r∈rs,(H r).h < 0->zHT H B r≠zCK)/\∃ hl:L'.length=L.length,∀ k (hk:k < L.length),L'[k].lo<=L'[k].hi/\∀ n,L'[k].has n↔L[k].has n/\NumLeft H B rs k n:=by
 induction rs generalizing L with
 | nil =>simp only [zJG,Option.some.injEq] at h;subst h;exact ⟨fun r hr=>by simp at hr,rfl,fun k hk=>⟨hne k hk,fun n=>⟨fun hn=>⟨hn,fun r hr=>by simp at hr⟩,fun hn=>hn.1⟩⟩⟩
 | cons r rs ih =>
   simp only [zJG] at h;by_cases h0:0<=(H r).h
   ·rw [if_pos h0] at h
    split at h
    ·rename_i hm
     have hr:=hin r (List.mem_cons_self ..);generalize hk0:(H r).h.toNat=k0 at *;have hk0':(H r).h=k0:=by omega
     have hkl:k0 < L.length:=by omega
     have hg:L.getD k0 zCK=L[k0]:=by rw [List.getD_eq_getElem?_getD,List.getElem?_eq_getElem hkl];rfl
     rw [hg] at h hm;obtain ⟨h1,hl,h2⟩:=ih (L:=L.set k0 (zPY L[k0] (zHT H B r))) (fun r' hr'=>by rw [List.length_set];exact hin r' (List.mem_cons_of_mem _ hr')) (fun k hk=>by
      rw [List.length_set] at hk;by_cases e:k0=k
      ·subst e;simp only [List.getElem_set_self];exact hm
      ·rw [List.getElem_set_ne e];exact hne k hk) h
     rw [List.length_set] at hl;refine ⟨fun r' hr' hn=>?_,hl,fun k hk=>?_⟩
     ·rcases List.mem_cons.1 hr' with rfl | hr'
      ·omega
      ·exact h1 r' hr' hn
     ·obtain ⟨h3,h4⟩:=h2 k (by rw [List.length_set];exact hk)
      refine ⟨h3,fun n=>(h4 n).trans ?_⟩;by_cases e:k0=k
      ·subst e
       simp only [List.getElem_set_self];rw [meet_has];constructor
       ·rintro ⟨⟨a1,a2⟩,a3⟩
        refine ⟨a1,fun r' hr' he=>?_⟩;rcases List.mem_cons.1 hr' with rfl | hr'
        ·exact a2
        ·exact a3 r' hr' he
       ·rintro ⟨a1,a2⟩;exact ⟨⟨a1,a2 r (List.mem_cons_self ..) hk0'⟩,fun r' hr' he=>a2 r' (List.mem_cons_of_mem _ hr') he⟩
      ·rw [List.getElem_set_ne e]
       constructor
       ·rintro ⟨a1,a2⟩
        refine ⟨a1,fun r' hr' he=>?_⟩;rcases List.mem_cons.1 hr' with rfl | hr'
        ·omega
        ·exact a2 r' hr' he
       ·rintro ⟨a1,a2⟩;exact ⟨a1,fun r' hr' he=>a2 r' (List.mem_cons_of_mem _ hr') he⟩
    ·cases h
   ·rw [if_neg h0] at h
    split at h
    ·cases h
    ·rename_i hc
     obtain ⟨h1,hl,h2⟩:=ih (fun r' hr'=>hin r' (List.mem_cons_of_mem _ hr')) hne h;refine ⟨fun r' hr' hn=>?_,hl,fun k hk=>?_⟩
     ·rcases List.mem_cons.1 hr' with rfl | hr'
      ·exact hc
      ·exact h1 r' hr' hn
     ·obtain ⟨h3,h4⟩:=h2 k hk
      refine ⟨h3,fun n=>(h4 n).trans ⟨fun ⟨a1,a2⟩=>⟨a1,fun r' hr' he=>?_⟩,fun ⟨a1,a2⟩=>⟨a1,fun r' hr' he=>a2 r' (List.mem_cons_of_mem _ hr') he⟩⟩⟩;rcases List.mem_cons.1 hr' with rfl | hr'
      ·omega
      ·exact a2 r' hr' he
theorem leftGo_none {L:List Span} {rs:List Report} (hin:∀ r∈rs,(H r).h < L.length) (h:zJG H B L rs=none) :
  (∃ r∈rs,(H r).h < 0/\zHT H B r=zCK)\/∃ k,∃ hk:k < L.length,∀ n,¬ (L[k].has n/\NumLeft H B rs k n):=by
 induction rs generalizing L with
 | nil=>simp [zJG] at h
 | cons r rs ih =>
   simp only [zJG] at h;by_cases h0:0<=(H r).h
   ·rw [if_pos h0] at h
    have hr:=hin r (List.mem_cons_self ..);generalize hk0:(H r).h.toNat=k0 at *;have hk0':(H r).h=k0:=by omega
    have hkl:k0 < L.length:=by omega
    have hg:L.getD k0 zCK=L[k0]:=by rw [List.getD_eq_getElem?_getD,List.getElem?_eq_getElem hkl];rfl
    rw [hg] at h;split at h
    ·rcases ih (L:=L.set k0 (zPY L[k0] (zHT H B r))) (fun r' hr'=>by rw [List.length_set];exact hin r' (List.mem_cons_of_mem _ hr')) h with ⟨r',hr',h1⟩ | ⟨k,hk,h1⟩
     ·exact .inl ⟨r',List.mem_cons_of_mem _ hr',h1⟩
     ·rw [List.length_set] at hk
      refine .inr ⟨k,hk,fun n ⟨a1,a2⟩=>h1 n ⟨?_,fun r' hr' he=>a2 r' (List.mem_cons_of_mem _ hr') he⟩⟩;by_cases e:k0=k
      ·subst e;simp only [List.getElem_set_self];exact meet_has.2 ⟨a1,a2 r (List.mem_cons_self ..) hk0'⟩
      ·rw [List.getElem_set_ne e];exact a1
    ·rename_i hm;refine .inr ⟨k0,hkl,fun n ⟨a1,a2⟩=>hm ?_⟩;have:=meet_has.2 ⟨a1,a2 r (List.mem_cons_self ..) hk0'⟩;unfold Span.has at this;omega
   ·rw [if_neg h0] at h
    split at h
    ·rename_i hc;exact .inl ⟨r,List.mem_cons_self ..,by omega,hc⟩
    ·rcases ih (fun r' hr'=>hin r' (List.mem_cons_of_mem _ hr')) h with ⟨r',hr',h1⟩ | ⟨k,hk,h1⟩
     ·exact .inl ⟨r',List.mem_cons_of_mem _ hr',h1⟩
     ·exact .inr ⟨k,hk,fun n ⟨a1,a2⟩=>h1 n ⟨a1,fun r' hr' he=>a2 r' (List.mem_cons_of_mem _ hr') he⟩⟩
end
open Classical in
noncomputable def hull (p:Int->Prop) (lo:Int) : Nat->Option Span
 | 0=>none
 | j+1=>if p (lo+j) then some (match hull p lo j with | none=>⟨lo+j,lo+j⟩ | some s=>⟨s.lo,lo+j⟩) else hull p lo j
theorem hull_none {p:Int->Prop} {lo:Int} {j:Nat} (h:hull p lo j=none) : ∀ n,lo<=n->n < lo+j->¬ p n:=by
 induction j with
 | zero=>intro n h1 h2;omega
 | succ j ih =>
   simp only [hull] at h;split at h
   ·cases h
   ·rename_i hp
    intro n h1 h2;by_cases e:n=lo+j
    ·subst e;exact hp
    ·exact ih h n h1 (by omega)
theorem zOF {p:Int->Prop} {lo:Int} {j:Nat} {s:Span} (h:hull p lo j=some s) : lo<=s.lo/\s.lo<=s.hi/\s.hi < lo+j/\p s.lo/\p s.hi/\∀ n,lo<=n->n < lo+j->p n->s.has n:=by
 induction j generalizing s with
 | zero=>cases h
 | succ j ih =>
   simp only [hull] at h;split at h
   ·rename_i hp
    cases hh:hull p lo j with
    | none =>
      rw [hh] at h;simp only [Option.some.injEq] at h;subst h;refine ⟨by simp only;omega,Int.le_refl _,by simp only;omega,hp,hp,fun n h1 h2 h3=>?_⟩;by_cases e:n=lo+j
      ·subst e;exact ⟨Int.le_refl _,Int.le_refl _⟩
      ·exact absurd h3 (hull_none hh n h1 (by omega))
    | some t =>
      rw [hh] at h;simp only [Option.some.injEq] at h;subst h;obtain ⟨a1,a2,a3,a4,a5,a6⟩:=ih hh;refine ⟨a1,by simp only;omega,by simp only;omega,a4,hp,fun n h1 h2 h3=>?_⟩;by_cases e:n=lo+j
      ·subst e;exact ⟨by simp only;omega,Int.le_refl _⟩
      ·have:=a6 n h1 (by omega) h3;unfold Span.has at *;simp only;omega
   ·rename_i hp
    obtain ⟨a1,a2,a3,a4,a5,a6⟩:=ih h;refine ⟨a1,a2,by omega,a4,a5,fun n h1 h2 h3=>?_⟩;by_cases e:n=lo+j
    ·subst e;exact absurd h3 hp
    ·exact a6 n h1 (by omega) h3
theorem hull_eq {p:Int->Prop} {lo hi:Int} (h:lo<=hi) {s:Span} (hs:s.lo<=s.hi) (hin:∀ n,s.has n↔(lo<=n/\n<=hi)/\p n) : hull p lo (hi - lo+1).toNat=some s:=by
 cases hh:hull p lo (hi - lo+1).toNat with
 | none =>have h1:=(hin s.lo).1 ⟨Int.le_refl _,hs⟩;exact absurd h1.2 (hull_none hh _ h1.1.1 (by omega))
 | some t =>obtain ⟨a1,a2,a3,a4,a5,a6⟩:=zOF hh;have h1:=(hin s.lo).1 ⟨Int.le_refl _,hs⟩;have h2:=(hin s.hi).1 ⟨hs,Int.le_refl _⟩;have h3:=(hin t.lo).2 ⟨⟨a1,by omega⟩,a4⟩;have h4:=(hin t.hi).2 ⟨⟨by omega,by omega⟩,a5⟩;have h5:=a6 s.lo h1.1.1 (by omega) h1.2;have h6:=a6 s.hi h2.1.1 (by omega) h2.2;unfold Span.has at *;obtain ⟨sl,sh⟩:=s;obtain ⟨tl,th⟩:=t;simp only [Option.some.injEq,Span.mk.injEq] at *;omega
theorem hull_no {p:Int->Prop} {lo hi:Int} (hin:∀ n,¬ ((lo<=n/\n<=hi)/\p n)) : hull p lo (hi - lo+1).toNat=none:=by
 cases hh:hull p lo (hi - lo+1).toNat with
 | none=>rfl
 | some t =>obtain ⟨a1,a2,a3,a4,a5,a6⟩:=zOF hh;exact absurd ⟨⟨a1,by omega⟩,a4⟩ (hin t.lo)
end
section
open Go.RowKit
theorem wf_i64 {x:Int} (h:I64 x) : (Lit.int .i64 x).wf=true:=by
 obtain ⟨h1,h2⟩:=h;show (decide (_<=x) && decide (x<=_))=true
 rw [Bool.and_eq_true,decide_eq_true_iff,decide_eq_true_iff];exact ⟨h1,h2⟩
theorem zJN {x:Int} (h:I64 x) : keyOf Tryz.prog 3 (.int .i64 x)=some (.int .i64 x):=Maps.keyOf_int_mk Tryz.underlying3 (wf_i64 h)
theorem zCS:Maps.Keyed Tryz.prog 3:=Maps.int_keyed Tryz.underlying3
def MapB (w:World) (b n:Nat) (L:List Int) : Prop :=
 ∃ D:DataW Unit,w.ownsMap Tryz.prog 3 (plainElem Tryz.prog 4) b n D/\L.Nodup/\Maps.size D=L.length /\
  ∀ x,I64 x->Maps.has D (.int .i64 x)=decide (x∈L)/\D.atKey (.int .i64 x) (.lit (.bool false)) = .lit (.bool (decide (x∈L)))
def MapI (w:World) (b n:Nat) (f:Int->Option Int) : Prop :=
 ∃ D:DataW Unit,w.ownsMap Tryz.prog 3 (plainElem Tryz.prog 3) b n D /\
  ∀ x,I64 x->Maps.has D (.int .i64 x)=(f x).isSome/\∀ z,D.atKey (.int .i64 x) z=match f x with | some c=>.lit (.int .i64 c) | none=>z
theorem zMO {H:Type} {P:Program} {k:TypeId} {R:Value->Option (DataW H×List MemPlace)} {w w':World} {b n:Nat} {D:DataW H} (h:w.ownsMap P k R b n D) (e:w'.heap[b]? = w.heap[b]?) : w'.ownsMap P k R b n D:=by
 obtain ⟨es,clock,hb,F,hs,hD⟩:=h;exact ⟨es,clock,e.trans hb,F,hs,hD⟩
theorem MapB.same {w w':World} {b n:Nat} {L:List Int} (h:MapB w b n L) (e:w'.heap[b]? = w.heap[b]?) : MapB w' b n L:=by
 obtain ⟨D,h1,h2⟩:=h;exact ⟨D,zMO h1 e,h2⟩
theorem MapI.same {w w':World} {b n:Nat} {f:Int->Option Int} (h:MapI w b n f) (e:w'.heap[b]? = w.heap[b]?) : MapI w' b n f:=by
 obtain ⟨D,h1,h2⟩:=h;exact ⟨D,zMO h1 e,h2⟩
theorem MapB.lt {w:World} {b n:Nat} {L:List Int} (h:MapB w b n L) : b < w.heap.size:=by obtain ⟨D,h1,h2⟩:=h;exact h1.lt
theorem MapI.lt {w:World} {b n:Nat} {f:Int->Option Int} (h:MapI w b n f) : b < w.heap.size:=by obtain ⟨D,h1,h2⟩:=h;exact h1.lt
theorem mapB_made (w:World) : MapB (w.alloc (.map #[] 0)) w.heap.size 0 [] :=
 ⟨.map [],World.ownsMap_made w _ _ _,List.nodup_nil,rfl,fun x _=>⟨by simp [Maps.has],by simp [DataW.atKey]⟩⟩
theorem mapI_made (w:World) : MapI (w.alloc (.map #[] 0)) w.heap.size 0 (fun _=>none) :=
 ⟨.map [],World.ownsMap_made w _ _ _,fun x _=>⟨by simp [Maps.has],fun z=>by simp [DataW.atKey]⟩⟩
theorem zNP {v:Value} {z:DataW Unit×List MemPlace} (h:plainElem Tryz.prog 4 v=some z) : ∃ x,v = .bool x/\z=(.lit (.bool x),[]):=by
 unfold plainElem at h;have hu:=Tryz.underlying4;generalize Tryz.prog.underlying 4=u at hu h;subst hu;cases v <;> simp at h;subst h;exact ⟨_,rfl,rfl⟩
theorem mapB_look {w:World} {b n:Nat} {L:List Int} (h:MapB w b n L) {x:Int} (hx:I64 x) : (Instr.lookup 243 (.map (some b)) (.int .i64 x) false).run Tryz.prog w = .ok (.bool (decide (x∈L))) w:=by
 obtain ⟨D,ho,-,-,hD⟩:=h;obtain ⟨v,ps,hr,hv⟩:=ho.lookup zCS Tryz.underlying243 (Tryz.zeroValue4 w) (plainElem_bool Tryz.underlying4 false) (zJN hx);obtain ⟨y,rfl,e⟩:=zNP hv;rw [(hD x hx).2] at e;simp at e;rw [hr,<- e.1]
theorem mapI_look {w:World} {b n:Nat} {f:Int->Option Int} (h:MapI w b n f) {x:Int} (hx:I64 x) : (Instr.lookup 92 (.map (some b)) (.int .i64 x) false).run Tryz.prog w = .ok (.int .i64 ((f x).getD 0)) w:=by
 obtain ⟨D,ho,hD⟩:=h;obtain ⟨c,hr,hc,-⟩:=ho.lookup_int zCS Tryz.underlying92 Tryz.underlying3 (Tryz.zeroValue3 w) (zJN hx);rw [(hD x hx).2] at hc;rw [hr];cases hf:f x with
 | none=>rw [hf] at hc;simp at hc;simp [hc]
 | some y=>rw [hf] at hc;simp at hc;simp [hc]
theorem mapB_len {w:World} {b n:Nat} {L:List Int} (h:MapB w b n L) : ∀ ty,(Builtin.len_ #[243] ty #[.map (some b)]).run Tryz.prog w = .ok (.int .i64 L.length) w:=by
 obtain ⟨D,ho,-,hs,hD⟩:=h;intro ty;rw [ho.len Tryz.underlying243,hs]
theorem zGP (x:Int) : WideAt.IsKeyLit (.int .i64 x):=by simp [WideAt.IsKeyLit]
theorem zNH {x y:Int} (h:x≠y) : (Lit.int .i64 x) ≠ .int .i64 y:=by intro e;cases e;exact h rfl
theorem mapB_put {w:World} {b n:Nat} {L:List Int} (h:MapB w b n L) {x:Int} (hx:I64 x) (hL:x ∉ L) (hn:n < maxLen) :
  ∃ w',(Instr.mapUpdate 243 (.map (some b)) (.int .i64 x) (.bool true)).run Tryz.prog w = .ok () w'/\MapB w' b (n+1) (L++[x])/\w.grownBy w' (some b):=by
 obtain ⟨D,ho,hd,hs,hD⟩:=h;obtain ⟨w',hr,ho',hg⟩:=ho.update zCS Tryz.underlying243 hn (zJN hx) (plainElem_bool Tryz.underlying4 true);refine ⟨w',hr,⟨_,ho',?_,?_,fun y hy=>?_⟩,hg⟩
 ·rw [List.nodup_append];exact ⟨hd,by simp,fun a ha b hb=>by simp at hb;subst hb;intro e;subst e;exact hL ha⟩
 ·rw [Maps.size_put (ho.tidy zCS),(hD x hx).1,hs];simp [hL]
 ·by_cases e:y=x
  ·subst e;exact ⟨by rw [Maps.has_put_same ho.isMap (zGP _)];simp,by rw [Maps.atKey_put_same ho.isMap (zGP _)];simp⟩
  ·exact ⟨by rw [Maps.has_put_other (zNH e),(hD y hy).1];simp [e],by rw [Maps.atKey_put_other (zNH e),(hD y hy).2];simp [e]⟩
theorem mapI_put {w:World} {b n:Nat} {f:Int->Option Int} (h:MapI w b n f) {x c:Int} (hx:I64 x) (hc:I64 c) (hn:n < maxLen) :
  ∃ w',(Instr.mapUpdate 92 (.map (some b)) (.int .i64 x) (.int .i64 c)).run Tryz.prog w = .ok () w'/\MapI w' b (n+1) (fun y=>if y=x then some c else f y)/\w.grownBy w' (some b):=by
 obtain ⟨D,ho,hD⟩:=h;obtain ⟨w',hr,ho',hg⟩:=ho.update zCS Tryz.underlying92 hn (zJN hx) (plainElem_int Tryz.underlying3 (wf_i64 hc));refine ⟨w',hr,⟨_,ho',fun y hy=>?_⟩,hg⟩;by_cases e:y=x
 ·subst e;exact ⟨by rw [Maps.has_put_same ho.isMap (zGP _)];simp,fun z=>by rw [Maps.atKey_put_same ho.isMap (zGP _)];simp⟩
 ·exact ⟨by rw [Maps.has_put_other (zNH e),(hD y hy).1];simp [e],fun z=>by rw [Maps.atKey_put_other (zNH e),(hD y hy).2];simp [e]⟩
theorem mapB_del {w:World} {b n:Nat} {L:List Int} (h:MapB w b n L) {x:Int} (hx:I64 x) (hL:x∈L) (ty:TypeId) :
  ∃ w',(Builtin.delete_ #[243,3] ty #[.map (some b),.int .i64 x]).run Tryz.prog w = .ok (.tuple #[]) w'/\MapB w' b n (L.erase x)/\w.grownBy w' (some b):=by
 obtain ⟨D,ho,hd,hs,hD⟩:=h;obtain ⟨w',hr,ho',hg⟩:=ho.drop zCS Tryz.underlying243 (zJN hx) ty;refine ⟨w',hr,⟨_,ho',hd.erase _,?_,fun y hy=>?_⟩,hg.grown⟩
 ·have:=Maps.size_del (ho.tidy zCS) (k:=.int .i64 x);rw [(hD x hx).1,hs] at this;simp [hL] at this;rw [List.length_erase_of_mem hL];omega
 ·by_cases e:y=x
  ·subst e
   have hn:¬ y∈L.erase y:=fun h=>(hd.mem_erase_iff.1 h).1 rfl
   exact ⟨by rw [Maps.has_del_same];simp [hn],by rw [Maps.atKey_del_same];simp [hn]⟩
  ·have hm:y∈L.erase x↔y∈L:=by rw [hd.mem_erase_iff];simp [e]
   exact ⟨by rw [Maps.has_del_other (zNH e),(hD y hy).1];simp [hm],by rw [Maps.atKey_del_other (zNH e),(hD y hy).2];simp [hm]⟩
end
section
open Tryz
def zBD (xs:List Issue) : List Int:=xs.flatMap (fun x=>x.items.map (·.d))
def zGE (f:Int->Option Int) (l:List Int) : Int:=l.foldl (fun m y=>max m ((f y).getD 0)) 0
def zCM (L:List Int) (n:Int) (l:List Int) : Bool:=decide (n∈L) && l.all (fun y=>!decide (y∈L))
def zEH (R:List Issue) (s:List Int×(Int->Option Int)) (n:Int) : List Int×(Int->Option Int) :=
 if zCM s.1 n (zBD (zAL R n))=true then (s.1.erase n,fun y=>if y=n then some (zGE s.2 (zBD (zAL R n))+1) else s.2 y) else s
def stD (R:List Issue) (D:List Int) : Nat->List Int×(Int->Option Int)
 | 0=>(D,fun _=>none)
 | r+1=>D.foldl (zEH R) (stD R D r)
theorem mostOf_snoc (f:Int->Option Int) (l:List Int) (y:Int) : zGE f (l++[y])=max (zGE f l) ((f y).getD 0):=by simp [zGE,List.foldl_append]
theorem readyOf_snoc (L:List Int) (n:Int) (l:List Int) (y:Int) : zCM L n (l++[y])=(zCM L n l && !decide (y∈L)):=by
 unfold zCM;rw [List.all_append];simp [Bool.and_assoc]
theorem mostOf_bd (f:Int->Option Int) (B:Int) (hB:0<=B) (hf:∀ y c,f y=some c->0<=c/\c<=B) (l:List Int) : 0<=zGE f l/\zGE f l<=B:=by
 unfold zGE;have key:∀ (l:List Int) (a:Int),0<=a->a<=B->0<=l.foldl (fun m y=>max m ((f y).getD 0)) a/\l.foldl (fun m y=>max m ((f y).getD 0)) a<=B:=by
  intro l;induction l with
  | nil=>intro a h0 h1;exact ⟨h0,h1⟩
  | cons y l ih =>
    intro a h0 h1;rw [List.foldl_cons];have:0<=(f y).getD 0/\(f y).getD 0<=B:=by
     cases h:f y with
     | none=>simp;omega
     | some c=>simpa using hf y c h
    exact ih _ (by omega) (by omega)
 exact key l 0 (Int.le_refl _) hB
structure Sane (D:List Int) (s:List Int×(Int->Option Int)) : Prop where
 nodup:s.1.Nodup
 sub:∀ y∈s.1,y∈D
 len:s.1.length<=D.length
 bd:∀ y c,s.2 y=some c->1<=c/\c<=(D.length:Int) - s.1.length
theorem sane_start (D:List Int) (hD:D.Nodup) : Sane D (D,fun _=>none):=⟨hD,fun _ h=>h,Nat.le_refl _,fun _ _ h=>by cases h⟩
theorem sane_step (R:List Issue) (D:List Int) (s:List Int×(Int->Option Int)) (n:Int) (h:Sane D s) : Sane D (zEH R s n):=by
 unfold zEH;split
 case isFalse=>exact h
 case isTrue hr =>
  have hn:n∈s.1:=by unfold zCM at hr;rw [Bool.and_eq_true] at hr;exact of_decide_eq_true hr.1
  have hl:=List.length_erase_of_mem hn;have hpos:0 < s.1.length:=List.length_pos_of_mem hn;have:=h.len;refine ⟨h.nodup.erase _,fun y hy=>h.sub y (List.mem_of_mem_erase hy),(show (s.1.erase n).length<=D.length by omega),fun y c hy=>?_⟩;simp only at hy ⊢;split at hy
  ·cases hy;have:=mostOf_bd s.2 ((D.length:Int) - s.1.length) (by omega) (fun y c hc=>by have:=h.bd y c hc;omega) (zBD (zAL R n));omega
  ·have:=h.bd y c hy;omega
theorem sane_fold (R:List Issue) (D l:List Int) (s:List Int×(Int->Option Int)) (h:Sane D s) : Sane D (l.foldl (zEH R) s):=by
 induction l generalizing s with
 | nil=>exact h
 | cons n l ih=>exact ih _ (sane_step R D s n h)
theorem sane_st (R:List Issue) (D:List Int) (hD:D.Nodup) (r:Nat) : Sane D (stD R D r):=by
 induction r with
 | zero=>exact sane_start D hD
 | succ r ih=>exact sane_fold R D D _ ih
def stI (R:List Issue) (D:List Int) (r i:Nat) : List Int×(Int->Option Int):=(D.take i).foldl (zEH R) (stD R D r)
theorem stI_all (R:List Issue) (D:List Int) (r i:Nat) (h:D.length<=i) : stI R D r i=stD R D (r+1):=by unfold stI;rw [List.take_of_length_le h];rfl
theorem stI_succ (R:List Issue) (D:List Int) (r i:Nat) (h:i < D.length) : stI R D r (i+1)=zEH R (stI R D r i) D[i]:=by
 unfold stI;rw [List.take_succ_eq_append_getElem h,List.foldl_append];rfl
theorem sane_stI (R:List Issue) (D:List Int) (hD:D.Nodup) (r i:Nat) : Sane D (stI R D r i):=sane_fold R D _ _ (sane_st R D hD r)
end
section
open Tryz
open Go.RowKit Go.Shelf
attribute [local go_sem] zAE Oper.grows Oper.growUpon Oper.semAt_some
structure St (w0 wr:World) (k:Nat) (s:List Int×(Int->Option Int)) : Prop where
 below:Below w0.heap.size w0 wr
 dbox:Boxed wr (w0.heap.size+1) 92 (.map (some w0.heap.size))
 lbox:Boxed wr (w0.heap.size+1+1+1) 243 (.map (some (w0.heap.size+1+1)))
 dm:∃ m,m<=k/\MapI wr w0.heap.size m s.2
 lm:∃ m,m<=k/\MapB wr (w0.heap.size+1+1) m s.1
theorem Boxed.same2 {W W':World} {B:Nat} {t:TypeId} {v:Value} (h:Boxed W B t v) (e:W'.heap[B]? = W.heap[B]?) : Boxed W' B t v:=e.trans h
theorem St.same {w0 wr wr':World} {k:Nat} {s:List Int×(Int->Option Int)} (h:St w0 wr k s) (hb:Below w0.heap.size w0 wr') (e:∀ b,b < w0.heap.size+4->wr'.heap[b]? = wr.heap[b]?) : St w0 wr' k s:=by
 obtain ⟨h1,h2,h3,⟨m,hm,h4⟩,⟨m',hm',h5⟩⟩:=h;exact ⟨hb,Boxed.same2 h2 (e _ (by omega)),Boxed.same2 h3 (e _ (by omega)),⟨m,hm,h4.same (e _ (by omega))⟩,⟨m',hm',h5.same (e _ (by omega))⟩⟩
theorem MapI.alloc {w:World} {b n:Nat} {f:Int->Option Int} (h:MapI w b n f) (o:Obj) : MapI (w.alloc o) b n f:=h.same (Below.block (zB w o) b h.lt)
theorem MapB.alloc {w:World} {b n:Nat} {f:List Int} (h:MapB w b n f) (o:Obj) : MapB (w.alloc o) b n f:=h.same (Below.block (zB w o) b h.lt)
theorem St.lt {w0 wr:World} {k:Nat} {s:List Int×(Int->Option Int)} (h:St w0 wr k s) : w0.heap.size+4<=wr.heap.size:=by have:=h.lbox.lt;omega
theorem St.ext {w0 wr wr':World} {k:Nat} {s:List Int×(Int->Option Int)} (h:St w0 wr k s) (hb:Below wr.heap.size wr wr') : St w0 wr' k s :=
 h.same (zA h.below hb) (fun b hlt=>hb.block b (by have:=h.lt;omega))
theorem St.kept {w0 wr wr':World} {k:Nat} {s:List Int×(Int->Option Int)} {row:Option Nat} (h:St w0 wr k s) (hg:wr.grownBy wr' row) (hr:∀ r,row=some r->w0.heap.size+4<=r) : St w0 wr' k s :=
 h.same (h.below.grown hg h.below.size (fun r e=>by have:=hr r e;omega)) (fun b hlt=>hg.block b (by have:=h.lt;omega) (fun e=>by have:=hr b e.symm;omega))
theorem St.set {w0 wr:World} {k:Nat} {s:List Int×(Int->Option Int)} (h:St w0 wr k s) {g j:Nat} (hg:w0.heap.size+4<=g) (v:Value) : St w0 (wr.setCell ⟨g,j,none⟩ v) k s :=
 h.same (h.below.setCell (p:=⟨g,j,none⟩) (by show w0.heap.size<=g;omega) v) (fun b hlt=>Below.heap_setCell wr ⟨g,j,none⟩ v b (by show b≠g;omega))
def marks (ds:List Nat) : List Deferred:=ds.map (fun d=>{ target:=.collected d,args:=#[] })
def zBP (n:Nat) (w:World) (ds:List Nat) : Prop:=ds.Nodup/\∀ d∈ds,n<=d/\w.heap[d]? = some (.deferred (some []))
theorem zBP.ext {n:Nat} {w w':World} {ds:List Nat} (h:zBP n w ds) (hb:Below w.heap.size w w') : zBP n w' ds :=
 ⟨h.1,fun d hd=>⟨(h.2 d hd).1,(hb.block d (Array.getElem?_eq_some_iff.1 (h.2 d hd).2).1).trans (h.2 d hd).2⟩⟩
theorem zBP.keeps {n:Nat} {w w':World} {ds:List Nat} (h:zBP n w ds) (hk:KeepsFrom n w w') : zBP n w' ds :=
 ⟨h.1,fun d hd=>⟨(h.2 d hd).1,hk.same d _ (h.2 d hd).1 (h.2 d hd).2 rfl⟩⟩
theorem zBP.cons {n:Nat} {w:World} {ds:List Nat} {d:Nat} (h:zBP n w ds) (hn:n<=d) (hd:w.heap[d]? = some (.deferred (some []))) (hf:d ∉ ds) : zBP n w (d :: ds) :=
 ⟨List.nodup_cons.2 ⟨hf,h.1⟩,fun e he=>by
  rcases List.mem_cons.1 he with rfl | h'
  ·exact ⟨hn,hd⟩
  ·exact h.2 e h'⟩
theorem zBP.kept {n:Nat} {w w':World} {ds:List Nat} {row:Option Nat} (h:zBP n w ds) (hg:w.grownBy w' row) (hr:∀ d∈ds,some d≠row) : zBP n w' ds :=
 ⟨h.1,fun d hd=>⟨(h.2 d hd).1,(hg.block d (Array.getElem?_eq_some_iff.1 (h.2 d hd).2).1 (hr d hd)).trans (h.2 d hd).2⟩⟩
theorem Boxed.keptN {W W':World} {row:Option Nat} {B:Nat} {v:Value} {t:TypeId} (h:Boxed W B t v) (hg:W.grownBy W' row) (hr:∀ r,row=some r->∃ o:Obj,W.heap[r]? = some o/\o.isCells=false) : Boxed W' B t v :=
 Lay.keptN h hg hr
theorem zBP.lt {n:Nat} {w:World} {ds:List Nat} (h:zBP n w ds) {d:Nat} (hd:d∈ds) : d < w.heap.size:=(Array.getElem?_eq_some_iff.1 (h.2 d hd).2).1
theorem leaves_marks {F:Fence} {n:Nat} {P:Program} {fn:Func} {tmps:Array Value} {R:Ending->World->Prop} {v:Value} (b:Nat) (Z:World->Prop) (hZ:∀ (W:World) (d:Nat),b<=d->W.heap[d]? = some (.deferred (some []))->Z W->Z (W.putObj d (.deferred none)))
  (hR:∀ W,Z W->(results fn tmps).run P W = .ok v W/\R (.returned v) W) (ds:List Nat) (w:World) (hm:zBP b w ds) (hz:Z w) : LeavesInM F n P fn tmps R (marks ds) .returning w:=by
 induction ds generalizing w with
 | nil =>obtain ⟨h1,h2⟩:=hR w hz;exact ⟨_,h1,h2⟩
 | cons d ds ih =>obtain ⟨hd,hk⟩:=hm.2 d (by simp);have hn:=(List.nodup_cons.1 hm.1);refine ⟨by simp,.inl ⟨d,_,rfl,run_takeDeferred hk,ih _ ⟨hn.2,fun e he=>?_⟩ (hZ w d hd hk hz)⟩⟩;have:=hm.2 e (by simp [he]);exact ⟨this.1,(World.putObj_heap_other (fun h=>hn.1 (by first | (rw [h];exact he) | (rw [<- h];exact he)))).trans this.2⟩
def nth:List Value->Nat->Value
 | [],_=>undef
 | x :: _,0=>x
 | _ :: l,k+1=>nth l k
def Out (w0:World) (pb:Nat) (R:List Issue) (D:List Int) (a:Act) (wr:World) : Prop :=
 ∃ (u:Nat->Value) (ds:List Nat) (r:Nat),a = { tmps:=#[.pointer (some ⟨pb,0,none⟩),(u 1),(u 2),(u 3),.pointer (some ⟨w0.heap.size+1,0,none⟩),.pointer (some ⟨w0.heap.size+1+1+1,0,none⟩),(u 6),(u 7),(u 8),(u 9),(u 10),(u 11),(u 12),(u 13),(u 14),(u 15),(u 16),(u 17),(u 18),(u 19),(u 20),(u 21),(u 22),(u 23),(u 24),(u 25),(u 26),(u 27),(u 28),(u 29),(u 30),(u 31),(u 32),.int .i64 D.length,.int .i64 r,(u 35),(u 36),(u 37),(u 38),(u 39),(u 40),(u 41),(u 42),(u 43),(u 44),(u 45),(u 46),(u 47),(u 48),(u 49),(u 50),(u 51),(u 52),(u 53),(u 54),(u 55),(u 56),(u 57),(u 58),(u 59),(u 60),(u 61),(u 62),(u 63),(u 64),(u 65),(u 66),(u 67),(u 68),(u 69),(u 70),(u 71),(u 72),(u 73),(u 74),(u 75),(u 76),(u 77),(u 78),(u 79),(u 80),(u 81),(u 82),(u 83),(u 84),(u 85),(u 86)],defers:=marks ds } /\
  r<=D.length/\St w0 wr (D.length+r*D.length) (stD R D r)/\zBP (w0.heap.size+4) wr ds
theorem Out.of {w0:World} {pb:Nat} {R:List Issue} {D:List Int} {wr:World} (l:List Value) (ds:List Nat) (r:Nat) (hl:l.toArray = #[.pointer (some ⟨pb,0,none⟩),((nth l) 1),((nth l) 2),((nth l) 3),.pointer (some ⟨w0.heap.size+1,0,none⟩),.pointer (some ⟨w0.heap.size+1+1+1,0,none⟩),((nth l) 6),((nth l) 7),((nth l) 8),((nth l) 9),((nth l) 10),((nth l) 11),((nth l) 12),((nth l) 13),((nth l) 14),((nth l) 15),((nth l) 16),((nth l) 17),((nth l) 18),((nth l) 19),((nth l) 20),((nth l) 21),((nth l) 22),((nth l) 23),((nth l) 24),((nth l) 25),((nth l) 26),((nth l) 27),((nth l) 28),((nth l) 29),((nth l) 30),((nth l) 31),((nth l) 32),.int .i64 D.length,.int .i64 r,((nth l) 35),((nth l) 36),((nth l) 37),((nth l) 38),((nth l) 39),((nth l) 40),((nth l) 41),((nth l) 42),((nth l) 43),((nth l) 44),((nth l) 45),((nth l) 46),((nth l) 47),((nth l) 48),((nth l) 49),((nth l) 50),((nth l) 51),((nth l) 52),((nth l) 53),((nth l) 54),((nth l) 55),((nth l) 56),((nth l) 57),((nth l) 58),((nth l) 59),((nth l) 60),((nth l) 61),((nth l) 62),((nth l) 63),((nth l) 64),((nth l) 65),((nth l) 66),((nth l) 67),((nth l) 68),((nth l) 69),((nth l) 70),((nth l) 71),((nth l) 72),((nth l) 73),((nth l) 74),((nth l) 75),((nth l) 76),((nth l) 77),((nth l) 78),((nth l) 79),((nth l) 80),((nth l) 81),((nth l) 82),((nth l) 83),((nth l) 84),((nth l) 85),((nth l) 86)])
  (h1:r<=D.length) (h2:St w0 wr (D.length+r*D.length) (stD R D r)) (h3:zBP (w0.heap.size+4) wr ds) : Out w0 pb R D { tmps:=l.toArray,defers:=marks ds } wr :=
 ⟨nth l,ds,r,by rw [<- hl],h1,h2,h3⟩
def Inn (w0:World) (pb:Nat) (R:List Issue) (D:List Int) (ad:Option Addr) (cd r:Nat) (a:Act) (wr:World) : Prop :=
 ∃ (u:Nat->Value) (ds:List Nat) (i:Nat),a = { tmps:=#[.pointer (some ⟨pb,0,none⟩),(u 1),(u 2),(u 3),.pointer (some ⟨w0.heap.size+1,0,none⟩),.pointer (some ⟨w0.heap.size+1+1+1,0,none⟩),(u 6),(u 7),(u 8),(u 9),(u 10),(u 11),(u 12),(u 13),(u 14),(u 15),(u 16),(u 17),(u 18),(u 19),(u 20),(u 21),(u 22),(u 23),(u 24),(u 25),(u 26),(u 27),(u 28),(u 29),(u 30),(u 31),(u 32),.int .i64 D.length,.int .i64 r,(u 35),(u 36),(u 37),(u 38),.slice ad D.length cd,.int .i64 D.length,.int .i64 i,(u 42),(u 43),(u 44),(u 45),(u 46),(u 47),(u 48),(u 49),(u 50),(u 51),(u 52),(u 53),(u 54),(u 55),(u 56),(u 57),(u 58),(u 59),(u 60),(u 61),(u 62),(u 63),(u 64),(u 65),(u 66),(u 67),(u 68),(u 69),(u 70),(u 71),(u 72),(u 73),(u 74),(u 75),(u 76),(u 77),(u 78),(u 79),(u 80),(u 81),(u 82),(u 83),(u 84),(u 85),(u 86)],defers:=marks ds } /\
  i<=D.length/\St w0 wr (D.length+r*D.length+i) (stI R D r i)/\zBP (w0.heap.size+4) wr ds
theorem Inn.of {w0:World} {pb:Nat} {R:List Issue} {D:List Int} {ad:Option Addr} {cd r:Nat} {wr:World} (l:List Value) (ds:List Nat) (i:Nat) (hl:l.toArray = #[.pointer (some ⟨pb,0,none⟩),((nth l) 1),((nth l) 2),((nth l) 3),.pointer (some ⟨w0.heap.size+1,0,none⟩),.pointer (some ⟨w0.heap.size+1+1+1,0,none⟩),((nth l) 6),((nth l) 7),((nth l) 8),((nth l) 9),((nth l) 10),((nth l) 11),((nth l) 12),((nth l) 13),((nth l) 14),((nth l) 15),((nth l) 16),((nth l) 17),((nth l) 18),((nth l) 19),((nth l) 20),((nth l) 21),((nth l) 22),((nth l) 23),((nth l) 24),((nth l) 25),((nth l) 26),((nth l) 27),((nth l) 28),((nth l) 29),((nth l) 30),((nth l) 31),((nth l) 32),.int .i64 D.length,.int .i64 r,((nth l) 35),((nth l) 36),((nth l) 37),((nth l) 38),.slice ad D.length cd,.int .i64 D.length,.int .i64 i,((nth l) 42),((nth l) 43),((nth l) 44),((nth l) 45),((nth l) 46),((nth l) 47),((nth l) 48),((nth l) 49),((nth l) 50),((nth l) 51),((nth l) 52),((nth l) 53),((nth l) 54),((nth l) 55),((nth l) 56),((nth l) 57),((nth l) 58),((nth l) 59),((nth l) 60),((nth l) 61),((nth l) 62),((nth l) 63),((nth l) 64),((nth l) 65),((nth l) 66),((nth l) 67),((nth l) 68),((nth l) 69),((nth l) 70),((nth l) 71),((nth l) 72),((nth l) 73),((nth l) 74),((nth l) 75),((nth l) 76),((nth l) 77),((nth l) 78),((nth l) 79),((nth l) 80),((nth l) 81),((nth l) 82),((nth l) 83),((nth l) 84),((nth l) 85),((nth l) 86)])
  (h1:i<=D.length) (h2:St w0 wr (D.length+r*D.length+i) (stI R D r i)) (h3:zBP (w0.heap.size+4) wr ds) : Inn w0 pb R D ad cd r { tmps:=l.toArray,defers:=marks ds } wr :=
 ⟨nth l,ds,i,by rw [<- hl],h1,h2,h3⟩
def NewBox (base:Nat) (t:TypeId) (v0:Value) (v:Value) (w:World) : Prop:=∃ b,v = .pointer (some ⟨b,0,none⟩)/\base<=b/\Boxed w b t v0
theorem zPS (base:Nat) (t:TypeId) (v0:Value) : zED (NewBox base t v0):=fun _ _ _ hb ⟨b,h1,h2,h3⟩=>⟨b,h1,h2,Boxed.same2 h3 (hb.block b h3.lt)⟩
theorem set_self {w:World} {b:Nat} {t:TypeId} {v:Value} (h:Boxed w b t v) : w.setCell ⟨b,0,none⟩ v=w:=by
 obtain ⟨hlt,hk⟩:=Array.getElem?_eq_some_iff.1 (show w.heap[b]? = _ from h);have e:(w.setCell ⟨b,0,none⟩ v).heap=w.heap:=by
  apply Array.ext_getElem?;intro j;by_cases hj:j=b
  ·subst hj;exact (h.set v).trans (show w.heap[j]? = _ from h).symm
  ·exact Below.heap_setCell w ⟨b,0,none⟩ v j hj
 have e2:w.setCell ⟨b,0,none⟩ v = { w with heap:=(w.setCell ⟨b,0,none⟩ v).heap }:=rfl;rw [e2,e]
theorem max_if (a b:Int) : max a b=if a < b then b else a:=by split <;> omega
theorem round_two {w W wr:World} {K B10 B11 b3 b6:Nat} {s:List Int×(Int->Option Int)} {t t':TypeId} {u u' v m:Value} {ds:List Nat} {o:Obj} (h:St w wr K s/\zBP (w.heap.size+4) wr ds/\KeepsFrom b6 W wr/\KpB w.heap.size b3 W wr) (h10:Boxed wr B10 t u) (h11:Boxed wr B11 t' u')
  (hl10:w.heap.size+4<=B10) (hl11:w.heap.size+4<=B11) (hne:B10≠B11) (h30:b3≠B10) (h31:b3≠B11) (W':World) (e:W'=((wr.setCell ⟨B11,0,none⟩ v).setCell ⟨B10,0,none⟩ m).alloc o) :
  Boxed W' B10 t m/\Boxed W' B11 t' v/\St w W' K s/\zBP (w.heap.size+4) W' ds/\KeepsFrom b6 W W'/\KpB w.heap.size b3 W W':=by
 subst e;obtain ⟨h1,h2,h3,h4⟩:=h;have ks:KeepsOthers wr (((wr.setCell ⟨B11,0,none⟩ v).setCell ⟨B10,0,none⟩ m).alloc o):=((KeepsOthers.setCell _ _ _).trans (KeepsOthers.setCell _ _ _)).trans (KeepsOthers.alloc _ _);have hs2:=(h1.set (j:=0) hl11 v).set (j:=0) hl10 m;refine ⟨((h10.other hne v).set m).alloc o,((h11.set v).other hne.symm m).alloc o,hs2.ext (zB _ _),h2.keeps (ks.from _),h3.trans (ks.from _),kpB_t (kpB_t (kpB_t h4 (kpB_set (by omega) h31 v)) (kpB_set (by omega) h30 m)) (kpB_alloc hs2.below.size o)⟩
theorem depths_iss (w:World) (pb:Nat) (vr vd:Value) (R:List Issue) (D:List Int) (hB:BookAt w pb vr vd R D) (hs:zLJ R) (hlen:R.length<=100) (hne:R≠[]) (hD:D.Nodup) (hDl:D.length<=20) :
  Calls prog 164 #[.pointer (some ⟨pb,0,none⟩)] w fun e w' =>
   (∃ b m,e = .returned (.tuple #[.map (some b),.bool (decide (0 < (stD R D D.length).1.length))])/\m<=1000/\MapI w' b m (stD R D D.length).2)/\Below w.heap.size w w':=by
 have hmm:=@run_makeMap prog;have hc1:=hB.c1;have hdr:=hB.dr;obtain ⟨ad,cd,rfl,_⟩:=zD hdr;unfold zK at hc1;refine (callsIn_wide (n:=3)).1 ?_;refine callsIn_of_wp_marks func164 rfl trivial ?_ rfl;simp only [ntmps164,List.size_toArray,List.length_cons,List.length_nil,Nat.reduceAdd,Nat.reduceSub,Array.replicate_succ,Array.replicate_zero,List.push_toArray,List.append_toArray,List.nil_append,List.cons_append];have hpl:=zAD hB.c1;have HB:=zE hB;have HDR:=zE (zY hdr).2;have HND:=zE hD;have hsub:=hdr;clear hdr hB hD;have m1:=mapI_made w;have m2:=mapB_made ((w.alloc (.map #[] 0)).alloc (.cells #[.map (some w.heap.size)] 92));have b1:=((Boxed.new (w.alloc (.map #[] 0)) 92 (.map (some w.heap.size))).alloc (.map #[] 0)).alloc (.cells #[.map (some (w.heap.size+1+1))] 243);have b2:=Boxed.new (((w.alloc (.map #[] 0)).alloc (.cells #[.map (some w.heap.size)] 92)).alloc (.map #[] 0)) 243 (.map (some (w.heap.size+1+1)));have hb:=(((Below.refl w.heap.size w).alloc (Nat.le_refl _) (.map #[] 0)).alloc (by simp) (.cells #[.map (some w.heap.size)] 92)).alloc (by simp;omega) (.map #[] 0) |>.alloc (by simp;omega) (.cells #[.map (some (w.heap.size+1+1))] 243)
 simp only [World.size_alloc] at m2 b1 b2;have m1:=((MapI.alloc m1 (.cells #[.map (some w.heap.size)] 92)).alloc (.map #[] 0)).alloc (.cells #[.map (some (w.heap.size+1+1))] 243);have m2:=MapB.alloc m2 (.cells #[.map (some (w.heap.size+1+1))] 243);have hc4:=zC hb HB.out.c1;unfold zK at hc4;gi_wp2
 clear hc4;gi_loopw [22] (fun i wr=>∃ k:Nat,i = .int .i64 k/\k<=D.length/\St w wr k (D.take k,fun _=>none)) (fun i _=>D.length - (intOf i).toNat)
 case atStart=>exact ⟨0,rfl,Nat.zero_le _,hb,b1,b2,⟨0,Nat.le_refl _,m1⟩,⟨0,Nat.le_refl _,m2⟩⟩
 case round =>
  obtain ⟨k,rfl,hk,hst⟩:=hrel;clear m1 m2 b1 b2 hb hc1;have hpc:=zC hst.below HB.out.c1;have cl:=hst.lbox.cell;by_cases hlt:k < D.length
  ·obtain ⟨b,off,rfl,hc,hx⟩:=HDR.out k hlt
   have hc:=zC hst.below hc;have hnot:D[k] ∉ D.take k:=by intro h;obtain ⟨j,hj,e⟩:=List.getElem_of_mem h;rw [List.length_take] at hj;rw [List.getElem_take] at e;have:=(List.getElem_inj HND.out).1 e;omega
   have htk:D.take (k+1)=D.take k++[D[k]]:=List.take_succ_eq_append_getElem hlt;obtain ⟨m,hm,hM⟩:=hst.lm;obtain ⟨w',hr,hM',hg⟩:=mapB_put hM hx hnot (by have:(20:Nat) < maxLen:=(by decide);omega);rw [<- htk] at hM';have hst':St w w' (k+1) (D.take (k+1),fun _=>none):=by obtain ⟨h1,h2,h3,⟨q,hq,h4⟩,-⟩:=hst;refine ⟨h1.grown hg h1.size (fun r e=>by cases e;omega),Boxed.same2 h2 (hg.block _ h2.lt (by simp)),Boxed.same2 h3 (hg.block _ h3.lt (by simp)),⟨q,by omega,h4.same (hg.block _ h4.lt (by simp;omega))⟩,⟨m+1,by omega,hM'⟩⟩
   have HST:=zE hst';clear hst' hM' hM hg htk hnot;unfold zK at hc hpc;rw [Nat.mul_one] at hc;generalize D[k]=x at *;gi_wp2
   go_roundw
   ·exact ⟨k+1,by go_num,by omega,HST.out⟩
   ·simp [intOf];omega
  ·have hk':k=D.length:=by omega
   subst hk';rw [List.take_length] at hst;have HST:Hid (St w wr D.length (stD R D 0)):=hst;unfold zK at hpc;gi_wp2
   clear hpc cl hst;refine wpIn_loop (Out w pb R D) (fun a _=>D.length - (intOf (a.tmps.getD 34 undef)).toNat) (Out.of _ [] 0 rfl (Nat.zero_le _) (by simpa using HST.out) ⟨List.nodup_nil,fun _ h=>by cases h⟩) ?_;rintro a wr2 ⟨u,ds,r,rfl,hr,hst,hmk⟩;have hpc:=zC hst.below HB.out.c1;unfold zK at hpc;by_cases hlt2:r < D.length
   ·gi_wp2
    clear hpc;refine wpIn_loop (Inn w pb R D ad cd r) (fun a _=>D.length - (intOf (a.tmps.getD 41 undef)).toNat) (Inn.of _ ds 0 rfl (Nat.zero_le _) hst hmk) ?_;clear hst hmk HST;rintro a wr3 ⟨u,ds,i,rfl,hi,hst,hmk⟩;have hpc:=zC hst.below HB.out.c1;have cl:=hst.lbox.cell;unfold zK at hpc;by_cases hlt3:i < D.length
    ·obtain ⟨b,off,rfl,hc,hx⟩:=HDR.out i hlt3
     have hc:=zC hst.below hc;obtain ⟨hsi⟩ : Nonempty (stI R D r (i+1)=zEH R (stI R D r i) D[i]):=⟨stI_succ R D r i hlt3⟩;have hsane:=sane_stI R D HND.out r i;unfold zK at hc;rw [Nat.mul_one] at hc;generalize hn:D[i]=n at *;generalize hsn:stI R D r i=s at *;have LL:∀ xq,(Instr.lookup 243 (.map (some (w.heap.size+1+1))) (.int .i64 n) false).run prog (wr3.later xq) = .ok (.bool (decide (n∈s.1))) (wr3.later xq):=fun xq=>by
      obtain ⟨m,_,hM⟩:=hst.lm;exact mapB_look (hM.same ((zG wr3 xq).block _ hM.lt)) hx
     have k0:=fun xq=>(hst.ext (zG wr3 xq)).lbox.cell
     gi_wp2
     refine wpIn_wide.2 ?_;refine zM 6 (by kernel_rfl) (by kernel_rfl) ?_;simp only [tk_];iterate 3 (apply gx_;focus (intro vs xq hd;(try simp [hq_] at hd);simp only [pf_];go_simp;first | exact ⟨br_,rfl⟩ | exact rfl))
     refine zL (NewBox wr3.heap.size 3 (.int .i64 0)) (zPS _ _ _) ?_ ?_
     ·intro vs xq hd
      (try simp [hq_] at hd)
      simp only [pf_];go_simp;exact ⟨zB _ _,_,rfl,(zG wr3 xq).size,Boxed.new _ _ _⟩
     refine zL (NewBox wr3.heap.size 4 (.bool false)) (zPS _ _ _) ?_ ?_
     ·intro vs xq hd
      (try simp [hq_] at hd)
      simp only [pf_];go_simp;exact ⟨zB _ _,_,rfl,(zG wr3 xq).size,Boxed.new _ _ _⟩
     refine zL (fun _ _=>True) (fun _ _ _ _ h=>h) ?_ ?_
     ·intro vs xq hd
      (try simp [hq_] at hd)
      simp only [pf_];obtain ⟨⟨b3,e,hb3,hx3⟩,-⟩:=hd;have c3:=hx3.cell;have f3:=hx3.frozen;have e3:=set_self hx3;simp only [e];go_simp;exact br_
     refine zQ rfl (fun vs xq hd=>?_);simp [zW,zAI,List.range,List.range.loop] at hd;simp only [pf_];obtain ⟨e0,e1,e2,⟨B10,e3,hb10,x10⟩,⟨B11,e4,hb11,x11⟩⟩:=hd;simp only [Nat.zero_add,Nat.reduceAdd] at e3 e4 ⊢;simp only [e0,e1,e2,e3,e4];have c11:=x11.cell;have f11:=x11.frozen;have hne:B10≠B11:=by intro e;subst e;have h1:(wr3.later xq).heap[B10]? = _:=x10;rw [show (wr3.later xq).heap[B10]? = _ from x11] at h1;cases h1
     have hst5:=(hst.ext (zG wr3 xq)).set (g:=B11) (j:=0) (by have:=hst.lt;omega) (.bool (decide (n∈s.1)));have hmk5:=(hmk.ext (zG wr3 xq)).keeps ((KeepsOthers.setCell (wr3.later xq) ⟨B11,0,none⟩ (.bool (decide (n∈s.1)))).from _);have x10:=x10.other (by first | exact hne | exact hne.symm) (.bool (decide (n∈s.1)));have x11:=x11.set (.bool (decide (n∈s.1)));go_wp2;clear c11 f11 cl k0 LL hpc hc;have hB5:B10 < ((wr3.later xq).setCell ⟨B11,0,none⟩ (.bool (decide (n∈s.1)))).heap.size/\B11 < ((wr3.later xq).setCell ⟨B11,0,none⟩ (.bool (decide (n∈s.1)))).heap.size:=⟨x10.lt,x11.lt⟩;have hlo:w.heap.size+4<=B10/\w.heap.size+4<=B11:=by have:=hst.lt;omega
     generalize (wr3.later xq).setCell ⟨B11,0,none⟩ (.bool (decide (n∈s.1)))=W5 at *;clear hst hmk hb10 hb11 e0 e1 e2 e3 e4;gi_wp2_with (refine ⟨trivial,?_⟩;gi_at_call 165;refine (callsIn_wide.2 (zPF _ _ _)).mono ?_;rintro e w' ⟨rfl,rfl⟩)
     have h2:=two_a W5 (.pointer (some ⟨pb,0,none⟩)) (.int .i64 n) 153 3 W5.heap.size rfl;have h3:=two_b W5 (.pointer (some ⟨pb,0,none⟩)) (.int .i64 n) 153 3 (W5.heap.size+1) rfl;have hb6:Below W5.heap.size W5 ((W5.alloc (.cells #[.pointer (some ⟨pb,0,none⟩)] 153)).alloc (.cells #[.int .i64 n] 3)):=zA (zB _ _) (zB _ _);have hsz6:((W5.alloc (.cells #[.pointer (some ⟨pb,0,none⟩)] 153)).alloc (.cells #[.int .i64 n] 3)).heap.size=W5.heap.size+2:=by simp
     have hst6:=hst5.ext hb6;have hmk6:=hmk5.ext hb6;have hml:∀ d∈ds,d < W5.heap.size:=fun d hd=>hmk5.lt hd
     have x10:=Boxed.same2 x10 (hb6.block _ x10.lt);have x11:=Boxed.same2 x11 (hb6.block _ x11.lt);generalize (W5.alloc _).alloc _=W6 at *;have hl5:=hst5.lt;clear hst5 hmk5 hb6;refine wpIn_rangeFunc_ownH (n:=3) rfl (by decide) (gf:=187) (lb:=#[.pointer (some ⟨W5.heap.size,0,none⟩),.pointer (some ⟨W5.heap.size+1,0,none⟩)]) rfl trivial (enters_of func187 (by kernel_rfl) rfl)
      (zKH 2 (by decide) w W6 hst6.below pb W5.heap.size (W5.heap.size+1) _ _ R D n HB.out h2 h3 hs hlen (by assumption)) kpB_t (kpB_b (by omega)) (br_) (fun _=>rfl)
      (fun pre W=>(St w W (D.length+r*D.length+i) s/\Boxed W B10 3 (.int .i64 (zGE s.2 (zBD (pre.map (·.x)))))/\Boxed W B11 4 (.bool (zCM s.1 n (zBD (pre.map (·.x))))))/\zBP (w.heap.size+4) W ds)
      (fun _ _ _=>False)
      (fun _ A B row hs hg hr=>⟨⟨hs.1.1.kept hg (fun q e=>by have:=(hr q e).1;omega),Boxed.keptN hs.1.2.1 hg (fun r e=>(hr r e).2),Boxed.keptN hs.1.2.2 hg (fun r e=>(hr r e).2)⟩,zBP.kept hs.2 hg (fun d hd e=>by have h1:=(hr d e.symm).1;have h2:=hml d hd;omega)⟩)
      (fun _ _ _ _ _ hs _ _=>hs)
      ⟨⟨hst6,x10,by simpa [zBD,zCM] using x11⟩,hmk6⟩
      (fun x a' W=>∃ Bx,B10 < Bx/\Lay W Bx #[.int .i64 x.x.d,.int .i64 x.x.l,.int .u8 x.x.k,.slice x.ai x.x.items.length x.ci,.slice x.ad x.x.dims.length x.cd] 118/\a' = { tmps:=#[.pointer (some ⟨pb,0,none⟩),(u 1),(u 2),(u 3),.pointer (some ⟨w.heap.size+1,0,none⟩),.pointer (some ⟨w.heap.size+1+1+1,0,none⟩),(u 6),(u 7),(u 8),.int .i64 n,.pointer (some ⟨B10,0,none⟩),.pointer (some ⟨B11,0,none⟩),.pointer (some ⟨Bx,0,none⟩),(u 13),(u 14),(u 15),(u 16),(u 17),(u 18),(u 19),(u 20),(u 21),(u 22),(u 23),(u 24),(u 25),(u 26),(u 27),(u 28),(u 29),(u 30),(u 31),(u 32),.int .i64 D.length,.int .i64 r,(u 35),(u 36),(u 37),(u 38),.slice (some ⟨b,off,none⟩) D.length cd,.int .i64 D.length,.int .i64 i,.bool true,.pointer (some ⟨b,off+i,none⟩),.int .i64 n,.map (some (w.heap.size+1+1)),.int .i64 n,.bool (decide (n∈s.1)),.pointer (some ⟨pb,0,none⟩),.int .i64 n,.func (.func 187) #[] #[.pointer (some ⟨W5.heap.size,0,none⟩),.pointer (some ⟨W5.heap.size+1,0,none⟩)],x.enc,(u 52),(u 53),(u 54),(u 55),(u 56),(u 57),(u 58),(u 59),(u 60),(u 61),(u 62),(u 63),(u 64),(u 65),(u 66),(u 67),(u 68),(u 69),(u 70),(u 71),(u 72),(u 73),(u 74),(u 75),(u 76),(u 77),(u 78),(u 79),(u 80),(u 81),(u 82),(u 83),(u 84),(u 85),(u 86)],defers:=[] })
      (fun x a' _ X Y row hs hg hr=>by obtain ⟨Bx,h1,h2,h3⟩:=hs;exact ⟨Bx,h1,h2.keptN hg (fun r e=>(hr r e).2),h3⟩)
      ?assign ?body ?done ?stop
     case assign =>rintro l0 pre x W K ⟨⟨hstW,y10,y11⟩,hmkW⟩ hK;have hbn:=zB W (.cells #[.int .i64 x.x.d,.int .i64 x.x.l,.int .u8 x.x.k,.slice x.ai x.x.items.length x.ci,.slice x.ad x.x.dims.length x.cd] 118);simp [List.zip_toArray];have hK':=hK _ _ (zDD hbn |>.from _) (kpB_alloc hstW.below.size _) ⟨⟨hstW.ext hbn,Boxed.same2 y10 (hbn.block _ y10.lt),Boxed.same2 y11 (hbn.block _ y11.lt)⟩,hmkW.ext hbn⟩ ⟨W.heap.size,y10.lt,Lay.new W _ _,rfl⟩;clear hK;unfold Iss.enc at hK' ⊢;gi_wp2;exact hK'
     case body =>
      rintro l0 pre ⟨x,ai,ci,aj,cj,hlies⟩ a' W hl ⟨rr,hrr⟩ ⟨⟨hstW,y10,y11⟩,hmkW⟩ ⟨Bx,hBx,bX,rfl⟩ hlt;have cX3:=bX.cell 3 _ rfl;have HST:=zE hstW;have HMK:=zE hmkW;have hl4:=hstW.lt;have hHI:=zE (zY hlies.items).2;have hil:x.items.length<=9223372036854775807:=by obtain ⟨_,_,_,h,_⟩:=hlies.items;exact h
      clear hrr hmkW hmk6 hst6 x10 x11 h2 h3 hs hlen hsub;gi_wp2
      clear cX3 bX hstW;gi_loopw [55] (fun v4 wr4=>∃ j:Nat,v4 = .int .i64 j/\j<=x.items.length/\Boxed wr4 B10 3 (.int .i64 (zGE s.2 (zBD (pre.map (·.x))++(x.items.take j).map (·.d))))/\Boxed wr4 B11 4 (.bool (zCM s.1 n (zBD (pre.map (·.x))++(x.items.take j).map (·.d))))/\Hid (St w wr4 (D.length+r*D.length+i) s/\zBP (w.heap.size+4) wr4 ds/\KeepsFrom W6.heap.size W wr4/\KpB w.heap.size (W5.heap.size+1) W wr4)) (fun v4 _=>x.items.length - (intOf v4).toNat)
      case atStart=>exact ⟨0,rfl,Nat.zero_le _,by simpa using y10,by simpa using y11,zE ⟨HST.out,HMK.out,KeepsFrom.refl _ _,kpB_refl _ _ _⟩⟩
      case round =>
       obtain ⟨j,rfl,hj,z10,z11,HH⟩:=hrel;clear y10 y11;by_cases hlt5:j < x.items.length
       ·obtain ⟨b5,off5,rfl,⟨q0,q1⟩,hnum⟩:=hHI.out j hlt5
        have hst4:=HH.out.1;have q0:=zC hst4.below q0;have q1:=zC hst4.below q1;have l5:=zAD q0;have cl:=hst4.lbox.cell;have dl:=hst4.dbox.cell;have l10:=z10.lt;have l11:=z11.lt;have ll1:=hst4.lbox.lt;have ll2:=hst4.dbox.lt;have f10:=z10.frozen;have f11:=z11.frozen;have htk:(x.items.take (j+1)).map (·.d)=(x.items.take j).map (·.d)++[x.items[j].d]:=by rw [List.take_succ_eq_append_getElem hlt5,List.map_append];rfl
        have hmo:=zE (show zGE s.2 (zBD (pre.map (·.x))++(x.items.take (j+1)).map (·.d))=max (zGE s.2 (zBD (pre.map (·.x))++(x.items.take j).map (·.d))) ((s.2 x.items[j].d).getD 0) by rw [htk,<- List.append_assoc,mostOf_snoc]);have hre:=zE (show zCM s.1 n (zBD (pre.map (·.x))++(x.items.take (j+1)).map (·.d))=(zCM s.1 n (zBD (pre.map (·.x))++(x.items.take j).map (·.d)) && !decide (x.items[j].d∈s.1)) by rw [htk,<- List.append_assoc,readyOf_snoc]);clear htk;generalize x.items[j]=y at *;generalize hlr:zCM s.1 n (zBD (pre.map (·.x))++(x.items.take j).map (·.d))=rb at *;generalize hlm:zGE s.2 (zBD (pre.map (·.x))++(x.items.take j).map (·.d))=mm at *;clear hlr hlm;have LA:(Instr.lookup 243 (.map (some (w.heap.size+1+1))) (.int .i64 y.d) false).run prog (wr.alloc (.cells #[.int .i64 y.d,.int .i64 y.c] 97)) = .ok (.bool (decide (y.d∈s.1))) (wr.alloc (.cells #[.int .i64 y.d,.int .i64 y.c] 97)):=by obtain ⟨m,_,hM⟩:=hst4.lm;exact mapB_look (hM.alloc _) hnum.1
        have LB:∀ v,(Instr.lookup 92 (.map (some w.heap.size)) (.int .i64 y.d) false).run prog ((wr.setCell ⟨B11,0,none⟩ v).alloc (.cells #[.int .i64 y.d,.int .i64 y.c] 97)) = .ok (.int .i64 ((s.2 y.d).getD 0)) ((wr.setCell ⟨B11,0,none⟩ v).alloc (.cells #[.int .i64 y.d,.int .i64 y.c] 97)):=fun v=>by
         obtain ⟨m,_,hM⟩:=hst4.dm;exact mapI_look (MapI.alloc (hM.same (Below.heap_setCell wr ⟨B11,0,none⟩ v _ (by show w.heap.size≠B11;omega))) _) hnum.1
        have c10:=z10.cell;have c11:=z11.cell;unfold zK at q0 q1;have ZZ:=zE (And.intro z10 z11);clear z10 z11 hst4;cases rb with
        | true =>
          gi_wp2
          have HR:=round_two (v:=.bool (!decide (y.d∈s.1))) (m:=.int .i64 (if mm < (s.2 y.d).getD 0 then (s.2 y.d).getD 0 else mm)) (o:=.cells #[.int .i64 y.d,.int .i64 y.c] 97) HH.out ZZ.out.1 ZZ.out.2 hlo.1 hlo.2 (by assumption) (by omega) (by omega) _ rfl;go_roundw
          ·exact ⟨j+1,by go_num,by omega,by rw [hmo.out,max_if];exact HR.1,by rw [hre.out];exact HR.2.1,zE HR.2.2⟩
          ·simp [intOf];omega
        | false =>
          gi_wp2
          have HR:=round_two (v:=.bool (false)) (m:=.int .i64 (if mm < (s.2 y.d).getD 0 then (s.2 y.d).getD 0 else mm)) (o:=.cells #[.int .i64 y.d,.int .i64 y.c] 97) HH.out ZZ.out.1 ZZ.out.2 hlo.1 hlo.2 (by assumption) (by omega) (by omega) _ rfl;go_roundw
          ·exact ⟨j+1,by go_num,by omega,by rw [hmo.out,max_if];exact HR.1,by rw [hre.out];exact HR.2.1,zE HR.2.2⟩
          ·simp [intOf];omega
       ·have hje:j=x.items.length:=by omega
        subst hje;rw [List.take_length] at z10 z11;gi_wp2
        have hsn:zBD ((pre++[(⟨x,ai,ci,aj,cj,hlies⟩ : Iss w)]).map (·.x))=zBD (pre.map (·.x))++x.items.map (·.d):=by simp [zBD]
        exact ⟨HH.out.2.2.1,HH.out.2.2.2,⟨⟨HH.out.1,by rw [hsn];exact z10,by rw [hsn];exact z11⟩,HH.out.2.1⟩⟩
     case done =>
      rintro Dm ys W hDm hS ⟨⟨hstW,y10,y11⟩,hmkW⟩ hK;rw [hS] at y10 y11;have hbd:=mostOf_bd s.2 ((D.length:Int) - s.1.length) (by have:=hsane.len;omega) (fun y c hc=>by have:=hsane.bd y c hc;omega) (zBD (zAL R n));have hml64:(1000:Nat) < maxLen:=by decide
      have hKb:D.length+r*D.length+i < 1000:=by have:r*D.length<=20*20:=Nat.mul_le_mul (by omega) hDl;omega
      have hstep:zEH R s n=if zCM s.1 n (zBD (zAL R n))=true then (s.1.erase n,fun y=>if y=n then some (zGE s.2 (zBD (zAL R n))+1) else s.2 y) else s:=rfl
      have hnd:Dm ∉ ds:=fun h=>by have:=hml _ h;omega
      clear x10 x11 hst6 hmk6 h2 h3 hs hlen hsub;generalize zGE s.2 (zBD (zAL R n))=mm at *;have hready:zCM s.1 n (zBD (zAL R n))=true->n∈s.1:=fun h=>by
       unfold zCM at h;rw [Bool.and_eq_true] at h;exact of_decide_eq_true h.1
      generalize zCM s.1 n (zBD (zAL R n))=rb at *;have c10:=y10.cell;have c11:=y11.cell;have dl:=hstW.dbox.cell;cases rb with
      | true =>
        have hin:=hready rfl;rw [if_pos rfl] at hstep;have hw1:IntKind.i64.wrap (mm+1)=mm+1:=IntWalk.i64_in _ (by omega);obtain ⟨m,hm,hMI⟩:=hstW.dm;obtain ⟨w7,hr7,hM7,hg7⟩:=mapI_put hMI hx (c:=mm+1) ⟨by omega,by omega⟩ (by omega);obtain ⟨m2,hm2,hMB⟩:=hstW.lm;have hMB7:=hMB.same (hg7.block _ hMB.lt (by simp;omega));obtain ⟨w8,hr8,hM8,hg8⟩:=mapB_del hMB7 hx hin 0;have bl7:=Boxed.same2 hstW.lbox (hg7.block _ hstW.lbox.lt (by simp;omega));have bd7:=Boxed.same2 hstW.dbox (hg7.block _ hstW.dbox.lt (by simp));have cl7:=bl7.cell;have hst8:St w w8 (D.length+r*D.length+(i+1)) (zEH R s n):=by
         rw [hstep];exact ⟨(hstW.below.grown hg7 hstW.below.size (fun q e=>by cases e;omega)).grown hg8 (by have:=hstW.below.size;have:=hg7.size;omega) (fun q e=>by cases e;omega),Boxed.same2 bd7 (hg8.block _ bd7.lt (by simp)),Boxed.same2 bl7 (hg8.block _ bl7.lt (by simp)),
          ⟨m+1,by omega,hM7.same (hg8.block _ hM7.lt (by simp;omega))⟩,⟨m2,by omega,hM8⟩⟩
        have hmk8:zBP (w.heap.size+4) w8 (Dm :: ds):=by refine zBP.cons ((hmkW.kept hg7 (fun d hd e=>by cases e;have:=(hmkW.2 _ hd).1;omega)).kept hg8 (fun d hd e=>by cases e;have:=(hmkW.2 _ hd).1;omega)) (by omega) ?_ hnd;have hlt:=(Array.getElem?_eq_some_iff.1 hK).1;rw [hg8.block Dm (by have:=hg7.size;omega) (by simp;omega),hg7.block Dm hlt (by simp;omega)];exact hK
        rw [<- hsi] at hst8;clear hM7 hM8 hMB7 hMI hMB hg7 hg8 bl7 bd7 y10 y11 hstW hmkW hK hstep;gi_wp2
        refine ⟨Inn.of _ (Dm :: ds) (i+1) rfl (by omega) hst8 hmk8,?_⟩;show D.length - (intOf (.int .i64 ((i:Int)+1))).toNat < D.length - (intOf (.int .i64 (i:Int))).toNat
        simp [intOf];omega
      | false =>
        rw [if_neg (by simp)] at hstep;have hst8:St w W (D.length+r*D.length+(i+1)) (zEH R s n):=by rw [hstep];obtain ⟨h1,h2,h3,⟨m,hm,h4⟩,⟨m',hm',h5⟩⟩:=hstW;exact ⟨h1,h2,h3,⟨m,by omega,h4⟩,⟨m',by omega,h5⟩⟩
        have hmk8:=hmkW.cons (by omega) hK hnd;rw [<- hsi] at hst8;clear y10 y11 hstW hmkW hK hstep;gi_wp2
        refine ⟨Inn.of _ (Dm :: ds) (i+1) rfl (by omega) hst8 hmk8,?_⟩;show D.length - (intOf (.int .i64 ((i:Int)+1))).toNat < D.length - (intOf (.int .i64 (i:Int))).toNat
        simp [intOf];omega
     case stop =>rintro Dm c pre W _ _ h _;exact h.elim
    ·have hie:i=D.length:=by omega
     subst hie;rw [stI_all R D r _ (Nat.le_refl _)] at hst;clear hpc cl;gi_wp2
     refine ⟨Out.of _ ds (r+1) rfl (by omega) (by rw [Nat.succ_mul,<- Nat.add_assoc];exact hst) hmk,?_⟩;show D.length - (intOf (.int .i64 ((r:Int)+1))).toNat < D.length - (intOf (.int .i64 (r:Int))).toNat
     simp [intOf];omega
   ·have hre:r=D.length:=by omega
    subst hre;have cl:=hst.lbox.cell;have dl:=hst.dbox.cell;obtain ⟨m',_,hMB⟩:=hst.lm;have hln:=mapB_len hMB;gi_wp2
    have hKb:D.length+D.length*D.length<=1000:=by have:D.length*D.length<=20*20:=Nat.mul_le_mul hDl hDl;omega
    obtain ⟨hbl,h2,h3,⟨m,hm,h4⟩,-⟩:=hst;refine leaves_marks (w.heap.size+4) (fun W=>Below w.heap.size w W/\MapI W w.heap.size m (stD R D D.length).2) (fun W d hd hk hz=>⟨hz.1.trans (belowK_b (w:=w) (Nat.le_refl _) W d _ _ (by omega) hk rfl rfl),hz.2.same (World.putObj_heap_other (by omega))⟩) (fun W hz=>⟨?_,⟨⟨_,m,rfl,by omega,hz.2⟩,hz.1⟩⟩) ds wr2 hmk ⟨hbl,h4⟩;simp [results,results164,go_sem]
end
section
open Tryz
def zKZ (f:Int->Int) (a:Int) (l:List Int) : Int:=l.foldl (fun m y=>max m (f y)) a
theorem mostI_ge (f:Int->Int) (l:List Int) (a:Int) : a<=zKZ f a l:=by
 unfold zKZ;induction l generalizing a with
 | nil=>exact Int.le_refl _
 | cons y l ih=>rw [List.foldl_cons];have:=ih (max a (f y));omega
theorem mostI_mem (f:Int->Int) (l:List Int) (a:Int) (y:Int) (h:y∈l) : f y<=zKZ f a l:=by
 unfold zKZ;induction l generalizing a with
 | nil=>simp at h
 | cons z l ih =>
   rw [List.foldl_cons];rcases List.mem_cons.1 h with rfl | h
   ·have:=mostI_ge f l (max a (f y));unfold zKZ at this;omega
   ·exact ih _ h
theorem mostI_app (f:Int->Int) (l l':List Int) (a:Int) : zKZ f a (l++l')=zKZ f (zKZ f a l) l':=by unfold zKZ;rw [List.foldl_append]
theorem issFold_most (f:Int->Int) (x:Issue) (m:Nat) (a:Int) (hm:m<=x.items.length) : zDI f x m (1+a)=1+zKZ f a ((x.items.take m).map (·.d)):=by
 induction m with
 | zero=>simp [zDI,zKZ]
 | succ m ih =>simp only [zDI,List.getElem?_eq_getElem (show m < x.items.length by omega)];rw [ih (by omega),List.take_succ_eq_append_getElem (by omega),List.map_append,mostI_app];simp only [List.map_cons,List.map_nil];unfold zKZ;simp only [List.foldl_cons,List.foldl_nil];omega
theorem sonsOf_app (xs ys:List Issue) : zBD (xs++ys)=zBD xs++zBD ys:=by simp [zBD]
theorem acc_most (R:List Issue) (f:Int->Int) (n:Int) (k:Nat) (hk:k<=R.length) :
  zDH R f k n=if (R.take k).filter (fun x=>x.d == n)=[] then 0 else 1+zKZ f 0 (zBD ((R.take k).filter (fun x=>x.d == n))):=by
 induction k with
 | zero=>simp [zDH]
 | succ k ih =>
   have ih:=ih (by omega);have hlt:k < R.length:=by omega
   rw [List.take_succ_eq_append_getElem hlt,List.filter_append];simp only [zDH,List.getElem?_eq_getElem hlt];by_cases e:n=R[k].d
   ·rw [if_pos e]
    have ef:[R[k]].filter (fun x=>x.d == n)=[R[k]]:=by simp [e]
    rw [ef,if_neg (by simp),sonsOf_app,mostI_app,<- e,ih];have es:zBD [R[k]]=(R[k].items.take R[k].items.length).map (·.d):=by simp [zBD]
    rw [es,<- issFold_most f R[k] _ _ (Nat.le_refl _)];congr 1;split
    ·rename_i h0;rw [h0];simp [zBD,zKZ];omega
    ·have:=mostI_ge f (zBD ((R.take k).filter (fun x=>x.d == n))) 0;omega
   ·rw [if_neg e,ih]
    have ef:[R[k]].filter (fun x=>x.d == n)=[]:=by simp;omega
    rw [ef,List.append_nil]
theorem zOU (R:List Issue) (n:Int) (h:n∈nums R) : zAL R n≠[]:=by
 have key:∀ k,k<=R.length->n∈zBN R k->∃ x∈R,x.d=n:=by
  intro k hk hn;induction k with
  | zero=>simp [zBN] at hn
  | succ k ih =>
    simp only [zBN] at hn;rcases List.mem_append.1 hn with h | h
    ·exact ih (by omega) h
    ·rw [List.getElem?_eq_getElem (by omega)] at h
     simp only at h;split at h
     ·simp at h
     ·rw [List.mem_singleton] at h;exact ⟨R[k],List.getElem_mem _,h.symm⟩
 obtain ⟨x,hx,e⟩:=key _ (Nat.le_refl _) h;intro h0;have:x∈zAL R n:=by unfold zAL;rw [List.mem_filter];exact ⟨hx,by simp [e]⟩
 rw [h0] at this;simp at this
theorem dep_most (R:List Issue) (r:Nat) (n:Int) (h:n∈nums R) : dep R (r+1) n=1+zKZ (dep R r) 0 (zBD (zAL R n)):=by
 have:=acc_most R (dep R r) n R.length (Nat.le_refl _);rw [List.take_length] at this;show zDH R (dep R r) R.length n=_
 rw [this];exact if_neg (zOU R n h)
theorem zLS (L:List Int) (n:Int) (l:List Int) : zCM L n l=true↔n∈L/\∀ y∈l,y ∉ L:=by
 unfold zCM;rw [Bool.and_eq_true,decide_eq_true_iff,List.all_eq_true];constructor
 ·rintro ⟨h1,h2⟩;exact ⟨h1,fun y hy=>by simpa using h2 y hy⟩
 ·rintro ⟨h1,h2⟩;exact ⟨h1,fun y hy=>by simpa using h2 y hy⟩
structure Tells (R:List Issue) (s:List Int×(Int->Option Int)) : Prop where
 sane:Sane (nums R) s
 dom:∀ y∈nums R,y ∉ s.1->∃ c,s.2 y=some c
 of:∀ y c,s.2 y=some c->y∈nums R/\∀ r:Nat,(nums R).length - s.1.length<=r->dep R r y=c
theorem tells_start (R:List Issue) (hD:(nums R).Nodup) : Tells R (nums R,fun _=>none):=⟨sane_start _ hD,fun y h h'=>absurd h h',fun _ _ h=>by cases h⟩
theorem most_same (f:Int->Option Int) (g:Int->Int) (l:List Int) (h:∀ y∈l,(f y).getD 0=g y) : zGE f l=zKZ g 0 l:=by
 have key:∀ (l:List Int) (a:Int),(∀ y∈l,(f y).getD 0=g y)->l.foldl (fun m y=>max m ((f y).getD 0)) a=l.foldl (fun m y=>max m (g y)) a:=by
  intro l;induction l with
  | nil=>intro a _;rfl
  | cons y l ih=>intro a h;rw [List.foldl_cons,List.foldl_cons,h y (by simp),ih _ (fun z hz=>h z (by simp [hz]))]
 exact key l 0 h
theorem tells_step (R:List Issue) (hs:∀ n,∀ y∈zBD (zAL R n),y∈nums R) (s:List Int×(Int->Option Int)) (n:Int) (h:Tells R s) : Tells R (zEH R s n):=by
 have hsane:=sane_step R _ s n h.sane;by_cases hr:zCM s.1 n (zBD (zAL R n))=true
 ·have e:zEH R s n=(s.1.erase n,fun y=>if y=n then some (zGE s.2 (zBD (zAL R n))+1) else s.2 y):=by unfold zEH;rw [if_pos hr]
  rw [e] at hsane ⊢;obtain ⟨hn,hy⟩:=(zLS _ _ _).1 hr;have hl:=List.length_erase_of_mem hn;have hpos:0 < s.1.length:=List.length_pos_of_mem hn;have hle:=h.sane.len;refine ⟨hsane,fun y hy1 hy2=>?_,fun y c hc=>?_⟩
  ·by_cases ey:y=n
   ·exact ⟨_,by simp [ey];rfl⟩
   ·have:y ∉ s.1:=fun h'=>hy2 ((h.sane.nodup.mem_erase_iff).2 ⟨ey,h'⟩)
    obtain ⟨c,hc⟩:=h.dom y hy1 this;exact ⟨c,by simpa [ey] using hc⟩
  ·simp only at hc ⊢
   split at hc
   ·rename_i ey
    cases hc;subst ey;refine ⟨h.sane.sub y hn,fun r hrr=>?_⟩;obtain ⟨r,rfl⟩ : ∃ q,r=q+1:=⟨r - 1,by omega⟩;rw [dep_most R r y (h.sane.sub y hn),most_same s.2 (dep R r) _ (fun z hz=>?_)]
    ·omega
    ·obtain ⟨c,hc⟩:=h.dom z (hs y z hz) (hy z hz);rw [hc,(h.of z c hc).2 r (by omega)];rfl
   ·have:=h.of y c hc;exact ⟨this.1,fun r hrr=>this.2 r (by omega)⟩
 ·have e:zEH R s n=s:=by unfold zEH;rw [if_neg hr]
  rw [e];exact h
theorem tells_fold (R:List Issue) (hs:∀ n,∀ y∈zBD (zAL R n),y∈nums R) (l:List Int) (s:List Int×(Int->Option Int)) (h:Tells R s) : Tells R (l.foldl (zEH R) s):=by
 induction l generalizing s with
 | nil=>exact h
 | cons n l ih=>exact ih _ (tells_step R hs s n h)
theorem tells_st (R:List Issue) (hD:(nums R).Nodup) (hs:∀ n,∀ y∈zBD (zAL R n),y∈nums R) (r:Nat) : Tells R (stD R (nums R) r):=by
 induction r with
 | zero=>exact tells_start R hD
 | succ r ih=>exact tells_fold R hs _ _ ih
theorem step_len (R:List Issue) (s:List Int×(Int->Option Int)) (n:Int) : (zEH R s n).1.length < s.1.length\/zEH R s n=s:=by
 unfold zEH;split
 ·rename_i hr
  left;have hn:=((zLS _ _ _).1 hr).1;have:=List.length_erase_of_mem hn;have:=List.length_pos_of_mem hn;show (s.1.erase n).length < _
  omega
 ·exact .inr rfl
theorem fold_len (R:List Issue) (l:List Int) (s:List Int×(Int->Option Int)) : (l.foldl (zEH R) s).1.length < s.1.length\/((∀ n∈l,zEH R s n=s)/\l.foldl (zEH R) s=s):=by
 induction l generalizing s with
 | nil=>exact .inr ⟨fun _ h=>(by cases h),rfl⟩
 | cons n l ih =>
   rw [List.foldl_cons];rcases step_len R s n with h | h
   ·left
    rcases ih (zEH R s n) with h2 | ⟨_,h2⟩
    ·omega
    ·rw [h2];exact h
   ·rw [h]
    rcases ih s with h2 | ⟨h2,h3⟩
    ·exact .inl h2
    ·exact .inr ⟨fun m hm=>by
      rcases List.mem_cons.1 hm with rfl | hm
      ·exact h
      ·exact h2 m hm,h3⟩
theorem st_still (R:List Issue) (D:List Int) (r:Nat) (hr:r<=D.length) : (stD R D r).1.length+r<=D.length\/∀ n∈D,zEH R (stD R D r) n=stD R D r:=by
 induction r with
 | zero=>exact .inl (Nat.le_refl _)
 | succ r ih =>
   have e:stD R D (r+1)=D.foldl (zEH R) (stD R D r):=rfl;rcases fold_len R D (stD R D r) with h | ⟨h1,h2⟩
   ·rcases ih (by omega) with h3 | h3
    ·left;rw [e];omega
    ·exfalso
     have key:∀ l:List Int,(∀ n∈l,zEH R (stD R D r) n=stD R D r)->l.foldl (zEH R) (stD R D r)=stD R D r:=by
      intro l hl;induction l with
      | nil=>rfl
      | cons n l ih2=>rw [List.foldl_cons,hl n (by simp)];exact ih2 (fun m hm=>hl m (by simp [hm]))
     rw [key D h3] at h;omega
   ·right;rw [e,h2];exact h1
theorem still_deep (R:List Issue) (s:List Int×(Int->Option Int)) (hsub:∀ y∈s.1,y∈nums R) (hst:∀ n∈nums R,zEH R s n=s) (r:Nat) : ∀ n∈s.1,(r:Int)<=dep R r n:=by
 induction r with
 | zero=>intro n _;exact (zNF R 0 n).1
 | succ r ih =>
   intro n hn;have hns:∃ y∈zBD (zAL R n),y∈s.1:=by
    by_cases h:zCM s.1 n (zBD (zAL R n))=true
    ·exfalso
     have h2:=hst n (hsub n hn);unfold zEH at h2;rw [if_pos h] at h2;have h3:=congrArg (fun t=>t.1.length) h2;have h4:=List.length_erase_of_mem hn;have h5:=List.length_pos_of_mem hn;simp only at h3;omega
    ·refine Classical.byContradiction fun hc=>h ((zLS _ _ _).2 ⟨hn,fun y hy hys=>hc ⟨y,hy,hys⟩⟩)
   obtain ⟨y,hy,hys⟩:=hns;rw [dep_most R r n (hsub n hn)];have h1:=mostI_mem (dep R r) _ 0 y hy;have h2:=ih y hys;omega
theorem depths_tell (R:List Issue) (hD:(nums R).Nodup) (hs:∀ n,∀ y∈zBD (zAL R n),y∈nums R) :
  (0 < (stD R (nums R) (nums R).length).1.length->zHB R (nums R).length) /\
  (¬ 0 < (stD R (nums R) (nums R).length).1.length->¬ zHB R (nums R).length/\(zHB R 6->∃ n c,n∈nums R/\(stD R (nums R) (nums R).length).2 n=some c/\6 < c)/\(∀ n c,(stD R (nums R) (nums R).length).2 n=some c->6 < c->zHB R 6)):=by
 have ht:=tells_st R hD hs (nums R).length;constructor
 ·intro h
  rcases st_still R (nums R) (nums R).length (Nat.le_refl _) with h1 | h1
  ·omega
  ·obtain ⟨n,hn⟩:=List.exists_mem_of_length_pos h;have:=still_deep R _ ht.sane.sub h1 ((nums R).length+1) n hn;exact ⟨n,ht.sane.sub n hn,by push_cast at this;omega⟩
 ·intro h
  have h0:(stD R (nums R) (nums R).length).1.length=0:=by omega
  have hnil:=List.eq_nil_of_length_eq_zero h0;have hall:∀ n∈nums R,∃ c,(stD R (nums R) (nums R).length).2 n=some c/\dep R ((nums R).length+1) n=c:=fun n hn=>by
   obtain ⟨c,hc⟩:=ht.dom n hn (by rw [hnil];simp);exact ⟨c,hc,(ht.of n c hc).2 _ (by omega)⟩
  refine ⟨fun ⟨n,hn,hd⟩=>?_,fun ⟨n,hn,hd⟩=>?_,fun n c hc h6=>?_⟩
  ·obtain ⟨c,hc,he⟩:=hall n hn;have:=ht.sane.bd n c hc;omega
  ·obtain ⟨c,hc,he⟩:=hall n hn;exact ⟨n,c,hn,hc,by omega⟩
  ·have h1:=ht.of n c hc;exact ⟨n,h1.1,by rw [h1.2 _ (by omega)];exact h6⟩
end
end Go.Proofs.YtipaopbmklbmnaaGreatDoor
