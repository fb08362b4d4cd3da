/- Whether two lists of numbers are alike: both ways. -/
import Derived.Deep.Slices
import Derived.Test.YtjleiiinibdepaaGreatDoorK02
import Derived.Test.YtjleiiinibdepaaGreatDoorK05
import Derived.Test.YtjleiiinibdepaaGreatDoorK06
import Derived.Test.YtjleiiinibdepaaGreatDoorK12
import Derived.Test.YtjleiiinibdepaaGreatDoorK37
import Derived.Test.YtjleiiinibdepaaGreatDoorK38
import Derived.Test.YtjleiiinibdepaaGreatDoorK40
import Derived.Test.YtjleiiinibdepaaGreatDoorK49
set_option linter.all false
set_option maxRecDepth 100000
set_option maxHeartbeats 12800000

namespace Go.Proofs.YtjleiiinibdepaaGreatDoor
open Tryz
section
open Go.RowKit
theorem spanOf_sub {xs ys:List Int} (hx:xs≠[]) (h:∀ x∈xs,∃ y∈ys,∃ z∈ys,y≤x∧x≤z) : (zBI ys).lo≤(zBI xs).lo∧(zBI xs).hi≤(zBI ys).hi:=by
 have hy:ys≠[]:=by
  cases xs with
  | nil=>exact absurd rfl hx
  | cons x t =>
    obtain ⟨y,hy,_⟩:=h x (List.mem_cons_self ..)
    exact List.ne_nil_of_mem hy
 obtain ⟨h1,h2,_⟩:=zGS hx
 obtain ⟨_,_,h3⟩:=zGS hy
 obtain ⟨y,hy,_,_,hl,_⟩:=h _ h1
 obtain ⟨_,_,z,hz,_,hu⟩:=h _ h2
 have a:=(h3 y hy).1
 have c:=(h3 z hz).2
 omega
theorem heldC_mid {x:Has} {l o1 o o2:Int} (h1:o1≤o) (h2:o≤o2) : (zGH x l o1≤zGH x l o∧zGH x l o≤zGH x l o2)∨(zGH x l o2≤zGH x l o∧zGH x l o≤zGH x l o1):=by
 unfold zGH
 by_cases e:l=x.l
 ·rw [if_pos e,if_pos e,if_pos e];omega
 ·rw [if_neg e,if_neg e,if_neg e]
  by_cases e2:l=x.l - 1
  ·rw [if_pos e2,if_pos e2,if_pos e2];omega
  ·rw [if_neg e2,if_neg e2,if_neg e2];omega
theorem oldC_mono {f c n n':Int} (h:n≤n') : oldC f c n≤oldC f c n':=by unfold oldC;omega
theorem Less.endsIn {x b:Built} (h:Less x b) {S:List Int} (hL:zCV x S) (m d l:Int) : ∀ y∈zOP x S m d l,∃ p∈zOP b S m d l,∃ q∈zOP b S m d l,p≤y∧y≤q:=by
 intro y hy
 by_cases e:(zZ b S m d).h < 0
 ·have e1:zOP x S m d l=zOP b S m d l:=by
   unfold zOP
   simp only [h.has,e,if_true]
  exact ⟨y,e1 ▸ hy,y,e1 ▸ hy,Int.le_refl _,Int.le_refl _⟩
 ·have hk:(zZ b S m d).h.toNat < b.hs.length:=by have:=(zIY b S m d).2;omega
  obtain ⟨h1,h2,h3⟩:=h.cnt hL hk
  unfold zLY at h1 h2 h3
  unfold zOP at hy ⊢
  simp only [h.has,h.ms,h.bef,e,if_false] at hy ⊢
  have k1:=oldC_mono (f:=zCX b S (zZ b S m d).h.toNat (b.ms.idxOf m)) (c:=(zZ b S m d).c) h1
  have k2:=oldC_mono (f:=zCX b S (zZ b S m d).h.toNat (b.ms.idxOf m)) (c:=(zZ b S m d).c) h2
  have k3:=oldC_mono (f:=zCX b S (zZ b S m d).h.toNat (b.ms.idxOf m)) (c:=(zZ b S m d).c) h3
  have g1:=heldC_mid (x:=zZ b S m d) (l:=l) k1 (Int.le_trans k2 k3)
  have g2:=heldC_mid (x:=zZ b S m d) (l:=l) (Int.le_trans k1 k2) k3
  simp only [List.mem_cons,List.not_mem_nil,or_false] at hy ⊢
  rcases hy with rfl | rfl
  ·rcases g1 with g | g
   ·exact ⟨_,.inl rfl,_,.inr rfl,g.1,g.2⟩
   ·exact ⟨_,.inr rfl,_,.inl rfl,g.1,g.2⟩
  ·rcases g2 with g | g
   ·exact ⟨_,.inl rfl,_,.inr rfl,g.1,g.2⟩
   ·exact ⟨_,.inr rfl,_,.inl rfl,g.1,g.2⟩
theorem ends_ne (b:Built) (S:List Int) (m d l:Int) : zOP b S m d l≠[]:=by unfold zOP;simp
theorem Less.pieces {x b:Built} (h:Less x b) (hx:zF x=0) (hb:zF b=0) (hl:zAQ x≠[]) (m d l:Int) :
  (zAU b (zAQ b) m d l).lo≤(zAU x (zAQ x) m d l).lo∧(zAU x (zAQ x) m d l).hi≤(zAU b (zAQ b) m d l).hi:=by
 unfold zAU
 refine spanOf_sub ?_ fun y hy=>?_
 ·obtain ⟨S,t,e⟩:=List.exists_cons_of_ne_nil hl
  rw [e,List.flatMap_cons]
  intro h0
  exact ends_ne _ _ _ _ _ (List.append_eq_nil_iff.1 h0).1
 ·obtain ⟨S,hS,hy⟩:=List.mem_flatMap.1 hy
  obtain ⟨p,hp,q,hq,h1,h2⟩:=h.endsIn (((zFQ hx).2 S).1 hS).2 m d l y hy
  have hS':=h.sublist hx hb S hS
  exact ⟨p,List.mem_flatMap.2 ⟨S,hS',hp⟩,q,List.mem_flatMap.2 ⟨S,hS',hq⟩,h1,h2⟩
theorem Less.untilE {x b:Built} (h:Less x b) (S:List Int) (k:Nat) (n:Int) : zEL x S k n=zEL b S k n:=by
 unfold zEL
 rw [h.ms]
 generalize b.ms.length=i
 induction i with
 | zero=>rfl
 | succ i ih=>simp only [zHR,h.takes,h.ms,ih]
theorem until_mono {b:Built} (hb:zF b=0) (S:List Int) (k:Nat) {n n':Int} (h:n≤n') : zEL b S k n≤zEL b S k n':=by
 have key:∀ i,i≤b.ms.length→zHR b S k n i≤zHR b S k n' i∧∀ hi:i < b.ms.length,zHR b S k n i < b.ms[i]:=by
  intro i
  induction i with
  | zero =>
    intro _
    refine ⟨Int.le_refl _,fun hi=>?_⟩
    have h1:In b.ms[0] 1 999:=((zS hb).2.2.2.2.2.1 0 hi hi).1
    show (0:Int) < _
    exact h1.1
  | succ i ih =>
    intro hi
    obtain ⟨h1,h2⟩:=ih (by omega)
    have h3:=h2 (by omega)
    have hs:∀ hi:i+1 < b.ms.length,b.ms[i] < b.ms[i+1]:=fun hi=>by
     have:=((zS hb).2.2.2.2.2.1 (i+1) hi hi).2 (by omega)
     simpa using this
    cases e:zIJ b S k n i with
    | true =>
      have e':zIJ b S k n' i=true:=by
       unfold zIJ at e ⊢
       simp only [Bool.and_eq_true,decide_eq_true_eq] at e ⊢
       exact ⟨by omega,e.2⟩
      rw [untilTo_yes e (by omega),untilTo_yes e' (by omega)]
      exact ⟨Int.le_refl _,hs⟩
    | false =>
      rw [untilTo_no e]
      refine ⟨?_,fun hi=>Int.lt_trans h3 (hs hi)⟩
      cases e':zIJ b S k n' i with
      | true=>rw [untilTo_yes e' (by omega)];omega
      | false=>rw [untilTo_no e'];exact h1
 exact (key _ (Nat.le_refl _)).1
theorem Less.until {x b:Built} (h:Less x b) (hx:zF x=0) (hb:zF b=0) (hl:zAQ x≠[]) {k:Nat} (hk:k < b.hs.length) :
  (uTo b (zAQ b) k (zAQ b).length).lo≤(uTo x (zAQ x) k (zAQ x).length).lo∧(uTo x (zAQ x) k (zAQ x).length).hi≤(uTo b (zAQ b) k (zAQ b).length).hi:=by
 unfold uTo
 rw [List.take_length,List.take_length]
 refine spanOf_sub ?_ fun y hy=>?_
 ·obtain ⟨S,t,e⟩:=List.exists_cons_of_ne_nil hl
  rw [e,List.flatMap_cons]
  simp
 ·obtain ⟨S,hS,hy⟩:=List.mem_flatMap.1 hy
  have hL:=(((zFQ hx).2 S).1 hS).2
  obtain ⟨h1,h2,h3⟩:=h.cnt hL hk
  have hS':=h.sublist hx hb S hS
  refine ⟨_,List.mem_flatMap.2 ⟨S,hS',List.mem_cons_self ..⟩,_,List.mem_flatMap.2 ⟨S,hS',List.mem_cons_of_mem _ (List.mem_cons_self ..)⟩,?_⟩
  have a1:=until_mono hb S k h1
  have a2:=until_mono hb S k h2
  have a3:=until_mono hb S k h3
  simp only [h.untilE,List.mem_cons,List.not_mem_nil,or_false] at hy
  rcases hy with rfl | rfl <;> omega
theorem Less.known {x b:Built} (h:Less x b) (hx:zF x=0) (hb:zF b=0) (hl:zAQ x≠[]) (n:Int) (hn:knC (zAQ b) n≠1) : knC (zAQ x) n=knC (zAQ b) n:=by
 have hsub:=h.sublist hx hb
 have hbl:zAQ b≠[]:=by
  obtain ⟨S,t,e⟩:=List.exists_cons_of_ne_nil hl
  exact List.ne_nil_of_mem (hsub S (by rw [e];exact List.mem_cons_self ..))
 have hlen:∀ A:List (List Int),cntTo A n A.length=(A.filter fun S=>decide (n∈S)).length:=fun A=>by unfold cntTo;rw [List.take_length]
 have hxp:0 < (zAQ x).length:=List.length_pos_iff.2 hl
 have hbp:0 < (zAQ b).length:=List.length_pos_iff.2 hbl
 unfold knC at hn ⊢
 rw [hlen,hlen] at *
 by_cases e0:((zAQ b).filter fun S=>decide (n∈S)).length=0
 ·have e1:((zAQ x).filter fun S=>decide (n∈S))=[]:=List.filter_eq_nil_iff.2 fun S hS=>(List.filter_eq_nil_iff.1 (List.length_eq_zero_iff.1 e0)) S (hsub S hS)
  rw [if_pos e0,if_pos (by rw [e1];rfl)]
 ·rw [if_neg e0] at hn ⊢
  by_cases e2:((zAQ b).filter fun S=>decide (n∈S)).length=(zAQ b).length
  ·have e3:((zAQ x).filter fun S=>decide (n∈S))=zAQ x:=List.filter_eq_self.2 fun S hS=>(List.length_filter_eq_length_iff.1 e2) S (hsub S hS)
   rw [if_pos e2,e3,if_neg (by omega),if_pos rfl]
  ·rw [if_neg e2] at hn
   exact absurd rfl hn
theorem ord_filter {A B:List (List Int)} (hA:Ord A) (hB:Ord B) (h:∀ S∈B,S∈A) : B=A.filter (fun S=>decide (S∈B)) :=
 ord_eq hB (hA.filter _) fun l=>by rw [List.mem_filter];exact ⟨fun hl=>⟨h l hl,by simpa using hl⟩,fun hl=>by simpa using hl.2⟩
end
section
open Go.RowKit Go.ChangeShapes Go.WideShapes
section
variable {H:Type} {enc:TypeId×Value→H} {w:World} {sp:Nat→Bool} {hd:Bool}
theorem arg_report {r:Reach} {b0:Nat} {v:Value} {d:DataW H} {p:List MemPlace} (hv:Value.okWide prog w r b0 37 v) (h:DataW.Trod enc prog w 0 sp hd 37 v d p) :
  ∃ x:Report,v = .agg #[.int .i64 x.num,.int .i64 x.m,.int .i64 x.d,.int .i64 x.l,.int .u8 x.k]∧(I64 x.num∧I64 x.m∧I64 x.d∧I64 x.l∧U8 x.k):=by
 obtain ⟨cs,rfl,hsz⟩:=okWide_struct underlying37 hv
 rw [show prog.cellsOf 37=5 by kernel_rfl] at hsz
 obtain ⟨fuel,h⟩:=h
 obtain ⟨_,k,hf⟩:=zDS underlying37 h
 obtain ⟨_,h0⟩:=hf 0 _ rfl
 obtain ⟨x0,c0,r0⟩:=zDB h0
 obtain ⟨_,h1⟩:=hf 1 _ rfl
 obtain ⟨x1,c1,r1⟩:=zDB h1
 obtain ⟨_,h2⟩:=hf 2 _ rfl
 obtain ⟨x2,c2,r2⟩:=zDB h2
 obtain ⟨_,h3⟩:=hf 3 _ rfl
 obtain ⟨x3,c3,r3⟩:=zDB h3
 obtain ⟨_,h4⟩:=hf 4 _ rfl
 obtain ⟨x4,c4,r4⟩:=leaf_u h4
 refine ⟨⟨x0,x1,x2,x3,x4⟩,?_,r0,r1,r2,r3,r4⟩
 obtain ⟨l⟩:=cs
 match l,hsz with
 | [d0,d1,d2,d3,d4],_ =>
   simp [Value.cells] at c0 c1 c2 c3 c4
   subst c0 c1 c2 c3 c4
   rfl
end
end
section
open Go.RowKit Go.Shelf
attribute [local go_sem] zAE
theorem tmod_in {n:Int} (hn:0≤n) {k:Nat} (hk:0 < k) : ∃ i:Nat,i < k∧n.tmod k=i:=by
 have h1:=Int.tmod_lt_of_pos n (show (0:Int) < k by omega)
 have h2:=Int.tmod_nonneg (k:Int) hn
 exact ⟨(n.tmod k).toNat,by omega,by omega⟩
structure OrdAt (n g c:Nat) (w wr:World) (L:List Report) : Prop where
 below:Below n w wr
 own:wr.ownsRow n 37 5 (.slice (some ⟨g,0,none⟩) L.length c) L.length (zDJ L)
 at_:n≤g
theorem OrdAt.ext {n g c:Nat} {w wr wr':World} {L:List Report} (h:OrdAt n g c w wr L) (hn:n≤wr.heap.size) (hb:Below wr.heap.size wr wr') : OrdAt n g c w wr' L :=
 ⟨h.below.trans (hb.mono hn),zAC hb h.own,h.at_⟩
theorem OrdAt.rep {n g c:Nat} {w wr:World} {L:List Report} (h:OrdAt n g c w wr L) (k:Nat) (hk:k < L.length) :
  wr.cell? ⟨g,k*5,none⟩=some (.int .i64 L[k].num)∧wr.cell? ⟨g,k*5+1,none⟩=some (.int .i64 L[k].m)∧wr.cell? ⟨g,k*5+2,none⟩=some (.int .i64 L[k].d)∧wr.cell? ⟨g,k*5+3,none⟩=some (.int .i64 L[k].l)∧wr.cell? ⟨g,k*5+4,none⟩=some (.int .u8 L[k].k):=cells_rep h.own k hk
theorem OrdAt.put {n g c:Nat} {w wr:World} {L:List Report} (h:OrdAt n g c w wr L) (k:Nat) (hk:k < L.length) (x:Report) :
  OrdAt n g c w (((((wr.setCell ⟨g,k*5,none⟩ (.int .i64 x.num)).setCell ⟨g,k*5+1,none⟩ (.int .i64 x.m)).setCell ⟨g,k*5+2,none⟩ (.int .i64 x.d)).setCell ⟨g,k*5+3,none⟩ (.int .i64 x.l)).setCell ⟨g,k*5+4,none⟩ (.int .u8 x.k)) (L.set k x) :=
 ⟨by repeat (refine zI h.at_ ?_)
     exact h.below,by rw [List.length_set];exact own_put h.own k hk x,h.at_⟩
end
section
open Go.RowKit
def atTo (A X:List (List Int)) (k:Nat) : Nat:=((A.take k).filter (fun S=>decide (S∈X))).length
theorem at_all {A X:List (List Int)} (h:X=A.filter (fun S=>decide (S∈X))) : atTo A X A.length=X.length:=by
 unfold atTo;rw [List.take_length,← h]
theorem at_yes {A X:List (List Int)} {k:Nat} (hk:k < A.length) (hm:A[k]∈X) : atTo A X (k+1)=atTo A X k+1:=by
 unfold atTo;rw [List.take_succ_eq_append_getElem hk,List.filter_append];simp [hm]
theorem at_no {A X:List (List Int)} {k:Nat} (hk:k < A.length) (hm:A[k] ∉ X) : atTo A X (k+1)=atTo A X k:=by
 unfold atTo;rw [List.take_succ_eq_append_getElem hk,List.filter_append];simp [hm]
theorem at_get {A X:List (List Int)} (h:X=A.filter (fun S=>decide (S∈X))) {k:Nat} (hk:k < A.length) (hm:A[k]∈X) : X[atTo A X k]? = some A[k]:=by
 have e:A.filter (fun S=>decide (S∈X))=(A.take k).filter (fun S=>decide (S∈X))++(A[k] :: (A.drop (k+1)).filter (fun S=>decide (S∈X))):=by
  have e0:A=A.take k++(A[k] :: A.drop (k+1)):=by rw [← List.drop_eq_getElem_cons hk,List.take_append_drop]
  have:=congrArg (List.filter (fun S=>decide (S∈X))) e0
  rw [this,List.filter_append,List.filter_cons_of_pos (by simpa using hm)]
 have e2:=h.trans e
 have e3:X[atTo A X k]? = ((A.take k).filter (fun S=>decide (S∈X))++(A[k] :: (A.drop (k+1)).filter (fun S=>decide (S∈X))))[atTo A X k]?:=congrArg (fun l=>l[atTo A X k]?) e2
 rw [e3]
 unfold atTo
 rw [List.getElem?_append_right (Nat.le_refl _),Nat.sub_self]
 rfl
theorem at_lt {A X:List (List Int)} (h:X=A.filter (fun S=>decide (S∈X))) {k:Nat} (hk:k < A.length) (hm:A[k]∈X) : ∃ hj:atTo A X k < X.length,X[atTo A X k]=A[k]:=List.getElem?_eq_some_iff.1 (at_get h hk hm)
theorem at_ne {A X:List (List Int)} {k:Nat} (hk:k < A.length) (hm:A[k] ∉ X) (hj:atTo A X k < X.length) : ¬ A[k]=X[atTo A X k]:=fun e=>hm (e ▸ List.getElem_mem hj)
theorem at_le (A X:List (List Int)) (k:Nat) : atTo A X k≤k:=Nat.le_trans (List.length_filter_le _ _) (by rw [List.length_take];omega)
theorem known_mono {s t:Span} (h1:s.lo≤t.lo) (h2:t.hi≤s.hi) (h3:0≤t.lo) (h4:t.lo≤t.hi) : zHD s 0=1∨zHD t 0=zHD s 0:=by
 have e:∀ u:Span,zHD u 0=if 0 < u.lo then 2 else if u.hi=0 then 0 else 1:=fun u=>by unfold zHD;rw [if_neg (by decide)]
 rw [e,e]
 by_cases a:0 < s.lo
 ·rw [if_pos a,if_pos (show 0 < t.lo by omega)];exact .inr rfl
 ·rw [if_neg a]
  by_cases c:s.hi=0
  ·rw [if_pos c,if_neg (show ¬ 0 < t.lo by omega),if_pos (show t.hi=0 by omega)];exact .inr rfl
  ·rw [if_neg c];exact .inl rfl
theorem more_less {b:Built} {r:Report} : Less (addB b r) b:=⟨by unfold addB;rfl,fun x hx=>by unfold addB;exact (insR_perm b.rs r).mem_iff.2 (List.mem_cons_of_mem _ hx)⟩
theorem more_len (b:Built) (r:Report) : (addB b r).rs.length=b.rs.length+1:=by unfold addB;exact (insR_perm b.rs r).length_eq
theorem add_two {b:Built} {r:Report} (hv:zF b=0) (h:zFZ b r≠0) : (zFZ b r=9∧b.rs.length=10)∨zFZ b r=81:=by
 by_cases h1:b.rs.length=10
 ·exact .inl ⟨addCode_full hv h1,h1⟩
 ·by_cases h2:zCA (addB b r)
  ·exact absurd (addCode_ok hv h1 h2) h
  ·exact .inr (addCode_no hv h1 h2)
theorem add_zero {b:Built} {r:Report} (hv:zF b=0) (h:zFZ b r=0) : b.rs.length≠10∧zCA (addB b r):=by
 by_cases h1:b.rs.length=10
 ·rw [addCode_full hv h1] at h;exact absurd h (by decide)
 ·by_cases h2:zCA (addB b r)
  ·exact ⟨h1,h2⟩
  ·rw [addCode_no hv h1 h2] at h;exact absurd h (by decide)
theorem set_more {b:Built} {r:Report} (hx:zF (addB b r)=0) (hv:zF b=0) (hl:zAQ (addB b r)≠[]) (hb:zAQ b≠[]) :
  setC b=0∧setC (addB b r)=0∧(setL (addB b r)).length=(setL b).length∧∀ k (h1:k < (setL b).length) (h2:k < (setL (addB b r)).length),(setL b)[k]=1∨(setL (addB b r))[k]=(setL b)[k]:=by
 obtain ⟨a1,a2⟩:=set_ok hv hb
 obtain ⟨c1,c2⟩:=set_ok hx hl
 have en:(addB b r).ns=b.ns:=by unfold addB;rfl
 rw [en] at c2
 refine ⟨a1,c1,by rw [a2,c2,List.length_map,List.length_map],fun k h1 h2=>?_⟩
 simp only [a2,c2,List.getElem_map]
 exact (Classical.em _).imp id (more_less.known hx hv hl _)
end
section
open Go.RowKit
attribute [local go_sem] zAE
theorem sameInts_law (w:World) (v v':Value) (xs ys:List Int) (hx:Sl zAM 1 w v xs) (hy:Sl zAM 1 w v' ys) :
  Calls prog 23 #[v,v'] w fun e w'=>e = .returned (.bool (decide (xs=ys)))∧Below w.heap.size w w':=by
 obtain ⟨a,cap,rfl,hm⟩:=zD hx
 obtain ⟨a',cap',rfl,hm'⟩:=zD hy
 go_enter func23,ntmps23
 by_cases hl:xs.length=ys.length
 case neg =>
  have hd:decide (xs=ys)=false:=decide_eq_false (fun e=>hl (by rw [e]))
  have e:((xs.length:Int) == (ys.length:Int))=false:=by rw [beq_eq_false_iff_ne];omega
  have e3:((xs.length:Int) != (ys.length:Int))=true:=by rw [bne_iff_ne];omega
  have e2:(xs.length == ys.length)=false:=by simpa using hl
  go_wp2
  go_ret
  exact ⟨by rw [hd];rfl,br_⟩
 rw [← hl]
 have HL:=zE hl
 clear hl
 go_wp2
 go_loopw [5] (fun i wr=>∃ k:Nat,i = .int .i64 k∧k≤xs.length∧Below w.heap.size w wr∧Hid (xs.take k=ys.take k)) (fun i _=>xs.length - (intOf i).toNat)
 case atStart=>exact ⟨0,rfl,by omega,br_,rfl⟩
 case round =>
  obtain ⟨k,rfl,hk,hb,hT⟩:=hrel
  by_cases hlt:k < xs.length
  ·have hky:k < ys.length:=HL.out ▸ hlt
   have X:=(zY (zJ zN hb hx)).2 k hlt
   have Y:=(zY (zJ zN hb hy)).2 k hky
   obtain ⟨b,off,rfl,hc,_⟩:=X
   obtain ⟨b',off',rfl,hc',_⟩:=Y
   unfold zK at hc hc'
   rw [Nat.mul_one] at hc hc'
   have hT2:Hid (xs[k]=ys[k]'hky→xs.take (k+1)=ys.take (k+1)):=fun e=>by
    rw [List.take_succ_eq_append_getElem hlt,List.take_succ_eq_append_getElem hky,e,hT.out]
   have hF:Hid (xs[k]≠ys[k]'hky→decide (xs=ys)=false):=fun e=>decide_eq_false (fun e2=>e (by subst e2;rfl))
   generalize xs[k]=x at *
   generalize ys[k]'hky=y at *
   clear hx hy hky
   by_cases hxy:x=y
   ·subst hxy
    have hT3:=zE (hT2.out rfl)
    have e:(x == x)=true:=by simp
    have e2:(x != x)=false:=by simp
    go_wp2
    go_quiet (fail)
    go_wp2
    go_roundw
    ·exact ⟨k+1,by go_num,by omega,zA hb (zAJ _ _),hT3⟩
    ·simp [intOf];omega
   ·have hF2:=zE (hF.out hxy)
    have e:(x == y)=false:=by simpa using hxy
    have e2:(x != y)=true:=by simpa using hxy
    go_wp2
    go_quiet (fail)
    go_wp2
    go_ret
    exact ⟨by rw [hF2.out];rfl,zA hb (zAJ _ _)⟩
  ·obtain rfl:k=xs.length:=by omega
   have he:xs=ys:=by
    have:=hT.out
    rwa [List.take_length,HL.out,List.take_length] at this
   have hd:decide (xs=ys)=true:=decide_eq_true he
   go_wp2
   go_ret
   exact ⟨by rw [hd];rfl,hb⟩
end
end Go.Proofs.YtjleiiinibdepaaGreatDoor
