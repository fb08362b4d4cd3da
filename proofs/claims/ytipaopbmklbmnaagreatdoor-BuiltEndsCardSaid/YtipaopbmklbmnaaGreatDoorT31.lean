/- Lemmas. -/
import Derived.Test.YtipaopbmklbmnaaGreatDoorT30
set_option linter.all false
set_option maxRecDepth 100000
set_option maxHeartbeats 0
namespace Go.Proofs.YtipaopbmklbmnaaGreatDoor
section
open Tryz
open Go.RowKit Go.Shelf
attribute [local go_sem] zAE Oper.grows Oper.growUpon
open Classical in
noncomputable def zAQ (b:Built) : List (List Int):=if h:∃ A,zND b A then h.choose else []
theorem leftL_is {b:Built} {A:List (List Int)} (h:zND b A) : zAQ b=A:=by
 have h1:∃ A,zND b A:=⟨A,h⟩;unfold zAQ;rw [dif_pos h1];exact h1.choose_spec.eq h
open Classical in
noncomputable def zBK (b:Built) (m:Int) : Int:=if zF b≠0 then zF b else if m ∉ b.ms then 2 else if zAQ b=[] then 8 else 0
end
section
open Tryz
def zBI:List Int->Span
 | []=>⟨0,0⟩
 | x :: r=>⟨r.foldl min x,r.foldl max x⟩
theorem foldl_min (r:List Int) (x:Int) : (r.foldl min x=x\/r.foldl min x∈r)/\r.foldl min x<=x/\∀ y∈r,r.foldl min x<=y:=by
 induction r generalizing x with
 | nil=>simp
 | cons a r ih =>
   rw [List.foldl_cons];obtain ⟨h1,h2,h3⟩:=ih (min x a);refine ⟨?_,by omega,fun y hy=>?_⟩
   ·rcases h1 with h | h
    ·rcases Int.le_total x a with hh | hh
     ·left;rw [h];omega
     ·right;rw [h,Int.min_eq_right hh];exact List.mem_cons_self ..
    ·exact .inr (List.mem_cons_of_mem _ h)
   ·rcases List.mem_cons.1 hy with rfl | hy
    ·omega
    ·exact h3 y hy
theorem foldl_max (r:List Int) (x:Int) : (r.foldl max x=x\/r.foldl max x∈r)/\x<=r.foldl max x/\∀ y∈r,y<=r.foldl max x:=by
 induction r generalizing x with
 | nil=>simp
 | cons a r ih =>
   rw [List.foldl_cons];obtain ⟨h1,h2,h3⟩:=ih (max x a);refine ⟨?_,by omega,fun y hy=>?_⟩
   ·rcases h1 with h | h
    ·rcases Int.le_total x a with hh | hh
     ·right;rw [h,Int.max_eq_right hh];exact List.mem_cons_self ..
     ·left;rw [h];omega
    ·exact .inr (List.mem_cons_of_mem _ h)
   ·rcases List.mem_cons.1 hy with rfl | hy
    ·omega
    ·exact h3 y hy
theorem zGS {xs:List Int} (h:xs≠[]) : (zBI xs).lo∈xs/\(zBI xs).hi∈xs/\∀ y∈xs,(zBI xs).has y:=by
 cases xs with
 | nil=>exact absurd rfl h
 | cons x r =>
   obtain ⟨h1,h2,h3⟩:=foldl_min r x;obtain ⟨g1,g2,g3⟩:=foldl_max r x;refine ⟨?_,?_,fun y hy=>?_⟩
   ·simp only [zBI]
    rcases h1 with h | h
    ·rw [h];exact List.mem_cons_self ..
    ·exact List.mem_cons_of_mem _ h
   ·simp only [zBI]
    rcases g1 with h | h
    ·rw [h];exact List.mem_cons_self ..
    ·exact List.mem_cons_of_mem _ h
   ·simp only [zBI,Span.has]
    rcases List.mem_cons.1 hy with rfl | hy
    ·exact ⟨h2,g2⟩
    ·exact ⟨h3 y hy,g3 y hy⟩
theorem spanOf_eq {xs ys:List Int} (h:∀ y,y∈xs↔y∈ys) : zBI xs=zBI ys:=by
 by_cases hx:xs=[]
 ·subst hx
  have:ys=[]:=List.eq_nil_iff_forall_not_mem.2 fun y hy=>by simpa using (h y).2 hy
  rw [this]
 ·have hy:ys≠[]:=by
   intro e;subst e;exact hx (List.eq_nil_iff_forall_not_mem.2 fun y hy=>by simpa using (h y).1 hy)
  obtain ⟨a1,a2,a3⟩:=zGS hx;obtain ⟨b1,b2,b3⟩:=zGS hy;have c1:=b3 _ ((h _).1 a1);have c2:=b3 _ ((h _).1 a2);have c3:=a3 _ ((h _).2 b1);have c4:=a3 _ ((h _).2 b2);generalize zBI xs=s at *;generalize zBI ys=t at *;obtain ⟨sl,sh⟩:=s;obtain ⟨tl,th⟩:=t;simp only [Span.has,Span.mk.injEq] at *;omega
theorem spanOf_snoc {xs:List Int} (h:xs≠[]) (x:Int) : zBI (xs++[x])=⟨min (zBI xs).lo x,max (zBI xs).hi x⟩:=by
 cases xs with
 | nil=>exact absurd rfl h
 | cons a r=>simp [zBI,List.foldl_append]
theorem spanOf_le {xs:List Int} (h:xs≠[]) : (zBI xs).lo<=(zBI xs).hi:=by
 obtain ⟨a1,_,a3⟩:=zGS h;exact (a3 _ a1).2
noncomputable def zOP (b:Built) (S:List Int) (m d l:Int) : List Int :=
 let x:=zZ b S m d;let s:=if x.h < 0 then (⟨0,0⟩ : Span) else (zEM b S x.h.toNat).getD ⟨0,0⟩
 let o:=fun n:Int=>if x.h < 0 then 0 else oldC (zCX b S x.h.toNat (b.ms.idxOf m)) x.c n
 [zGH x l (o s.lo),zGH x l (o s.hi)]
noncomputable def zAU (b:Built) (T:List (List Int)) (m d l:Int) : Span:=zBI (T.flatMap fun S=>zOP b S m d l)
noncomputable def spanS (b:Built) (S:List Int) (m d:Int) : Span:=if (zZ b S m d).h < 0 then ⟨0,0⟩ else (zEM b S (zZ b S m d).h.toNat).getD ⟨0,0⟩
def heldN (b:Built) (S:List Int) (m d l n:Int) : Int:=zGH (zZ b S m d) l (oldV (viewT b S) (zZ b S m d).h (b.ms.idxOf m) n)
theorem ends_is {b:Built} {S:List Int} {m:Int} (hm:m∈b.ms) (d l:Int) : zOP b S m d l=[heldN b S m d l (spanS b S m d).lo,heldN b S m d l (spanS b S m d).hi]:=by
 unfold heldN;rw [oldV_view hm,oldV_view hm];unfold zOP spanS;rfl
theorem oldS_bd {b:Built} (h:zF b=0) {S:List Int} {m:Int} (hm:m∈b.ms) (d n:Int) : 0<=oldV (viewT b S) (zZ b S m d).h (b.ms.idxOf m) n/\oldV (viewT b S) (zZ b S m d).h (b.ms.idxOf m) n<=16777216000000:=by
 have hc:=zJP h S m d;rw [oldV_view hm];split
 ·omega
 ·unfold oldC;omega
theorem heldN_bd {b:Built} (h:zF b=0) {S:List Int} {m:Int} (hm:m∈b.ms) (d l n:Int) : -16777216000000<=heldN b S m d l n/\heldN b S m d l n<=16777216000000:=by
 have hc:=zJP h S m d;have ho:=oldS_bd h (S:=S) hm d n;unfold heldN zGH;split
 ·omega
 ·split <;> omega
end
end Go.Proofs.YtipaopbmklbmnaaGreatDoor
