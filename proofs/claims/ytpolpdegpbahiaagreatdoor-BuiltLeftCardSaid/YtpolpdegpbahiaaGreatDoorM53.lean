/- Signs of a comparison. -/
import Derived.Test.YtpolpdegpbahiaaGreatDoorM01
import Derived.Test.YtpolpdegpbahiaaGreatDoorM02
import Derived.Test.YtpolpdegpbahiaaGreatDoorM03
import Derived.Test.YtpolpdegpbahiaaGreatDoorM08
import Derived.Test.YtpolpdegpbahiaaGreatDoorM10
set_option linter.all false
set_option maxRecDepth 100000
set_option maxHeartbeats 12800000

namespace Go.Proofs.YtpolpdegpbahiaaGreatDoor
section
structure Has where
 c:Int
 l:Int
 h:Int
def zPD (bef c n:Int) : Int:=min (max 0 (n - bef)) c
def zDL (x:Has) (l old:Int) : Int:=if l=x.l then x.c - old else if l=x.l - 1 then old else 0
def zJO (x:Has) (k:Int) (n:Int) : Prop:=if k=1 then 0 < n else if k=2 then 0 < n∧n=x.c else n=0
structure Span where
 lo:Int
 hi:Int
def most:Int:=1125899906842624
def spanAll:Span:=⟨-most,most⟩
def zDV:Span:=⟨1,0⟩
def zBN (x:Has) (bef l k:Int) : Span :=
 if x.c=0∨¬ ((l=x.l - 1∧0≤x.h)∨l=x.l) then (if k=3 then spanAll else zDV)
 else if x.h < 0 then (if k=3 then zDV else spanAll)
 else if l=x.l - 1 then (if k=1 then ⟨1+bef,most+bef⟩ else if k=2 then ⟨x.c+bef,most+bef⟩ else ⟨-most+bef,0+bef⟩)
 else (if k=1 then ⟨-most+bef,x.c - 1+bef⟩ else if k=2 then ⟨-most+bef,0+bef⟩ else ⟨x.c+bef,most+bef⟩)
def Span.has (s:Span) (n:Int) : Prop:=s.lo≤n∧n≤s.hi
theorem allowed_iff {x:Has} {bef l k n:Int} (hc:0≤x.c) (hcm:x.c≤most) (hb:0≤bef) (hbm:bef+1000≤most) (hk:1≤k∧k≤3) (hn:0≤n∧n≤200) (hh:0≤x.h) :
  zJO x k (zDL x l (zPD bef x.c n))↔(zBN x bef l k).has n:=by
 unfold zJO zDL zPD zBN Span.has spanAll zDV most at *
 have hk3:k=1∨k=2∨k=3:=by omega
 rcases hk3 with rfl | rfl | rfl
 all_goals
  by_cases e0:x.c=0
  ·by_cases e1:l=x.l
   ·simp [e0,e1];try omega
   ·by_cases e2:l=x.l - 1
    ·simp [e0,e2];try omega
    ·simp [e0,e1,e2];try omega
  ·by_cases e1:l=x.l
   ·have e3:¬ x.l=x.l - 1:=by omega
    have e4:¬ x.h < 0:=by omega
    simp [e0,e1,e3,e4];try omega
   ·by_cases e2:l=x.l - 1
    ·have e3:¬ x.l - 1=x.l:=by omega
     have e4:¬ x.h < 0:=by omega
     simp [e0,e2,e3,e4,hh];try omega
    ·simp [e0,e1,e2];try omega
theorem zOV {x:Has} {bef l k:Int} (hc:0≤x.c) (hk:1≤k∧k≤3) (hh:x.h < 0) : zJO x k (zDL x l 0)↔zBN x bef l k≠zDV:=by
 unfold zJO zDL zBN spanAll zDV most at *
 have hk3:k=1∨k=2∨k=3:=by omega
 have e4:¬ 0≤x.h:=by omega
 rcases hk3 with rfl | rfl | rfl
 all_goals
  by_cases e0:x.c=0
  ·by_cases e1:l=x.l
   ·simp [e0,e1]
   ·by_cases e2:l=x.l - 1
    ·simp [e0,e2]
    ·simp [e0,e1,e2]
  ·by_cases e1:l=x.l
   ·simp [e0,e1,hh];try omega
   ·by_cases e2:l=x.l - 1
    ·have e3:¬ x.l - 1=x.l:=by omega
     simp [e2,e3,e4]
    ·simp [e1,e2]
end
section
open Go.RowKit
theorem held08 (w:World) (x:Has) (l o:Int) (hc:I64 (x.c - o)) (hl:I64 (x.l - 1)) :
  Calls Tryz.prog 95 #[.agg #[.int .i64 x.c,.int .i64 x.l,.int .i64 x.h],.int .i64 l,.int .i64 o] w fun e w'=>e = .returned (.int .i64 (zDL x l o))∧Below w.heap.size w w':=by
 obtain ⟨hb1,B1⟩:=zAZ w #[.int .i64 x.c,.int .i64 x.l,.int .i64 x.h] 168
 have c0:=B1 0 (.int .i64 x.c) rfl
 have c1:=B1 1 (.int .i64 x.l) rfl
 clear B1
 have hw1:IntKind.i64.wrap (x.c - o)=x.c - o:=IntWalk.i64_in _ (by unfold I64 at hc;omega)
 have hw2:IntKind.i64.wrap (x.l - 1)=x.l - 1:=IntWalk.i64_in _ (by unfold I64 at hl;omega)
 unfold zJ at c0 c1
 by_cases h1:l=x.l
 ·have h1':(l == x.l)=true:=by simpa using h1
  have HV:Hid (zDL x l o=x.c - o):=by unfold Hid zDL;rw [if_pos h1]
  clear h1
  go_enter Tryz.func95,Tryz.ntmps95
  go_wp2
  go_ret
  exact ⟨zBT HV.out.symm,hb1⟩
 ·have h1':(l == x.l)=false:=by simpa using h1
  by_cases h2:l=x.l - 1
  ·have h2':(l == x.l - 1)=true:=by simpa using h2
   have HV:Hid (zDL x l o=o):=by unfold Hid zDL;rw [if_neg h1,if_pos h2]
   clear h1 h2
   go_enter Tryz.func95,Tryz.ntmps95
   go_wp2
   go_ret
   exact ⟨zBT HV.out.symm,hb1⟩
  ·have h2':(l == x.l - 1)=false:=by simpa using h2
   have HV:Hid (zDL x l o=0):=by unfold Hid zDL;rw [if_neg h1,if_neg h2]
   clear h1 h2
   go_enter Tryz.func95,Tryz.ntmps95
   go_wp2
   go_ret
   exact ⟨zBT HV.out.symm,hb1⟩
end
section
theorem sorted_eq {α:Type} {lt:α→α→Prop} (irr:∀ x,¬ lt x x) (asy:∀ x y,lt x y→¬ lt y x) : ∀ xs ys:List α,xs.Pairwise lt→ys.Pairwise lt→(∀ x,x∈xs↔x∈ys)→xs=ys
 | [],[],_,_,_=>rfl
 | [],y :: ys,_,_,h=>absurd ((h y).2 (List.mem_cons_self ..)) (by simp)
 | x :: xs,[],_,_,h=>absurd ((h x).1 (List.mem_cons_self ..)) (by simp)
 | x :: xs,y :: ys,hx,hy,h=>by
   have e:x=y:=by
    rcases List.mem_cons.1 ((h x).1 (List.mem_cons_self ..)) with e | e
    ·exact e
    ·rcases List.mem_cons.1 ((h y).2 (List.mem_cons_self ..)) with e' | e'
     ·exact e'.symm
     ·exact absurd ((List.pairwise_cons.1 hx).1 y e') (asy _ _ ((List.pairwise_cons.1 hy).1 x e))
   subst e
   rw [sorted_eq irr asy xs ys (List.pairwise_cons.1 hx).2 (List.pairwise_cons.1 hy).2 (fun z=>⟨fun hz=>by
    rcases List.mem_cons.1 ((h z).1 (List.mem_cons_of_mem _ hz)) with rfl | e
    ·exact absurd ((List.pairwise_cons.1 hx).1 z hz) (irr z)
    ·exact e,fun hz=>by
    rcases List.mem_cons.1 ((h z).2 (List.mem_cons_of_mem _ hz)) with rfl | e
    ·exact absurd ((List.pairwise_cons.1 hy).1 z hz) (irr z)
    ·exact e⟩)]
def zQY:List Int→List Int→Bool
 | a :: r,b :: s=>if a=b then zQY r s else decide (a < b)
 | _,_=>false
def zIP (a b:List Int) : Bool:=if a.length=b.length then zQY a b else decide (a.length < b.length)
theorem zSB:∀ a,zQY a a=false
 | []=>rfl
 | a :: r=>by simp [zQY,zSB r]
theorem lexB_asy:∀ a b,zQY a b=true→zQY b a=false
 | [],_,h=>by simp [zQY] at h
 | _ :: _,[],h=>by simp [zQY] at h
 | a :: r,b :: s,h=>by
   simp only [zQY] at h ⊢
   by_cases e:a=b
   ·subst e
    rw [if_pos rfl] at h ⊢
    exact lexB_asy r s h
   ·rw [if_neg e] at h
    rw [if_neg (fun h=>e h.symm)]
    simp at h ⊢
    omega
theorem lexB_tot:∀ a b,a.length=b.length→zQY a b=false→zQY b a=false→a=b
 | [],[],_,_,_=>rfl
 | [],_ :: _,h,_,_=>by simp at h
 | _ :: _,[],h,_,_=>by simp at h
 | a :: r,b :: s,h,h1,h2=>by
   simp only [zQY] at h1 h2
   by_cases e:a=b
   ·subst e
    rw [if_pos rfl] at h1 h2
    rw [lexB_tot r s (by simpa using h) h1 h2]
   ·rw [if_neg e] at h1
    rw [if_neg (fun h=>e h.symm)] at h2
    simp at h1 h2
    omega
theorem lexB_tr:∀ a b c,a.length=b.length→b.length=c.length→zQY a b=true→zQY b c=true→zQY a c=true
 | [],_,_,_,_,h,_=>by simp [zQY] at h
 | _ :: _,[],_,_,_,h,_=>by simp [zQY] at h
 | _ :: _,_ :: _,[],_,_,_,h=>by simp [zQY] at h
 | a :: r,b :: s,c :: t,l1,l2,h1,h2=>by
   simp only [zQY] at h1 h2 ⊢
   by_cases e:a=b
   ·subst e
    rw [if_pos rfl] at h1
    by_cases e2:a=c
    ·subst e2
     rw [if_pos rfl] at h2 ⊢
     exact lexB_tr r s t (by simpa using l1) (by simpa using l2) h1 h2
    ·rw [if_neg e2] at h2 ⊢
     exact h2
   ·rw [if_neg e] at h1
    by_cases e2:b=c
    ·subst e2
     rw [if_neg e]
     exact h1
    ·rw [if_neg e2] at h2
     simp at h1 h2
     rw [if_neg (by omega)]
     simp
     omega
theorem befL_irr (a:List Int) : zIP a a=false:=by unfold zIP;rw [if_pos rfl];exact zSB a
theorem befL_asy (a b:List Int) (h:zIP a b=true) : zIP b a=false:=by
 unfold zIP at *
 by_cases e:a.length=b.length
 ·rw [if_pos e] at h
  rw [if_pos e.symm]
  exact lexB_asy _ _ h
 ·rw [if_neg e] at h
  rw [if_neg (fun h=>e h.symm)]
  simp at h ⊢
  omega
theorem zSC (a b:List Int) (h:zIP a b=false) (h2:zIP b a=false) : a=b:=by
 unfold zIP at *
 by_cases e:a.length=b.length
 ·rw [if_pos e] at h
  rw [if_pos e.symm] at h2
  exact lexB_tot _ _ e h h2
 ·rw [if_neg e] at h
  rw [if_neg (fun h=>e h.symm)] at h2
  simp at h h2
  omega
theorem befL_tr (a b c:List Int) (h:zIP a b=true) (h2:zIP b c=true) : zIP a c=true:=by
 unfold zIP at *
 by_cases e:a.length=b.length
 ·rw [if_pos e] at h
  by_cases e2:b.length=c.length
  ·rw [if_pos e2] at h2
   rw [if_pos (e.trans e2)]
   exact lexB_tr _ _ _ e e2 h h2
  ·rw [if_neg e2] at h2
   rw [if_neg (by omega)]
   simp at h2 ⊢
   omega
 ·rw [if_neg e] at h
  by_cases e2:b.length=c.length
  ·rw [if_neg (by omega)]
   simp at h ⊢
   omega
  ·rw [if_neg e2] at h2
   simp at h h2
   rw [if_neg (by omega)]
   simp
   omega
def Ord (A:List (List Int)) : Prop:=A.Pairwise (fun a b=>zIP a b=true)
theorem ord_eq {A B:List (List Int)} (hA:Ord A) (hB:Ord B) (h:∀ l,l∈A↔l∈B) : A=B :=
 sorted_eq (lt:=fun a b=>zIP a b=true) (fun x=>by simp [befL_irr]) (fun x y hh=>by simp [befL_asy x y hh]) A B hA hB h
theorem zQU {a b:List Int} (ha:a.Pairwise (· < ·)) (hb:b.Pairwise (· < ·)) (h:∀ x,x∈a↔x∈b) : a=b :=
 sorted_eq (lt:=fun a b:Int=>a < b) (fun x=>by omega) (fun x y hh=>by omega) a b ha hb h
def IsT (O l:List Int) : Prop:=l.Pairwise (· < ·)∧∀ x∈l,x∈O
def srt (l:List Int) : List Int:=l.mergeSort (fun a b=>decide (a≤b))
theorem zNS {l:List Int} {x:Int} : x∈srt l↔x∈l:=List.mem_mergeSort
theorem srt_rise {l:List Int} (h:l.Nodup) : (srt l).Pairwise (· < ·):=by
 have h1:(srt l).Pairwise (fun a b=>decide (a≤b)=true):=List.pairwise_mergeSort (fun a b c h1 h2=>by simp at *;omega) (fun a b=>by simp;omega) l
 have h2:(srt l).Nodup:=(List.mergeSort_perm l _).nodup_iff.2 h
 refine (h1.and h2).imp (fun ⟨a1,a2⟩=>?_)
 simp at a1
 omega
def stepP (A:List (List Int)) (x:Int) : List (List Int):=A++A.map (fun l=>srt (l++[x]))
def zPC (O:List Int) : List (List Int):=O.foldl stepP [[]]
theorem zHT {l:List Int} (h:l.Pairwise (· < ·)) : l.Nodup:=h.imp (fun h=>by omega)
theorem zOF {l:List Int} {x:Int} (h:l.Nodup) (hx:x ∉ l) : (l++[x]).Nodup:=by
 rw [List.nodup_append]
 exact ⟨h,by simp,fun a ha b hb=>by simp at hb;subst hb;intro e;subst e;exact hx ha⟩
theorem allP_snoc (O:List Int) (x:Int) : zPC (O++[x])=stepP (zPC O) x:=by unfold zPC;rw [List.foldl_append];rfl
theorem allP_rev (O:List Int) (h:O.reverse.Nodup) : (∀ l,l∈zPC O.reverse↔IsT O.reverse l)∧(zPC O.reverse).Nodup:=by
 induction O with
 | nil =>
   refine ⟨fun l=>?_,by simp [zPC]⟩
   simp only [List.reverse_nil,zPC,List.foldl_nil,List.mem_singleton,IsT]
   constructor
   ·rintro rfl
    simp
   ·rintro ⟨_,h2⟩
    cases l with
    | nil=>rfl
    | cons a r=>exact absurd (h2 a (List.mem_cons_self ..)) (by simp)
 | cons x O ih =>
   rw [List.reverse_cons] at h ⊢
   have hO:O.reverse.Nodup:=(List.nodup_append.1 h).1
   have hx:x ∉ O.reverse:=fun hx=>(List.nodup_append.1 h).2.2 x hx x (by simp) rfl
   obtain ⟨h1,h2⟩:=ih hO
   generalize O.reverse=P at *
   have hxl:∀ l∈zPC P,x ∉ l:=fun l hl hh=>hx ((h1 l).1 hl |>.2 x hh)
   rw [allP_snoc]
   refine ⟨fun l=>?_,?_⟩
   ·unfold stepP
    rw [List.mem_append,h1]
    constructor
    ·rintro (⟨a1,a2⟩ | hm)
     ·exact ⟨a1,fun y hy=>List.mem_append_left _ (a2 y hy)⟩
     ·obtain ⟨l0,hl0,rfl⟩:=List.mem_map.1 hm
      obtain ⟨a1,a2⟩:=(h1 l0).1 hl0
      refine ⟨srt_rise (zOF (zHT a1) (hxl l0 hl0)),fun y hy=>?_⟩
      rw [zNS,List.mem_append] at hy
      rcases hy with hy | hy
      ·exact List.mem_append_left _ (a2 y hy)
      ·exact List.mem_append_right _ hy
    ·rintro ⟨a1,a2⟩
     by_cases hxm:x∈l
     ·right
      have hf:(l.filter (fun y=>decide (y≠x))).Pairwise (· < ·):=a1.filter _
      have hIs:IsT P (l.filter (fun y=>decide (y≠x))):=⟨hf,fun y hy=>by
       rw [List.mem_filter] at hy
       rcases List.mem_append.1 (a2 y hy.1) with h | h
       ·exact h
       ·simp at h
        simp [h] at hy⟩
      refine List.mem_map.2 ⟨_,(h1 _).2 hIs,zQU (srt_rise (zOF (zHT hf) (by simp))) a1 (fun y=>?_)⟩
      rw [zNS,List.mem_append,List.mem_filter]
      simp only [decide_eq_true_eq,List.mem_singleton]
      constructor
      ·rintro (⟨h,_⟩ | rfl)
       ·exact h
       ·exact hxm
      ·intro h
       by_cases e:y=x
       ·exact .inr e
       ·exact .inl ⟨h,e⟩
     ·left
      refine ⟨a1,fun y hy=>?_⟩
      rcases List.mem_append.1 (a2 y hy) with h | h
      ·exact h
      ·simp at h
       subst h
       exact absurd hy hxm
   ·unfold stepP
    rw [List.nodup_append]
    refine ⟨h2,?_,?_⟩
    ·unfold List.Nodup
     rw [List.pairwise_map]
     refine (List.Pairwise.and_mem.1 h2).imp ?_
     rintro a c ⟨ha,hc,hne⟩ he
     apply hne
     obtain ⟨a1,_⟩:=(h1 a).1 ha
     obtain ⟨c1,_⟩:=(h1 c).1 hc
     refine zQU a1 c1 (fun y=>?_)
     have key:y∈srt (a++[x])↔y∈srt (c++[x]):=by rw [he]
     rw [zNS,zNS,List.mem_append,List.mem_append] at key
     by_cases e:y=x
     ·subst e
      exact ⟨fun h=>absurd h (hxl a ha),fun h=>absurd h (hxl c hc)⟩
     ·simpa [e] using key
    ·intro a ha c hc he
     obtain ⟨l0,hl0,rfl⟩:=List.mem_map.1 hc
     subst he
     exact hxl _ ha (zNS.2 (List.mem_append_right _ (by simp)))
theorem allP_mem {O:List Int} (h:O.Nodup) (l:List Int) : l∈zPC O↔IsT O l:=by
 have:=(allP_rev O.reverse (by rw [List.reverse_reverse];exact h)).1 l
 rwa [List.reverse_reverse] at this
theorem allP_nodup {O:List Int} (h:O.Nodup) : (zPC O).Nodup:=by
 have:=(allP_rev O.reverse (by rw [List.reverse_reverse];exact h)).2
 rwa [List.reverse_reverse] at this
def zEH (O:List Int) (s:Nat) : Nat→List Int
 | 0=>[]
 | i+1=>zEH O s i++(if s.testBit i then [O.getD i 0] else [])
theorem zIB {O:List Int} {s i:Nat} (hi:i≤O.length) {y:Int} : y∈zEH O s i↔∃ j,j < i∧s.testBit j=true∧O[j]? = some y:=by
 induction i with
 | zero=>simp [zEH]
 | succ i ih =>
   simp only [zEH,List.mem_append,ih (by omega)]
   have hg:O.getD i 0=O[i]'(by omega):=by rw [List.getD_eq_getElem?_getD,List.getElem?_eq_getElem (by omega)];rfl
   constructor
   ·rintro (⟨j,hj,h1,h2⟩ | h)
    ·exact ⟨j,by omega,h1,h2⟩
    ·split at h
     ·rename_i hb
      rw [hg] at h
      simp at h
      exact ⟨i,by omega,hb,by rw [List.getElem?_eq_getElem (by omega),h]⟩
     ·simp at h
   ·rintro ⟨j,hj,h1,h2⟩
    by_cases e:j=i
    ·subst e
     right
     rw [if_pos h1,hg]
     rw [List.getElem?_eq_getElem (by omega)] at h2
     simp at h2
     simp [h2]
    ·exact .inl ⟨j,by omega,h1,h2⟩
theorem selTo_rise {O:List Int} (hO:O.Pairwise (· < ·)) {s i:Nat} (hi:i≤O.length) : (zEH O s i).Pairwise (· < ·):=by
 induction i with
 | zero=>simp [zEH]
 | succ i ih =>
   simp only [zEH]
   rw [List.pairwise_append]
   refine ⟨ih (by omega),by split <;> simp,fun a ha b hb=>?_⟩
   split at hb
   ·obtain ⟨j,hj,_,h2⟩:=(zIB (by omega)).1 ha
    have hg:O.getD i 0=O[i]'(by omega):=by rw [List.getD_eq_getElem?_getD,List.getElem?_eq_getElem (by omega)];rfl
    rw [hg] at hb
    simp at hb
    subst hb
    rw [List.getElem?_eq_getElem (by omega)] at h2
    simp at h2
    subst h2
    exact List.pairwise_iff_getElem.1 hO j i (by omega) (by omega) hj
   ·simp at hb
theorem bits_of:∀ (k:Nat) (p:Nat→Bool),∃ s,s < 2 ^ k∧∀ j,j < k→s.testBit j=p j
 | 0,_=>⟨0,by simp,fun j hj=>by omega⟩
 | k+1,p=>by
   obtain ⟨s,hs,h⟩:=bits_of k (fun j=>p (j+1))
   refine ⟨2*s+(if p 0 then 1 else 0),by rw [Nat.pow_succ];split <;> omega,fun j hj=>?_⟩
   cases j with
   | zero =>
     rw [Nat.testBit_zero]
     cases p 0 <;> simp <;> omega
   | succ j =>
     rw [Nat.testBit_succ,← h j (by omega)]
     congr 1
     split <;> omega
def zNC (O:List Int) : List (List Int):=(List.range (2 ^ O.length)).map (fun s=>zEH O s O.length)
theorem zRI {O:List Int} (hO:O.Pairwise (· < ·)) (l:List Int) : l∈zNC O↔IsT O l:=by
 unfold zNC
 rw [List.mem_map]
 constructor
 ·rintro ⟨s,_,rfl⟩
  refine ⟨selTo_rise hO (Nat.le_refl _),fun x hx=>?_⟩
  obtain ⟨j,_,_,h2⟩:=(zIB (Nat.le_refl _)).1 hx
  exact List.mem_of_getElem? h2
 ·rintro ⟨h1,h2⟩
  obtain ⟨s,hs,hb⟩:=bits_of O.length (fun j=>decide (O.getD j 0∈l))
  refine ⟨s,List.mem_range.2 hs,zQU (selTo_rise hO (Nat.le_refl _)) h1 (fun x=>?_)⟩
  rw [zIB (Nat.le_refl _)]
  constructor
  ·rintro ⟨j,hj,a1,a2⟩
   rw [hb j hj] at a1
   rw [List.getD_eq_getElem?_getD,a2] at a1
   simpa using a1
  ·intro hx
   obtain ⟨j,hj,rfl⟩:=List.getElem_of_mem (h2 x hx)
   refine ⟨j,hj,?_,List.getElem?_eq_getElem hj⟩
   rw [hb j hj,List.getD_eq_getElem?_getD,List.getElem?_eq_getElem hj]
   simpa using hx
theorem refT_nodup {O:List Int} (hO:O.Pairwise (· < ·)) : (zNC O).Nodup:=by
 unfold zNC List.Nodup
 rw [List.pairwise_map]
 refine (List.Pairwise.and_mem.1 List.nodup_range).imp ?_
 rintro s t ⟨hs,ht,hne⟩ he
 rw [List.mem_range] at hs ht
 apply hne
 refine Nat.eq_of_testBit_eq (fun j=>?_)
 by_cases hj:j < O.length
 ·have key:O[j]∈zEH O s O.length↔O[j]∈zEH O t O.length:=by rw [he]
  rw [zIB (Nat.le_refl _),zIB (Nat.le_refl _)] at key
  have hu:∀ u:Nat,(∃ i,i < O.length∧u.testBit i=true∧O[i]? = some O[j])↔u.testBit j=true:=fun u=>by
   constructor
   ·rintro ⟨i,hi,h1,h2⟩
    rw [List.getElem?_eq_getElem hi] at h2
    simp at h2
    have:i=j:=by
     rcases Nat.lt_trichotomy i j with h | h | h
     ·have:=List.pairwise_iff_getElem.1 hO i j hi hj h;omega
     ·exact h
     ·have:=List.pairwise_iff_getElem.1 hO j i hj hi h;omega
    subst this
    exact h1
   ·intro h
    exact ⟨j,hj,h,List.getElem?_eq_getElem hj⟩
  rw [hu,hu] at key
  cases h1:s.testBit j <;> cases h2:t.testBit j <;> simp [h1,h2] at key ⊢
 ·have h1:s.testBit j=false:=Nat.testBit_lt_two_pow (Nat.lt_of_lt_of_le hs (Nat.pow_le_pow_right (by decide) (by omega)))
  have h2:t.testBit j=false:=Nat.testBit_lt_two_pow (Nat.lt_of_lt_of_le ht (Nat.pow_le_pow_right (by decide) (by omega)))
  rw [h1,h2]
end
section
open Go.RowKit
def zKW (w:World) (b o:Nat) (x:List Int) : Prop:=∃ v,zJ w b o v∧Sl zAJ 1 w v x
theorem zCC:zHU zKW:=fun _ _ _ _ _ hb ⟨v,h1,h2⟩=>⟨v,zC hb h1,zI zN hb h2⟩
def AtHas (w:World) (b o:Nat) (x:Has) : Prop:=(zJ w b o (.int .i64 x.c)∧zJ w b (o+1) (.int .i64 x.l)∧zJ w b (o+2) (.int .i64 x.h))∧I64 x.c∧I64 x.l∧I64 x.h
theorem zRN:zHU AtHas:=fun _ _ _ _ _ hb ⟨⟨h0,h1,h2⟩,hr⟩=>⟨⟨zC hb h0,zC hb h1,zC hb h2⟩,hr⟩
structure Hold where
 d:Int
 l:Int
 lo:Int
 hi:Int
def zOP (w:World) (b o:Nat) (x:Hold) : Prop:=(zJ w b o (.int .i64 x.d)∧zJ w b (o+1) (.int .i64 x.l)∧zJ w b (o+2) (.int .i64 x.lo)∧zJ w b (o+3) (.int .i64 x.hi))∧I64 x.d∧I64 x.l∧I64 x.lo∧I64 x.hi
theorem zOA:zHU zOP:=fun _ _ _ _ _ hb ⟨⟨h0,h1,h2,h3⟩,hr⟩=>⟨⟨zC hb h0,zC hb h1,zC hb h2,zC hb h3⟩,hr⟩
def zFR (s:Span) (f:Bool) (n:Int) : Span:=if f then ⟨min s.lo n,max s.hi n⟩ else ⟨n,n⟩
def atD (T:List Int) (k:Nat) : Int:=T.getD k 0
theorem atD_in {T:List Int} {k:Nat} (h:k < T.length) : atD T k=T[k]:=by unfold atD;rw [List.getD_eq_getElem?_getD,List.getElem?_eq_getElem h];rfl
def zHH (T:List Int) : Nat→Int
 | 0=>0
 | k+1=>zHH T k+T.getD k 0
theorem sumTo_nn {T:List Int} (h:∀ x∈T,0≤x) (k:Nat) : 0≤zHH T k:=by
 induction k with
 | zero=>simp [zHH]
 | succ k ih =>
   simp only [zHH]
   by_cases hk:k < T.length
   ·have:=h _ (List.getElem_mem hk)
    rw [List.getD_eq_getElem?_getD,List.getElem?_eq_getElem hk]
    simp only [Option.getD_some]
    omega
   ·rw [List.getD_eq_getElem?_getD,List.getElem?_eq_none (Nat.le_of_not_lt hk)]
    simp only [Option.getD_none]
    omega
theorem wider08 (w:World) (s:Span) (f:Bool) (n:Int) :
  Calls Tryz.prog 75 #[.agg #[.int .i64 s.lo,.int .i64 s.hi],.bool f,.int .i64 n] w fun e w'=>e = .returned (.agg #[.int .i64 (zFR s f n).lo,.int .i64 (zFR s f n).hi])∧Below w.heap.size w w':=by
 obtain ⟨hb1,B1⟩:=zAZ w #[.int .i64 s.lo,.int .i64 s.hi] 38
 have c0:=B1 0 (.int .i64 s.lo) rfl
 have c1:=B1 1 (.int .i64 s.hi) rfl
 have hsz:(w.alloc (.cells #[.int .i64 s.lo,.int .i64 s.hi] 38)).heap.size=w.heap.size+1:=by simp
 clear B1
 unfold zJ at c0 c1
 cases f
 ·go_enter Tryz.func75,Tryz.ntmps75
  go_wp2
  refine bodyPost_ret (v:=.agg #[.int .i64 n,.int .i64 n]) (by simp [results,Tryz.results75,go_sem]) rfl ?_
  exact ⟨rfl,zA (zB _ _) (zB _ _)⟩
 ·go_enter Tryz.func75,Tryz.ntmps75
  go_wp2
  all_goals
   refine bodyPost_ret (v:=.agg #[.int .i64 (zFR s true n).lo,.int .i64 (zFR s true n).hi]) (by simp [results,Tryz.results75,go_sem,zFR];omega) rfl ?_
   exact ⟨rfl,zA (zB _ _) (zB _ _)⟩
theorem zRE (w:World) (vr vn vm vh vs:Value) (o:Int) (rs:List Report) (hs:Sl zDD 5 w vs rs) (hr:rs.length≤16) :
  Calls Tryz.prog 54 #[.agg #[vr,vn,.int .i64 o,vm,vh,vs]] w fun e w'=>e = .returned (.int .i64 (2 ^ rs.length - 1))∧Below w.heap.size w w':=by
 obtain ⟨hb1,B1⟩:=zAZ w #[vr,vn,.int .i64 o,vm,vh,vs] 32
 have c5:=B1 5 vs rfl
 clear B1
 obtain ⟨az,capz,rfl,hms⟩:=zD hs
 clear hs
 unfold zJ at c5
 generalize rs.length=k at *
 have hk:k=0∨k=1∨k=2∨k=3∨k=4∨k=5∨k=6∨k=7∨k=8∨k=9∨k=10∨k=11∨k=12∨k=13∨k=14∨k=15∨k=16:=by omega
 rcases hk with rfl | rfl | rfl | rfl | rfl | rfl | rfl | rfl | rfl | rfl | rfl | rfl | rfl | rfl | rfl | rfl | rfl
 all_goals
  go_enter Tryz.func54,Tryz.ntmps54
  go_wp2
  go_ret
  exact ⟨rfl,hb1⟩
theorem lexB_at:∀ (a b:List Int) (hl:a.length=b.length) (k:Nat) (hk:k < a.length),(∀ j,j < k→(hj:j < a.length)→a[j]=b[j]'(by omega))→a[k]≠b[k]'(by omega)→zQY a b=decide (a[k] < b[k]'(by omega))
 | [],_,_,k,hk,_,_=>by simp at hk
 | _ :: _,[],hl,_,_,_,_=>by simp at hl
 | x :: r,y :: s,hl,0,_,_,hne=>by
   simp only [List.getElem_cons_zero] at hne ⊢
   simp only [zQY,if_neg hne]
 | x :: r,y :: s,hl,k+1,hk,h,hne=>by
   have h0:=h 0 (by omega) (by simp)
   simp only [List.getElem_cons_zero] at h0
   simp only [List.getElem_cons_succ] at hne ⊢
   simp only [zQY,if_pos h0]
   exact lexB_at r s (by simpa using hl) k (by simpa using hk) (fun j hj hjl=>by
    have:=h (j+1) (by omega) (by simpa using hjl)
    simpa only [List.getElem_cons_succ] using this) hne
theorem before03 (w:World) (va vb:Value) (a b:List Int) (ha:Sl zAJ 1 w va a) (hb:Sl zAJ 1 w vb b) :
  Calls Tryz.prog 87 #[va,vb] w fun e w'=>e = .returned (.bool (zIP a b))∧Below w.heap.size w w':=by
 obtain ⟨aa,capa,rfl,hma⟩:=zD ha
 obtain ⟨ab,capb,rfl,hmb⟩:=zD hb
 have HA:=Lib.hid ha
 have HB:=Lib.hid hb
 clear ha hb
 by_cases hl:a.length=b.length
 ·have HV:Hid (zIP a b=zQY a b):=by unfold Hid zIP;rw [if_pos hl]
  have hbl:Hid (∀ k,k < a.length→k < b.length):=fun k h=>by omega
  have HLEX:Hid (∀ k (hk:k < a.length),(∀ j,j < k→(hj:j < a.length)→a[j]=b[j]'(hbl.out j hj))→a[k]≠b[k]'(hbl.out k hk)→zQY a b=decide (a[k] < b[k]'(hbl.out k hk))):=fun k hk h1 h2=>lexB_at a b hl k hk h1 h2
  have HEQ:Hid ((∀ j,j < a.length→(hj:j < a.length)→a[j]=b[j]'(hbl.out j hj))→zQY a b=false):=fun h=>by
   have:a=b:=List.ext_getElem hl (fun j h1 h2=>h j h1 h1)
   rw [this];exact zSB b
  rw [← hl] at HB hmb ⊢
  have HB2:Hid (∀ k (hk:k < a.length),∃ bb off,ab=some ⟨bb,off,none⟩∧zAJ w bb (off+k*1) (b[k]'(hbl.out k hk))):=fun k hk=>by
   have HB1:=HB.out
   rw [hl] at HB1
   exact (zZ HB1).2 k (by omega)
  clear hl HB
  go_enter Tryz.func87,Tryz.ntmps87
  go_wp2
  go_loopw [5] (fun i wr=>∃ k:Nat,i = .int .i64 k∧k≤a.length∧Hid (∀ j,j < k→(hj:j < a.length)→a[j]=b[j]'(hbl.out j hj))∧Below w.heap.size w wr) (fun i _=>a.length - (intOf i).toNat)
  case atStart=>exact ⟨0,rfl,by omega,fun j hj=>absurd hj (by omega),Below.refl _ _⟩
  case round =>
   obtain ⟨k,rfl,hk,HALL,hb⟩:=hrel
   by_cases hlt:k < a.length
   ·obtain ⟨b1,o1,rfl,p0,_⟩:=(zZ (zI zN hb HA.out)).2 k hlt
    obtain ⟨b2,o2,rfl,q0,_⟩:=HB2.out k hlt
    replace q0:=zC hb q0
    unfold zJ at p0 q0
    rw [Nat.mul_one] at p0 q0
    have hlk:=Lib.hid (HLEX.out k hlt HALL.out)
    have hkb:=hbl.out k hlt
    have HSTEP:Hid (a[k]=b[k]'hkb→∀ j,j < k+1→(hj:j < a.length)→a[j]=b[j]'(hbl.out j hj)):=fun he j hj hja=>by
     by_cases e:j=k
     ·subst e;exact he
     ·exact HALL.out j (by omega) hja
    generalize a[k]=x at *
    generalize b[k]'hkb=y at *
    by_cases he:x=y
    ·have he':(x == y)=true:=by simpa using he
     have HS:=Lib.hid (HSTEP.out he)
     clear HSTEP hlk he
     go_wp2
     go_quiet (fail)
     go_wp2
     go_roundw
     case rel=>exact ⟨k+1,by go_num,by omega,HS,zA hb (zO _ _)⟩
     case measure=>simp [intOf];omega
    ·have he':(x == y)=false:=by simpa using he
     have HS:=Lib.hid (hlk.out he)
     clear HSTEP hlk he
     go_wp2
     go_quiet (fail)
     go_wp2
     go_quiet (fail)
     go_wp2
     go_ret
     refine ⟨zCQ ?_,zA hb (zA (zO _ _) (zO _ _))⟩
     rw [HV.out,HS.out]
   ·have HE:Hid (zQY a b=false):=HEQ.out (fun j h1 h2=>HALL.out j (by omega) h2)
    clear HEQ HALL
    go_wp2
    go_ret
    exact ⟨zCQ (by rw [HV.out,HE.out]),hb⟩
 ·have HV:Hid (zIP a b=decide (a.length < b.length)):=by unfold Hid zIP;rw [if_neg hl]
  have hne:((a.length:Int) == (b.length:Int))=false:=by simp;omega
  clear HA HB
  generalize a.length=m at *
  generalize b.length=n at *
  clear hl
  go_enter Tryz.func87,Tryz.ntmps87
  go_wp2
  go_ret
  refine ⟨zCQ ?_,Below.refl _ _⟩
  rw [HV.out]
theorem old08_none (w:World) (vp vt:Value) (h m n:Int) (hh:h < 0) :
  Calls Tryz.prog 96 #[.agg #[vp,vt],.int .i64 h,.int .i64 m,.int .i64 n] w fun e w'=>e = .returned (.int .i64 0)∧Below w.heap.size w w':=by
 obtain ⟨hb1,B1⟩:=zAZ w #[vp,vt] 130
 clear B1
 go_enter Tryz.func96,Tryz.ntmps96
 go_wp2
 go_ret
 exact ⟨rfl,hb1⟩
theorem old08 (w:World) (vp vt:Value) (T:List (List Int)) (k m:Nat) (n:Int) (hT:Sl zKW 1 w vt T) (hk:k < T.length) (hm:m < T[k].length) (h0:∀ x∈T[k],0≤x) (hn:0≤n∧n≤9223372036854775807) :
  Calls Tryz.prog 96 #[.agg #[vp,vt],.int .i64 k,.int .i64 m,.int .i64 n] w fun e w'=>e = .returned (.int .i64 (zPD (zHH T[k] m) (atD T[k] m) n))∧Below w.heap.size w w':=by
 obtain ⟨hb1,B1⟩:=zAZ w #[vp,vt] 130
 have c1:=B1 1 vt rfl
 clear B1
 obtain ⟨at',capt,rfl,hmt⟩:=zD hT
 obtain ⟨bk,ok,rfl,vrow,hcr,hrow⟩:=(zZ (zI zCC hb1 hT)).2 k hk
 obtain ⟨ar,capr,rfl,hmr⟩:=zD hrow
 have hkt:(k:Int) < T.length:=by omega
 clear hT
 generalize T[k]=R at *
 have C1:=Lib.hid c1
 have CR:=Lib.hid hcr
 have HROW:=Lib.hid hrow
 have H0:=Lib.hid h0
 clear h0 hrow c1 hcr hk
 have hmR:(m:Int) < R.length:=by omega
 go_enter Tryz.func96,Tryz.ntmps96
 go_wp2
 generalize w.alloc _=w1 at *
 have c1:=C1.out
 have cr:=CR.out
 unfold zJ at c1 cr
 rw [Nat.mul_one] at cr
 go_loopw [3,9] (fun c i wr=>∃ j:Nat,i = .int .i64 j∧j≤m∧c = .int .i64 (max 0 (n - zHH R j))∧wr=w1) (fun _ i _=>m - (intOf i).toNat)
 case atStart=>exact ⟨0,rfl,by omega,by simp only [zHH];congr 1;omega,rfl⟩
 case round =>
  obtain ⟨j,rfl,hj,rfl,rfl⟩:=hrel
  have hjR:j < R.length:=by omega
  obtain ⟨b,off,rfl,hc,hi⟩:=(zZ HROW.out).2 j hjR
  have ht0:=H0.out _ (List.getElem_mem hjR)
  have hgd:atD R j=R[j]:=atD_in hjR
  have hs1:Hid (zHH R (j+1)=zHH R j+R[j]):=by unfold Hid;rw [← hgd];rfl
  have HRES:Hid (j=m→zPD (zHH R m) (atD R m) n=min (max 0 (n - zHH R j)) R[j]):=fun e=>by subst e;rw [hgd];rfl
  unfold I64 at hi
  unfold zJ at hc
  rw [Nat.mul_one] at hc
  have hsb:0≤zHH R j:=sumTo_nn H0.out j
  generalize R[j]=t at *
  have hmx:0≤max 0 (n - zHH R j)∧max 0 (n - zHH R j)≤n:=by omega
  have hnx:Hid (∀ u,u=min (max 0 (n - zHH R j)) t→max 0 (n - zHH R (j+1))=max 0 (n - zHH R j) - u):=fun u hu=>by rw [hs1.out];omega
  clear hgd hs1
  generalize max 0 (n - zHH R j)=c at *
  by_cases hlt:j < m
  ·have hw1:IntKind.i64.wrap (c - t)=c - t:=IntWalk.i64_in _ (by omega)
   have hw2:IntKind.i64.wrap (c - c)=c - c:=IntWalk.i64_in _ (by omega)
   clear HRES
   go_wp2
   all_goals
    go_roundw
    case rel=>exact ⟨j+1,by go_num,by omega,by congr 1;exact (hnx.out _ (by omega)).symm,trivial⟩
    case measure=>simp [intOf];omega
  ·have HR:=Lib.hid (HRES.out (by omega))
   clear hnx HRES
   obtain rfl:j=m:=by omega
   go_wp2
   all_goals
    go_ret
    refine ⟨zBT ?_,hb1⟩
    rw [HR.out]
    omega
theorem sameParts08 (w:World) (v v':Value) (xs:List Hold) (hx:Sl zOP 4 w v xs) (hy:Sl zOP 4 w v' xs) :
  Calls Tryz.prog 14 #[v,v'] w fun e w'=>e = .returned (.bool true)∧Below w.heap.size w w':=by
 obtain ⟨a,cap,rfl,hm⟩:=zD hx
 obtain ⟨a',cap',rfl,_⟩:=zD hy
 go_enter Tryz.func14,Tryz.ntmps14
 go_wp2
 go_loopw [5] (fun i wr=>∃ k:Nat,i = .int .i64 k∧k≤xs.length∧Below w.heap.size w wr) (fun i _=>xs.length - (intOf i).toNat)
 case atStart=>exact ⟨0,rfl,by omega,Below.refl _ _⟩
 case round =>
  obtain ⟨k,rfl,hk,hb⟩:=hrel
  by_cases hlt:k < xs.length
  ·have X:=(zZ (zI zOA hb hx)).2 k hlt
   have Y:=(zZ (zI zOA hb hy)).2 k hlt
   obtain ⟨b,off,rfl,⟨p0,p1,p2,p3⟩,_⟩:=X
   obtain ⟨b',off',rfl,⟨q0,q1,q2,q3⟩,_⟩:=Y
   unfold zJ at p0 p1 p2 p3 q0 q1 q2 q3
   generalize xs[k]=x at *
   clear hx hy
   go_wp2
   go_quiet (fail)
   go_wp2
   go_roundw
   case rel=>exact ⟨k+1,by go_num,by omega,zA hb (zO _ _)⟩
   case measure=>simp [intOf];omega
  ·go_wp2
   go_ret
   exact ⟨rfl,hb⟩
end
end Go.Proofs.YtpolpdegpbahiaaGreatDoor
namespace Go.Proofs.YtpolpdegpbahiaaGreatDoor
open Tryz
section
open Go.RowKit
def zEK (es:List TypeId) (w w':World) : Prop:=∀ (k:Nat) (cur:Array Value) (e:TypeId) (q:Nat×Nat),e∈es→w.heap[k]? = some (Obj.cells cur e q)→w'.heap[k]? = some (Obj.cells cur e q)
theorem zNG (es:List TypeId) (w:World) : zEK es w w:=fun _ _ _ _ _ h=>h
theorem zEK.trans {es:List TypeId} {w w1 w2:World} (h:zEK es w w1) (k:zEK es w1 w2) : zEK es w w2:=fun b cur e q he hc=>k b cur e q he (h b cur e q he hc)
theorem zEK.sub {es fs:List TypeId} {w w':World} (h:zEK fs w w') (hs:∀ e∈es,e∈fs) : zEK es w w':=fun b cur e q he hc=>h b cur e q (hs e he) hc
theorem zAQ {es:List TypeId} {w w':World} (hb:Below w.heap.size w w') : zEK es w w':=fun k _ _ _ _ hc=>(hb.block k (Array.getElem?_eq_some_iff.1 hc).1).trans hc
theorem zHV {es:List TypeId} {w:World} {g j:Nat} {u:Value} {cur:Array Value} {e:TypeId} {q:Nat×Nat} (hg:w.heap[g]? = some (.cells cur e q)) (hne:e ∉ es) : zEK es w (w.setCell ⟨g,j,none⟩ u):=fun k _ e' _ he hc=>by
 refine (Below.heap_setCell w ⟨g,j,none⟩ u k (fun h=>?_)).trans hc
 subst h
 rw [hg] at hc
 cases hc
 exact hne he
theorem zCE {es:List TypeId} {e:TypeId} {w w':World} {v:Value} {sz n:Nat} {cs:List Value} {base:Nat} (hgr:w.grownBy w' v.ownBlock) (hown:w.ownsRow base e sz v n cs) (hne:e ∉ es) : zEK es w w':=fun k cur e' q he hc=>by
 have hk:=(Array.getElem?_eq_some_iff.1 hc).1
 refine (hgr.block k hk (fun h=>?_)).trans hc
 rcases hown.2 with ⟨rfl,_⟩ | ⟨g,cap,cur',rfl,_,hcur,_⟩
 ·simp [Value.ownBlock] at h
 ·simp [Value.ownBlock] at h
  subst h
  rw [hcur] at hc
  cases hc
  exact hne he
def OnT (es:List TypeId) (P:World→Prop) (w:World) : Prop:=∀ w',zEK es w w'→P w'
theorem OnT.now {es:List TypeId} {P:World→Prop} {w:World} (h:OnT es P w) : P w:=h w (zNG es w)
theorem OnT.keep {es:List TypeId} {P:World→Prop} {w w':World} (h:OnT es P w) (k:zEK es w w') : OnT es P w':=fun w2 k2=>h w2 (k.trans k2)
theorem OnT.ext {es:List TypeId} {P:World→Prop} {w w':World} (hb:Below w.heap.size w w') (h:OnT es P w) : OnT es P w':=h.keep (zAQ hb)
theorem OnT.weak {es fs:List TypeId} {P:World→Prop} {w:World} (h:OnT es P w) (hs:∀ e∈es,e∈fs) : OnT fs P w:=fun w' k=>h w' (k.sub hs)
theorem OnT.mono {es:List TypeId} {P Q:World→Prop} {w:World} (h:OnT es P w) (hpq:∀ w,P w→Q w) : OnT es Q w:=fun w' k=>hpq _ (h w' k)
theorem OnT.both {es:List TypeId} {P Q:World→Prop} {w:World} (h:OnT es P w) (k:OnT es Q w) : OnT es (fun w=>P w∧Q w) w:=fun w' q=>⟨h w' q,k w' q⟩
def zDW {α:Type} (es:List TypeId) (F:World→List Value→α→Prop) (sz:Nat) (w:World) (cs:List Value) (xs:List α) : Prop :=
 ∃ ps:List (List Value),cs=ps.flatten∧ps.length=xs.length∧∀ (k:Nat) (h:k < xs.length) (h':k < ps.length),ps[k].length=sz∧OnT es (fun w=>F w ps[k] xs[k]) w
theorem zJK {α:Type} (es:List TypeId) (F:World→List Value→α→Prop) (sz:Nat) (w:World) : zDW es F sz w [] []:=⟨[],rfl,rfl,fun k h=>by simp at h⟩
theorem zDW.snoc {α:Type} {es:List TypeId} {F:World→List Value→α→Prop} {sz:Nat} {w:World} {cs:List Value} {xs:List α} (h:zDW es F sz w cs xs) {vs:List Value} {x:α} (hl:vs.length=sz) (hF:OnT es (fun w=>F w vs x) w) : zDW es F sz w (cs++vs) (xs++[x]):=by
 obtain ⟨ps,rfl,hpl,hk⟩:=h
 refine ⟨ps++[vs],by simp,by simp [hpl],fun k h1 h2=>?_⟩
 have g1:k < xs.length+1:=by simpa using h1
 by_cases e:k < xs.length
 ·have:=hk k e (by omega)
  simp only [List.getElem_append_left (show k < ps.length by omega),List.getElem_append_left e]
  exact this
 ·obtain rfl:k=xs.length:=by omega
  have e1:(ps++[vs])[xs.length]'h2=vs:=by simp [List.getElem_append_right (show ps.length≤xs.length by omega),hpl]
  have e2:(xs++[x])[xs.length]'h1=x:=by simp
  rw [e1,e2]
  exact ⟨hl,hF⟩
theorem zDW.keep {α:Type} {es:List TypeId} {F:World→List Value→α→Prop} {sz:Nat} {w w':World} {cs:List Value} {xs:List α} (h:zDW es F sz w cs xs) (hk:zEK es w w') : zDW es F sz w' cs xs:=by
 obtain ⟨ps,h1,h2,h3⟩:=h
 exact ⟨ps,h1,h2,fun k a b=>⟨(h3 k a b).1,(h3 k a b).2.keep hk⟩⟩
theorem flatten_get {ps:List (List Value)} {sz:Nat} (h:∀ (k:Nat) (h:k < ps.length),ps[k].length=sz) (k:Nat) (hk:k < ps.length) (j:Nat) (hj:j < sz) : ps.flatten[k*sz+j]? = ps[k][j]?:=by
 induction ps generalizing k with
 | nil=>simp at hk
 | cons p ps ih =>
   have hp:=h 0 (by simp)
   simp only [List.getElem_cons_zero] at hp
   cases k with
   | zero =>
     rw [List.flatten_cons,Nat.zero_mul,Nat.zero_add,List.getElem?_append_left (by omega)]
     rfl
   | succ k =>
     rw [List.flatten_cons,List.getElem?_append_right (by rw [hp,Nat.succ_mul];omega)]
     rw [show (k+1)*sz+j - p.length=k*sz+j by rw [hp,Nat.succ_mul];omega]
     rw [ih (fun i hi=>by have:=h (i+1) (by simpa using hi);simpa using this) k (by simpa using hk)]
     rfl
theorem zDW.sl {α:Type} {es:List TypeId} {F:World→List Value→α→Prop} {E:World→Nat→Nat→α→Prop} {sz:Nat} {w:World} {cs:List Value} {xs:List α} {base:Nat} {e:TypeId} {v:Value} (h:zDW es F sz w cs xs) (hown:w.ownsRow base e sz v xs.length cs)
  (hE:∀ w b o vs x,vs.length=sz→(∀ j u,vs[j]? = some u→zJ w b (o+j) u)→F w vs x→E w b o x) : OnT (e :: es) (fun w=>Sl E sz w v xs) w:=by
 intro w' hk
 obtain ⟨ps,rfl,hpl,hps⟩:=h
 rcases hown.2 with ⟨rfl,hn0⟩ | ⟨g,cap,cur,rfl,hg,hcur,hcap,hcm,hrest⟩
 ·exact ⟨none,0,by rw [hn0],by omega,fun k hk=>by omega⟩
 ·have hown':w'.ownsRow base e sz (.slice (some ⟨g,0,none⟩) xs.length cap) xs.length ps.flatten:=⟨hown.1,.inr ⟨g,cap,cur,rfl,hg,hk g cur e _ (by simp) hcur,hcap,hcm,hrest⟩⟩
  refine ⟨some ⟨g,0,none⟩,cap,rfl,by unfold maxLen at hcm;omega,fun k hk1=>⟨g,0,rfl,?_⟩⟩
  have hk2:k < ps.length:=by omega
  obtain ⟨hl,hF⟩:=hps k hk1 hk2
  refine hE w' g (0+k*sz) ps[k] _ hl (fun j u hju=>?_) (hF w' (hk.sub (fun e he=>by simp [he])))
  have hj:j < sz:=by
   rw [← hl]
   exact (List.getElem?_eq_some_iff.1 hju).1
  have:=hown'.cells (g:=g) rfl (k*sz+j) u (by rw [flatten_get (fun i hi=>(hps i (by omega) hi).1) k hk2 j hj];exact hju)
  rw [zBP] at this
  rw [Nat.zero_add]
  exact this
theorem zDW.at1 {α:Type} {es:List TypeId} {F:World→List Value→α→Prop} {w:World} {cs:List Value} {xs:List α} (h:zDW es F 1 w cs xs) : cs.length=xs.length∧∀ k (hk:k < xs.length),∃ v,cs[k]? = some v∧OnT es (fun w=>F w [v] xs[k]) w:=by
 obtain ⟨ps,rfl,hpl,hps⟩:=h
 have hlen:∀ (ps:List (List Value)),(∀ k (h:k < ps.length),ps[k].length=1)→ps.flatten.length=ps.length:=by
  intro ps
  induction ps with
  | nil=>intro _;rfl
  | cons p ps ih =>
    intro h
    have h0:=h 0 (by simp)
    simp only [List.getElem_cons_zero] at h0
    rw [List.flatten_cons,List.length_append,h0,ih (fun k hk=>by have:=h (k+1) (by simpa using hk);simpa using this),List.length_cons]
    omega
 refine ⟨by rw [hlen ps (fun k hk=>(hps k (by omega) hk).1),hpl],fun k hk=>?_⟩
 have hk2:k < ps.length:=by omega
 obtain ⟨hl,hF⟩:=hps k hk hk2
 obtain ⟨v,hv⟩:=List.length_eq_one_iff.1 hl
 have:=flatten_get (fun i hi=>(hps i (by omega) hi).1) k hk2 0 (by omega)
 rw [hv] at this
 refine ⟨v,by simpa using this,?_⟩
 rw [hv] at hF
 exact hF
theorem rowIs_of1 {α:Type} {es:List TypeId} {F:World→List Value→α→Prop} {w:World} {cs:List Value} {xs:List α} (hl:cs.length=xs.length) (h:∀ k (hk:k < xs.length),∃ v,cs[k]? = some v∧OnT es (fun w=>F w [v] xs[k]) w) : zDW es F 1 w cs xs:=by
 refine ⟨cs.map (fun v=>[v]),?_,by simp [hl],fun k hk hk2=>?_⟩
 ·clear h hl
  induction cs with
  | nil=>rfl
  | cons c cs ih=>simp [List.flatten_cons,← ih]
 ·obtain ⟨v,h1,h2⟩:=h k hk
  have:(cs.map (fun v=>[v]))[k]=[v]:=by
   rw [List.getElem_map]
   have:=(List.getElem?_eq_some_iff.1 h1).2
   rw [this]
  rw [this]
  exact ⟨rfl,h2⟩
def IsInt (_:World) (vs:List Value) (x:Int) : Prop:=vs=[.int .i64 x]∧I64 x
theorem isInt_at (w:World) (b o:Nat) (vs:List Value) (x:Int) (_:vs.length=1) (hc:∀ j u,vs[j]? = some u→zJ w b (o+j) u) (h:IsInt w vs x) : zAJ w b o x:=by
 obtain ⟨rfl,hr⟩:=h
 exact ⟨hc 0 _ rfl,hr⟩
def IsItem (_:World) (vs:List Value) (x:Item) : Prop:=vs=[.int .i64 x.d,.int .i64 x.c]∧I64 x.d∧I64 x.c
theorem isItem_at (w:World) (b o:Nat) (vs:List Value) (x:Item) (_:vs.length=2) (hc:∀ j u,vs[j]? = some u→zJ w b (o+j) u) (h:IsItem w vs x) : zCP w b o x:=by
 obtain ⟨rfl,hr⟩:=h
 exact ⟨⟨hc 0 _ rfl,hc 1 _ rfl⟩,hr⟩
def IsHas (_:World) (vs:List Value) (x:Has) : Prop:=vs=[.int .i64 x.c,.int .i64 x.l,.int .i64 x.h]∧I64 x.c∧I64 x.l∧I64 x.h
theorem isHas_at (w:World) (b o:Nat) (vs:List Value) (x:Has) (_:vs.length=3) (hc:∀ j u,vs[j]? = some u→zJ w b (o+j) u) (h:IsHas w vs x) : AtHas w b o x:=by
 obtain ⟨rfl,hr⟩:=h
 exact ⟨⟨hc 0 _ rfl,hc 1 _ rfl,hc 2 _ rfl⟩,hr⟩
def IsHold (_:World) (vs:List Value) (x:Hold) : Prop:=vs=[.int .i64 x.d,.int .i64 x.l,.int .i64 x.lo,.int .i64 x.hi]∧I64 x.d∧I64 x.l∧I64 x.lo∧I64 x.hi
theorem isHold_at (w:World) (b o:Nat) (vs:List Value) (x:Hold) (_:vs.length=4) (hc:∀ j u,vs[j]? = some u→zJ w b (o+j) u) (h:IsHold w vs x) : zOP w b o x:=by
 obtain ⟨rfl,hr⟩:=h
 exact ⟨⟨hc 0 _ rfl,hc 1 _ rfl,hc 2 _ rfl,hc 3 _ rfl⟩,hr⟩
def zFT (w:World) (vs:List Value) (x:List Int) : Prop:=∃ v,vs=[v]∧Sl zAJ 1 w v x
theorem zME (w:World) (b o:Nat) (vs:List Value) (x:List Int) (_:vs.length=1) (hc:∀ j u,vs[j]? = some u→zJ w b (o+j) u) (h:zFT w vs x) : zKW w b o x:=by
 obtain ⟨v,rfl,hs⟩:=h
 exact ⟨v,hc 0 _ rfl,hs⟩
def OneOf {α:Type} (F:World→List Value→α→Prop) (x:α) (v:Value) (w:World) : Prop:=∃ b vs,v = .slice (some ⟨b,0,none⟩) 1 1∧F w vs x∧∀ j u,vs[j]? = some u→zJ w b j u
def Cells (b:Nat) (vs:List Value) (w:World) : Prop:=∀ j u,vs[j]? = some u→zJ w b j u
theorem Cells.ext {b:Nat} {vs:List Value} {w w':World} (hb:Below w.heap.size w w') (h:Cells b vs w) : Cells b vs w':=fun j u hj=>zC hb (h j u hj)
def OneV (vs:List Value) (v:Value) (w:World) : Prop:=∃ b,v = .slice (some ⟨b,0,none⟩) 1 1∧Cells b vs w
theorem zNT (vs:List Value) : zCX (OneV vs):=fun _ _ _ hb ⟨b,h,hc⟩=>⟨b,h,hc.ext hb⟩
theorem oneV_new (vs:List Value) (w:World) (t:TypeId) : OneV vs (.slice (some ⟨w.heap.size,0,none⟩) 1 1) (w.alloc (.cells vs.toArray t)) :=
 ⟨_,rfl,fun j u hj=>zU _ _ _ j _ (by simpa using hj)⟩
end
section
open Go.RowKit
section
variable {P:Program} {Q:Exit→Act→World→Prop} {ops:List Oper} {m:Nat}
def growDB (ops:List Oper) (m c:Nat) : Bool :=
 zHZ ops (m+1) && decide (c < m) && decide (m < ops.length) && (List.range m).all (fun j=>j == c || (zIS ops 12 ((ops[m]?).elim [] Oper.waitsOn)).contains j) &&
 ((ops[m]?).any fun o=>o.dst.isNone && o.guard.isNone) && ((ops[c]?).any fun o=>o.guard.isNone)
theorem zHK {l:List Oper} {k:Nat} : zDX (l.take (k+1))=true→zDX (l.take k)=true:=by
 induction l generalizing k with
 | nil=>intro h;simp [zDX]
 | cons o l ih =>
   cases k with
   | zero=>intro h;simp [zDX]
   | succ k =>
     intro h
     simp only [List.take_succ_cons,zDX,Bool.and_eq_true] at h ⊢
     refine ⟨?_,ih h.2⟩
     have h1:=h.1
     clear h ih
     induction l generalizing k with
     | nil=>simpa using h1
     | cons o' l ih =>
       cases k with
       | zero=>simp [zHX]
       | succ k =>
         simp only [List.take_succ_cons,zHX,Bool.and_eq_true] at h1 ⊢
         exact ⟨h1.1,ih _ h1.2⟩
theorem zGU {o:Oper} {ops:Array Oper} {a:Act} (h:o.guard=none) : Region.wanted o (yielded ops a.tmps)=true:=by
 unfold Region.wanted
 rw [h]
theorem growD_any {c:Nat} {oc om:Oper} (hD:growDB ops m c=true) (hoc:ops[c]? = some oc) (hom:ops[m]? = some om) {a0:Act} {w0:World} (H:Nat→Value→World→Prop) (hs:∀ i,zCX (H i)) (Hc:Value→Prop) (hcH:∀ v w,H c v w→Hc v)
  (step:∀ i o,i < m→ops[i]? = some o→∀ vs w,Below w0.heap.size w0 w→(∀ j∈o.waitsOn,H j (vs j) w)→zAN P ops.toArray o (zY vs (ops.take m) 0 a0) w (H i))
  (pure:∀ vs w w1,(∀ j∈oc.waitsOn,H j (vs j) w1)→∃ v,(execOp (zY vs (ops.take m) 0 a0).eval oc).run P w = .ok (.value v) w∧Hc v)
  (store:∀ vs w,Below w0.heap.size w0 w→(∀ i,i < m→i≠c→H i (vs i) w)→∃ w',(execOp (zY vs (ops.take m) 0 a0).eval om).run P w = .ok .skip w' ∧
   ∀ v,Hc v→wpList P ops.toArray Q (ops.drop (m+1)) ((zY vs (ops.take m) 0 a0).put oc.dst v) w') :
  ∀ (fuel:Nat) (L:Array Bool) (a:Act) (w:World),L.size=ops.length→zDQ ops L→(∀ j,m≤j→L.getD j false=false)→unTo L ops.length≤fuel →
   (∃ vs,a=zY vs (ops.take m) 0 a0∧Below w0.heap.size w0 w∧∀ i,i < m→L.getD i false=true→H i (vs i) w)→wpAny P .any ops.toArray Q fuel L a w:=by
 simp only [growDB,Bool.and_eq_true,decide_eq_true_eq] at hD
 obtain ⟨⟨⟨⟨⟨hB,hcm⟩,hml⟩,hR⟩,hgm⟩,hgc⟩:=hD
 rw [hom] at hgm hR
 rw [hoc] at hgc
 simp only [Option.any_some,Bool.and_eq_true,Option.isNone_iff_eq_none] at hgm hgc
 have hap:=zHK (zGJ hB)
 have hreach:∀ j,j < m→j≠c→j∈zIS ops 12 om.waitsOn:=fun j hj hjc=>by
  have:=List.all_eq_true.1 hR j (List.mem_range.2 hj)
  simp only [Bool.or_eq_true,beq_iff_eq,Option.elim] at this
  rcases this with h | h
  ·exact absurd h hjc
  ·simpa using h
 intro fuel
 induction fuel with
 | zero =>
   intro L a w hL hd ht hu _
   have hall:=zGP L ops.length (by omega)
   have h1:=zCI (by omega) (hall m hml)
   rw [ht m (Nat.le_refl _)] at h1
   cases h1
 | succ fuel ih =>
   intro L a w hL hd ht hu ⟨vs,ha,hb,hf⟩
   refine ⟨fun h0=>?_,fun k hk=>?_⟩
   ·have h1:=zCI (by omega) (zEU hB hL h0 m hml)
    rw [ht m (Nat.le_refl _)] at h1
    cases h1
   obtain ⟨h0,o,hok,hw⟩:=zCO.1 hk
   have hkl:=(List.getElem?_eq_some_iff.1 hok).1
   by_cases hkm:k < m
   ·
    have hdeps:∀ j∈o.waitsOn,H j (vs j) w:=fun j hj=>hf j (by have:=zDZ hB hok j hj;omega) (hw j hj)
    have hst:=step k o hkm hok vs w hb hdeps
    have hnext:∀ v w',Below w.heap.size w w'→H k v w'→wpAny P .any ops.toArray Q fuel (L.setIfInBounds k true) (a.put o.dst v) w':=fun v w' hbw hv=>by
     refine ih _ _ w' (by simpa using hL) (zCB hd hok hw) (fun j hj=>?_) ?_ ⟨fun j=>if j=k then v else vs j,?_,hb.trans (hbw.mono hb.size),fun i hi hli=>?_⟩
     ·rw [getD_set_ne false (by omega)];exact ht j hj
     ·have:=zIR L k h0 ops.length hkl
      omega
     ·rw [ha]
      have:=zJY vs v (ops.take m) 0 k a0 o hap (by rw [List.getElem?_take_of_lt hkm];exact hok)
      rw [this]
      exact zDO _ _ _ _ _ fun j _=>by rw [Nat.zero_add]
     ·simp only
      by_cases e:i=k
      ·subst e;rw [if_pos rfl];exact hv
      ·rw [if_neg e]
       rw [getD_set_ne false (Ne.symm e)] at hli
       exact hs i _ _ _ hbw (hf i hi hli)
    unfold wpOp
    simp only [List.getElem?_toArray,hok]
    unfold zAN at hst
    rw [← ha] at hst
    split
    ·rename_i hwn
     rw [if_pos hwn] at hst
     exact .inl (Oper.wp_of_grows hst hnext)
    ·rename_i hwn
     rw [if_neg hwn] at hst
     exact hnext _ _ (br_) hst
   ·by_cases hkm2:k=m
    ·
     subst hkm2
     rw [hom] at hok
     cases hok
     have hin:∀ i,i < k→i≠c→L.getD i false=true:=fun i hi hic=>zBV hd 12 _ hw i (hreach i hi hic)
     obtain ⟨w',hrun,hprom⟩:=store vs w hb (fun i hi hic=>hf i hi (hin i hi hic))
     unfold wpOp
     simp only [List.getElem?_toArray,hom]
     rw [if_pos (zGU hgm.2)]
     left
     unfold Oper.wp
     rw [ha,hrun]
     simp only [Oper.upon]
     have hput:(zY vs (ops.take k) 0 a0).put om.dst undef=zY vs (ops.take k) 0 a0:=by rw [hgm.1];rfl
     rw [hput]
     have hL2:(L.setIfInBounds k true).size=ops.length:=by simpa using hL
     have hu2:unTo (L.setIfInBounds k true) ops.length≤fuel:=by have:=zIR L k h0 ops.length hkl;omega
     have hset:∀ i,i < ops.length→(L.setIfInBounds k true).getD i true=if i=k then true else L.getD i true:=fun i hi=>by
      by_cases e:k=i
      ·subst e
       rw [if_pos rfl]
       exact zEL (by simp [hL,hkl])
      ·rw [getD_set_ne true e,if_neg (fun h=>e h.symm)]
     by_cases hlc:L.getD c false=true
     ·have hv:=hcH _ _ (hf c hcm hlc)
      have hw2:=hprom (vs c) hv
      have he:(zY vs (ops.take k) 0 a0).put oc.dst (vs c)=zY vs (ops.take k) 0 a0:=by
       rw [zJY vs (vs c) (ops.take k) 0 c a0 oc hap (by rw [List.getElem?_take_of_lt hcm];exact hoc)]
       exact zDO _ _ _ _ _ fun j _=>by
        rw [Nat.zero_add]
        by_cases e:j=c
        ·subst e;rw [if_pos rfl]
        ·rw [if_neg e]
      rw [he] at hw2
      refine zGW hB fuel _ (k+1) _ w' hL2 (Nat.le_refl _) (fun i hi=>?_) hu2 hw2
      rw [hset i hi]
      by_cases e:i=k
      ·subst e;rw [if_pos rfl];simp
      ·rw [if_neg e]
       by_cases e2:i < k
       ·by_cases e3:i=c
        ·subst e3;rw [zEL hlc];simp;omega
        ·rw [zEL (hin i e2 e3)];simp;omega
       ·have h1:=ht i (by omega)
        have h2:L.getD i true=false:=by
         by_cases h3:L.getD i true=true
         ·rw [zCI (by omega) h3] at h1;cases h1
         ·simpa using h3
        rw [h2]
        simp
        omega
     ·
      cases fuel with
      | zero =>
        have hall:=zGP (L.setIfInBounds k true) ops.length (by omega)
        have h1:=hall c (by omega)
        rw [hset c (by omega),if_neg (by omega)] at h1
        exact absurd (zCI (by omega) h1) hlc
      | succ fuel =>
        have hdc2:=zCB hd hom hw
        have hlc2:¬ (L.setIfInBounds k true).getD c false=true:=by rw [getD_set_ne false (by omega)];exact hlc
        refine ⟨fun h9=>?_,fun k2 hk2=>?_⟩
        ·exact absurd (zCI (by omega) (zEU hB hL2 h9 c (by omega))) hlc2
        obtain ⟨h02,o2,hok2,hw2⟩:=zCO.1 hk2
        have hkl2:=(List.getElem?_eq_some_iff.1 hok2).1
        have hk2c:k2=c:=by
         by_cases e:k2=c
         ·exact e
         ·exfalso
          rw [hset k2 hkl2] at h02
          by_cases e2:k2=k
          ·rw [if_pos e2] at h02;cases h02
          ·rw [if_neg e2] at h02
           by_cases e3:k2 < k
           ·rw [zEL (hin k2 e3 e)] at h02;cases h02
           ·have:=zBV hdc2 12 _ (by rw [hok2];exact hw2) c (zEX hB hkl2 (by omega) c (by omega))
            exact hlc2 this
        subst hk2c
        rw [hoc] at hok2
        cases hok2
        obtain ⟨v,hrunc,hv⟩:=pure vs w' w (fun j hj=>by
         have hjc:=zDZ hB hoc j hj
         exact hf j (by omega) (hin j (by omega) (by omega)))
        unfold wpOp
        simp only [List.getElem?_toArray,hoc]
        rw [if_pos (zGU hgc)]
        left
        unfold Oper.wp
        rw [hrunc]
        simp only [Oper.upon]
        refine zGW hB fuel _ (k+1) _ w' (by simpa using hL) (Nat.le_refl _) (fun i hi=>?_) ?_ (hprom v hv)
        ·by_cases e:k2=i
         ·subst e
          have:((L.setIfInBounds k true).setIfInBounds k2 true).getD k2 true=true:=zEL (by simp [hL,hkl2])
          rw [this]
          simp
          omega
         ·rw [getD_set_ne true e,hset i hi]
          by_cases e2:i=k
          ·subst e2;rw [if_pos rfl];simp
          ·rw [if_neg e2]
           by_cases e3:i < k
           ·rw [zEL (hin i e3 (fun h=>e h.symm))];simp;omega
           ·have h1:=ht i (by omega)
            have h2:L.getD i true=false:=by
             by_cases h3:L.getD i true=true
             ·rw [zCI (by omega) h3] at h1;cases h1
             ·simpa using h3
            rw [h2]
            simp
            omega
        ·have:=zIR (L.setIfInBounds k true) k2 h02 ops.length hkl2
         omega
    ·exfalso
     have:=zBV hd 12 _ (by rw [hok];exact hw) m (zEX hB hkl (by omega) m (by omega))
     rw [ht m (Nat.le_refl _)] at this
     cases this
theorem zGC {id:Nat} {a0:Act} {w0:World} (m c:Nat) {oc om:Oper} (hm:P.follows .mixedOrders=true) (hD:growDB ops m c=true) (hoc:ops[c]? = some oc) (hom:ops[m]? = some om) (Hc:Value→Prop)
  (h:zFB P ops.toArray (ops.take m) a0 w0 (fun Hs=>(∀ v w,zAD Hs c v w→Hc v) ∧
   (∀ vs w w1,(∀ j∈oc.waitsOn,zAD Hs j (vs j) w1)→∃ v,(execOp (zY vs (ops.take m) 0 a0).eval oc).run P w = .ok (.value v) w∧Hc v) ∧
   (∀ vs w,Below w0.heap.size w0 w→(∀ i,i < m→i≠c→zAD Hs i (vs i) w)→∃ w',(execOp (zY vs (ops.take m) 0 a0).eval om).run P w = .ok .skip w' ∧
    ∀ v,Hc v→wpList P ops.toArray Q (ops.drop (m+1)) ((zY vs (ops.take m) 0 a0).put oc.dst v) w')) (ops.take m) []) :
  (Code.region id ops.toArray true).wp P Q a0 w0:=by
 have hB:zHZ ops (m+1)=true:=by
  simp only [growDB,Bool.and_eq_true] at hD
  exact hD.1.1.1.1.1
 have hml:m < ops.length:=by
  simp only [growDB,Bool.and_eq_true,decide_eq_true_eq] at hD
  exact hD.1.1.1.2
 obtain ⟨Hs,⟨hQ1,hQ2,hQ3⟩,hst,_,hstep⟩:=zLP (fun i o ho=>zDZ hB ho) (ops.take m) [] (fun R hR=>by simp at hR) (fun i=>by simp) (by simp;omega) h
 simp only [List.nil_append] at hQ1 hQ2 hQ3 hst hstep
 refine wp_region_any hm ?_
 obtain ⟨vs,hvs⟩:=zMA (ops.take m) 0 a0
 refine growD_any hD hoc hom (zAD Hs) (fun i=>?_) Hc hQ1 (fun i o hi ho=>hstep i o (Nat.zero_le _) hi ho) hQ2 hQ3 _ _ _ _ (by simp) ?_ (fun j _=>?_) ?_ ⟨vs,hvs.symm,⟨rfl,rfl,rfl,Nat.le_refl _,fun _ _=>rfl⟩,fun i hi hli=>?_⟩
 ·unfold zAD
  cases hh:Hs[i]? with
  | none=>exact fun _ _ _ _ h=>h
  | some R=>exact hst R (List.mem_of_getElem? hh)
 ·intro i o hi
  rw [zEA] at hi
  cases hi
 ·exact zEA _ _
 ·simpa using zKE ops.length ops.length
 ·rw [zEA] at hli
  cases hli
end
end
section
open Go.RowKit
section
variable {P:Program} {Q:Exit→Act→World→Prop} {ops:List Oper} {m:Nat}
def growSB (ops:List Oper) (m:Nat) (B:List Nat) : Bool :=
 zHZ ops (m+1) && decide (m < ops.length) && (List.range m).all (fun j=>B.contains j || (zIS ops 12 ((ops[m]?).elim [] Oper.waitsOn)).contains j) &&
 ((ops[m]?).any fun o=>o.dst.isNone && o.guard.isNone) && B.all (fun c=>decide (c < m) && ((ops[c]?).any fun o=>o.guard.isNone && o.waitsOn.all fun j=>B.contains j))
theorem growS_two {B:List Nat} (hB:zHZ ops (m+1)=true) (hml:m < ops.length) (hBm:∀ c∈B,c < m) (hBg:∀ c o,c∈B→ops[c]? = some o→o.guard=none∧∀ j∈o.waitsOn,j∈B) {a0:Act}
  (K:(Nat→Value)→World→Prop) (hK:∀ vs vs' w,(∀ i,i < m→i ∉ B→vs i=vs' i)→K vs w→K vs' w) (G:Nat→Value→Prop)
  (pure:∀ i o,i∈B→ops[i]? = some o→∀ vs w,K vs w→(∀ j∈o.waitsOn,G j (vs j))→∃ v,(execOp (zY vs (ops.take m) 0 a0).eval o).run P w = .ok (.value v) w∧G i v)
  (done:∀ vs w,K vs w→(∀ i∈B,G i (vs i))→wpList P ops.toArray Q (ops.drop (m+1)) (zY vs (ops.take m) 0 a0) w) :
  ∀ (fuel:Nat) (L:Array Bool) (a:Act) (w:World),L.size=ops.length→zDQ ops L→(∀ i,i≤m→i ∉ B→L.getD i false=true)→(∀ j,m < j→L.getD j false=false)→unTo L ops.length≤fuel →
   (∃ vs,a=zY vs (ops.take m) 0 a0∧K vs w∧∀ i∈B,L.getD i false=true→G i (vs i))→wpAny P .any ops.toArray Q fuel L a w:=by
 have hap:=zHK (zGJ hB)
 intro fuel
 induction fuel with
 | zero =>
   intro L a w hL hd hin ht hu ⟨vs,ha,hk,hf⟩
   have hall:=zGP L ops.length (by omega)
   refine zGW hB 0 L (m+1) a w hL (Nat.le_refl _) (fun i hi=>?_) hu ?_
   ·rw [hall i hi]
    by_cases e:i < m+1
    ·simp [e]
    ·have h1:=zCI (by omega) (hall i hi)
     rw [ht i (by omega)] at h1
     cases h1
   ·rw [ha]
    exact done vs w hk fun i hi=>hf i hi (zCI (by have:=hBm i hi;omega) (hall i (by have:=hBm i hi;omega)))
 | succ fuel ih =>
   intro L a w hL hd hin ht hu ⟨vs,ha,hk,hf⟩
   by_cases hall:∀ i∈B,L.getD i false=true
   ·refine zGW hB (fuel+1) L (m+1) a w hL (Nat.le_refl _) (fun i hi=>?_) hu ?_
    ·by_cases e:i < m+1
     ·have:L.getD i false=true:=by
       by_cases hb:i∈B
       ·exact hall i hb
       ·exact hin i (by omega) hb
      rw [zEL this];simp [e]
     ·have h1:=ht i (by omega)
      have h2:L.getD i true=false:=by
       by_cases h3:L.getD i true=true
       ·rw [zCI (by omega) h3] at h1;cases h1
       ·simpa using h3
      rw [h2]
      simp
      omega
    ·rw [ha]
     exact done vs w hk fun i hi=>hf i hi (hall i hi)
   ·obtain ⟨c,hc,hlc⟩ : ∃ c,c∈B∧¬ L.getD c false=true:=by
     apply Classical.byContradiction
     intro hn
     exact hall fun i hi=>Classical.byContradiction fun h=>hn ⟨i,hi,h⟩
    have hcm:=hBm c hc
    refine ⟨fun h9=>absurd (zCI (by omega) (zEU hB hL h9 c (by omega))) hlc,fun k hk2=>?_⟩
    obtain ⟨h0,o,hok,hw⟩:=zCO.1 hk2
    have hkl:=(List.getElem?_eq_some_iff.1 hok).1
    have hkB:k∈B:=by
     by_cases e:k∈B
     ·exact e
     ·exfalso
      by_cases e2:k≤m
      ·rw [zEL (hin k e2 e)] at h0;cases h0
      ·exact hlc (zBV hd 12 _ (by rw [hok];exact hw) c (zEX hB hkl (by omega) c (by omega)))
    have hkm:=hBm k hkB
    obtain ⟨hg,hdeps⟩:=hBg k o hkB hok
    obtain ⟨v,hrun,hv⟩:=pure k o hkB hok vs w hk (fun j hj=>hf j (hdeps j hj) (hw j hj))
    unfold wpOp
    simp only [List.getElem?_toArray,hok]
    rw [if_pos (zGU hg)]
    left
    unfold Oper.wp
    rw [ha,hrun]
    simp only [Oper.upon]
    refine ih _ _ w (by simpa using hL) (zCB hd hok hw) (fun i hi hib=>?_) (fun j hj=>?_) ?_ ⟨fun j=>if j=k then v else vs j,?_,hK vs _ w (fun i _ hib=>?_) hk,fun i hi hli=>?_⟩
    ·have hne:k≠i:=fun e=>hib (by rw [← e];exact hkB)
     rw [getD_set_ne false hne];exact hin i hi hib
    ·rw [getD_set_ne false (by omega)];exact ht j hj
    ·have:=zIR L k h0 ops.length hkl
     omega
    ·rw [zJY vs v (ops.take m) 0 k a0 o hap (by rw [List.getElem?_take_of_lt hkm];exact hok)]
     exact zDO _ _ _ _ _ fun j _=>by rw [Nat.zero_add]
    ·have hne:i≠k:=fun e=>hib (by rw [e];exact hkB)
     rw [if_neg hne]
    ·simp only
     by_cases e:i=k
     ·subst e;rw [if_pos rfl];exact hv
     ·rw [if_neg e]
      rw [getD_set_ne false (Ne.symm e)] at hli
      exact hf i hi hli
theorem growS_any {B:List Nat} {om:Oper} (hD:growSB ops m B=true) (hom:ops[m]? = some om) {a0:Act} {w0:World} (H:Nat→Value→World→Prop) (hs:∀ i,zCX (H i))
  (K:(Nat→Value)→World→Prop) (hK:∀ vs vs' w,(∀ i,i < m→i ∉ B→vs i=vs' i)→K vs w→K vs' w) (G:Nat→Value→Prop) (hG:∀ i∈B,∀ v w,H i v w→G i v)
  (step:∀ i o,i < m→ops[i]? = some o→∀ vs w,Below w0.heap.size w0 w→(∀ j∈o.waitsOn,H j (vs j) w)→zAN P ops.toArray o (zY vs (ops.take m) 0 a0) w (H i))
  (pure:∀ i o,i∈B→ops[i]? = some o→∀ vs w,K vs w→(∀ j∈o.waitsOn,G j (vs j))→∃ v,(execOp (zY vs (ops.take m) 0 a0).eval o).run P w = .ok (.value v) w∧G i v)
  (store:∀ vs w,Below w0.heap.size w0 w→(∀ i,i < m→i ∉ B→H i (vs i) w)→∃ w',(execOp (zY vs (ops.take m) 0 a0).eval om).run P w = .ok .skip w'∧K vs w')
  (done:∀ vs w,K vs w→(∀ i∈B,G i (vs i))→wpList P ops.toArray Q (ops.drop (m+1)) (zY vs (ops.take m) 0 a0) w) :
  ∀ (fuel:Nat) (L:Array Bool) (a:Act) (w:World),L.size=ops.length→zDQ ops L→(∀ j,m≤j→L.getD j false=false)→unTo L ops.length≤fuel →
   (∃ vs,a=zY vs (ops.take m) 0 a0∧Below w0.heap.size w0 w∧∀ i,i < m→L.getD i false=true→H i (vs i) w)→wpAny P .any ops.toArray Q fuel L a w:=by
 simp only [growSB,Bool.and_eq_true,decide_eq_true_eq] at hD
 obtain ⟨⟨⟨⟨hB,hml⟩,hR⟩,hgm⟩,hBB⟩:=hD
 rw [hom] at hgm hR
 simp only [Option.any_some,Bool.and_eq_true,Option.isNone_iff_eq_none] at hgm
 have hBm:∀ c∈B,c < m:=fun c hc=>by
  have:=List.all_eq_true.1 hBB c hc
  simp only [Bool.and_eq_true,decide_eq_true_eq] at this
  exact this.1
 have hBg:∀ c o,c∈B→ops[c]? = some o→o.guard=none∧∀ j∈o.waitsOn,j∈B:=fun c o hc ho=>by
  have:=List.all_eq_true.1 hBB c hc
  simp only [Bool.and_eq_true,decide_eq_true_eq,ho,Option.any_some,Option.isNone_iff_eq_none] at this
  exact ⟨this.2.1,fun j hj=>by simpa using List.all_eq_true.1 this.2.2 j hj⟩
 have hap:=zHK (zGJ hB)
 have hreach:∀ j,j < m→j ∉ B→j∈zIS ops 12 om.waitsOn:=fun j hj hjc=>by
  have:=List.all_eq_true.1 hR j (List.mem_range.2 hj)
  simp only [Bool.or_eq_true,Option.elim] at this
  rcases this with h | h
  ·exact absurd (by simpa using h) hjc
  ·simpa using h
 intro fuel
 induction fuel with
 | zero =>
   intro L a w hL hd ht hu _
   have hall:=zGP L ops.length (by omega)
   have h1:=zCI (by omega) (hall m hml)
   rw [ht m (Nat.le_refl _)] at h1
   cases h1
 | succ fuel ih =>
   intro L a w hL hd ht hu ⟨vs,ha,hb,hf⟩
   refine ⟨fun h0=>?_,fun k hk=>?_⟩
   ·have h1:=zCI (by omega) (zEU hB hL h0 m hml)
    rw [ht m (Nat.le_refl _)] at h1
    cases h1
   obtain ⟨h0,o,hok,hw⟩:=zCO.1 hk
   have hkl:=(List.getElem?_eq_some_iff.1 hok).1
   by_cases hkm:k < m
   ·have hdeps:∀ j∈o.waitsOn,H j (vs j) w:=fun j hj=>hf j (by have:=zDZ hB hok j hj;omega) (hw j hj)
    have hst:=step k o hkm hok vs w hb hdeps
    have hnext:∀ v w',Below w.heap.size w w'→H k v w'→wpAny P .any ops.toArray Q fuel (L.setIfInBounds k true) (a.put o.dst v) w':=fun v w' hbw hv=>by
     refine ih _ _ w' (by simpa using hL) (zCB hd hok hw) (fun j hj=>?_) ?_ ⟨fun j=>if j=k then v else vs j,?_,hb.trans (hbw.mono hb.size),fun i hi hli=>?_⟩
     ·rw [getD_set_ne false (by omega)];exact ht j hj
     ·have:=zIR L k h0 ops.length hkl
      omega
     ·rw [ha]
      have:=zJY vs v (ops.take m) 0 k a0 o hap (by rw [List.getElem?_take_of_lt hkm];exact hok)
      rw [this]
      exact zDO _ _ _ _ _ fun j _=>by rw [Nat.zero_add]
     ·simp only
      by_cases e:i=k
      ·subst e;rw [if_pos rfl];exact hv
      ·rw [if_neg e]
       rw [getD_set_ne false (Ne.symm e)] at hli
       exact hs i _ _ _ hbw (hf i hi hli)
    unfold wpOp
    simp only [List.getElem?_toArray,hok]
    unfold zAN at hst
    rw [← ha] at hst
    split
    ·rename_i hwn
     rw [if_pos hwn] at hst
     exact .inl (Oper.wp_of_grows hst hnext)
    ·rename_i hwn
     rw [if_neg hwn] at hst
     exact hnext _ _ (br_) hst
   ·by_cases hkm2:k=m
    ·subst hkm2
     rw [hom] at hok
     cases hok
     have hin:∀ i,i < k→i ∉ B→L.getD i false=true:=fun i hi hic=>zBV hd 12 _ hw i (hreach i hi hic)
     obtain ⟨w',hrun,hprom⟩:=store vs w hb (fun i hi hic=>hf i hi (hin i hi hic))
     unfold wpOp
     simp only [List.getElem?_toArray,hom]
     rw [if_pos (zGU hgm.2)]
     left
     unfold Oper.wp
     rw [ha,hrun]
     simp only [Oper.upon]
     have hput:(zY vs (ops.take k) 0 a0).put om.dst undef=zY vs (ops.take k) 0 a0:=by rw [hgm.1];rfl
     rw [hput]
     refine growS_two hB hml hBm hBg K hK G pure done fuel _ _ w' (by simpa using hL) (zCB hd hom hw) (fun i hi hib=>?_) (fun j hj=>?_) ?_ ⟨vs,rfl,hprom,fun i hi hli=>?_⟩
     ·by_cases e:i=k
      ·subst e;simp [hL,hkl]
      ·rw [getD_set_ne false (Ne.symm e)];exact hin i (by omega) hib
     ·rw [getD_set_ne false (by omega)];exact ht j (by omega)
     ·have:=zIR L k h0 ops.length hkl
      omega
     ·have hik:=hBm i hi
      rw [getD_set_ne false (by omega)] at hli
      exact hG i hi _ _ (hf i hik hli)
    ·exfalso
     have:=zBV hd 12 _ (by rw [hok];exact hw) m (zEX hB hkl (by omega) m (by omega))
     rw [ht m (Nat.le_refl _)] at this
     cases this
theorem wp_region_growS {id:Nat} {a0:Act} {w0:World} (m:Nat) (B:List Nat) {om:Oper} (K:(Nat→Value)→World→Prop) (G:Nat→Value→Prop) (hm:P.follows .mixedOrders=true) (hD:growSB ops m B=true) (hom:ops[m]? = some om)
  (hK:∀ vs vs' w,(∀ i,i < m→i ∉ B→vs i=vs' i)→K vs w→K vs' w)
  (h:zFB P ops.toArray (ops.take m) a0 w0 (fun Hs=>(∀ i∈B,∀ v w,zAD Hs i v w→G i v) ∧
   (∀ i o,i∈B→ops[i]? = some o→∀ vs w,K vs w→(∀ j∈o.waitsOn,G j (vs j))→∃ v,(execOp (zY vs (ops.take m) 0 a0).eval o).run P w = .ok (.value v) w∧G i v) ∧
   (∀ vs w,Below w0.heap.size w0 w→(∀ i,i < m→i ∉ B→zAD Hs i (vs i) w)→∃ w',(execOp (zY vs (ops.take m) 0 a0).eval om).run P w = .ok .skip w'∧K vs w') ∧
   (∀ vs w,K vs w→(∀ i∈B,G i (vs i))→wpList P ops.toArray Q (ops.drop (m+1)) (zY vs (ops.take m) 0 a0) w)) (ops.take m) []) :
  (Code.region id ops.toArray true).wp P Q a0 w0:=by
 have hB:zHZ ops (m+1)=true:=by
  simp only [growSB,Bool.and_eq_true] at hD
  exact hD.1.1.1.1
 have hml:m < ops.length:=by
  simp only [growSB,Bool.and_eq_true,decide_eq_true_eq] at hD
  exact hD.1.1.1.2
 obtain ⟨Hs,⟨hQ1,hQ2,hQ3,hQ4⟩,hst,_,hstep⟩:=zLP (fun i o ho=>zDZ hB ho) (ops.take m) [] (fun R hR=>by simp at hR) (fun i=>by simp) (by simp;omega) h
 simp only [List.nil_append] at hQ1 hQ2 hQ3 hst hstep
 refine wp_region_any hm ?_
 obtain ⟨vs,hvs⟩:=zMA (ops.take m) 0 a0
 refine growS_any hD hom (zAD Hs) (fun i=>?_) K hK G hQ1 (fun i o hi ho=>hstep i o (Nat.zero_le _) hi ho) hQ2 hQ3 hQ4 _ _ _ _ (by simp) ?_ (fun j _=>?_) ?_ ⟨vs,hvs.symm,⟨rfl,rfl,rfl,Nat.le_refl _,fun _ _=>rfl⟩,fun i hi hli=>?_⟩
 ·unfold zAD
  cases hh:Hs[i]? with
  | none=>exact fun _ _ _ _ h=>h
  | some R=>exact hst R (List.mem_of_getElem? hh)
 ·intro i o hi
  rw [zEA] at hi
  cases hi
 ·exact zEA _ _
 ·simpa using zKE ops.length ops.length
 ·rw [zEA] at hli
  cases hli
end
end
end Go.Proofs.YtpolpdegpbahiaaGreatDoor
namespace Go.Proofs.YtpolpdegpbahiaaGreatDoor
open Go.RowKit Go.Shelf
theorem isNaN_sl (w:World) (n:Int) : Calls Tryz.prog 215 #[.int .i64 n] w fun e w'=>e = .returned (.bool false)∧w=w':=by
 go_enter Tryz.func215,Tryz.ntmps215
 go_wp2
 go_ret
 exact ⟨by simp,rfl⟩
theorem zPN (w:World) (a b:Int) : Calls Tryz.prog 202 #[.int .i64 a,.int .i64 b] w fun e w'=>e = .returned (.bool (decide (a < b)))∧w=w':=by
 by_cases h1:a < b
 ·go_enter Tryz.func202,Tryz.ntmps202
  go_wp2_with (go_at_call 191;refine (zJI _ _).mono ?_;rintro e w' ⟨rfl,rfl⟩)
  go_ret
  exact ⟨by simp [h1],rfl⟩
 ·go_enter Tryz.func202,Tryz.ntmps202
  go_wp2_with (go_at_call 191;refine (zJI _ _).mono ?_;rintro e w' ⟨rfl,rfl⟩)
  go_ret
  exact ⟨by simp [h1],rfl⟩
def Mount (xs:List Int) : Prop:=∀ i j,(hij:i≤j)→(h:j < xs.length)→(xs[i]'(by omega))≤xs[j]
theorem search_int (w:World) (v:Value) (xs:List Int) (x:Int) (h:Sl zAJ 1 w v xs) (hs:Mount xs) (hlen:xs.length≤1000) :
  Calls Tryz.prog 184 #[v,.int .i64 x] w fun e w'=>(∃ i:Nat,e = .returned (.tuple #[.int .i64 i,.bool (decide (x∈xs))]))∧w=w':=by
 obtain ⟨a,cap,rfl,_⟩:=zD h
 have S:=Lib.hid hs
 have HX:=Lib.hid (zZ h).2
 clear hs h
 go_enter Tryz.func184,Tryz.ntmps184
 go_wp2
 go_loopw [7,8] (fun s7 s8 wr=>∃ lo hi:Nat,s7 = .int .i64 lo∧s8 = .int .i64 hi∧lo≤hi∧hi≤xs.length∧wr=w∧Hid ((∀ t,t < lo→(ht:t < xs.length)→xs[t] < x)∧(∀ t,hi≤t→(ht:t < xs.length)→x≤xs[t]))) (fun s7 s8 _=>(intOf s8 - intOf s7).toNat)
 case atStart=>exact ⟨0,xs.length,rfl,rfl,Nat.zero_le _,Nat.le_refl _,rfl,Lib.hid ⟨fun t ht=>absurd ht (Nat.not_lt_zero _),fun t h1 h2=>absurd h2 (by omega)⟩⟩
 case round =>
  obtain ⟨lo,hi,rfl,rfl,hlh,hin,rfl,I⟩:=hrel
  by_cases hlt:lo < hi
  ·have hm:(lo+hi) / 2 < xs.length:=by omega
   obtain ⟨b,off,rfl,c0,_⟩:=HX.out ((lo+hi) / 2) hm
   have YL:=Lib.hid (fun (hy:xs[(lo+hi) / 2] < x) t (ht:t < (lo+hi) / 2+1) (htl:t < xs.length)=>show xs[t] < x from by have:=S.out t ((lo+hi) / 2) (by omega) hm;omega)
   have YR:=Lib.hid (fun (hy:¬ xs[(lo+hi) / 2] < x) t (ht:(lo+hi) / 2≤t) (htl:t < xs.length)=>show x≤xs[t] from by have:=S.out ((lo+hi) / 2) t ht htl;omega)
   generalize xs[(lo+hi) / 2]=y at *
   unfold zJ at c0
   simp only [Nat.mul_one] at c0
   by_cases hyx:y < x
   ·go_wp2_with (go_at_call 202;refine (zPN _ _ _).mono ?_;rintro e w' ⟨rfl,rfl⟩)
    go_roundw
    case rel=>exact ⟨(lo+hi) / 2+1,hi,by rw [show ((lo:Int)+(hi:Int)) / 2+1=(((lo+hi) / 2+1:Nat) : Int) by omega],rfl,by omega,hin,trivial,Lib.hid ⟨YL.out hyx,I.out.2⟩⟩
    case measure=>simp [intOf];omega
   ·go_wp2_with (go_at_call 202;refine (zPN _ _ _).mono ?_;rintro e w' ⟨rfl,rfl⟩)
    go_roundw
    case rel=>exact ⟨lo,(lo+hi) / 2,rfl,by rw [show ((lo:Int)+(hi:Int)) / 2=(((lo+hi) / 2:Nat) : Int) by omega],by omega,by omega,trivial,Lib.hid ⟨I.out.1,YR.out hyx⟩⟩
    case measure=>simp [intOf];omega
  ·obtain rfl:hi=lo:=by omega
   by_cases hn:hi < xs.length
   ·obtain ⟨b,off,rfl,c0,_⟩:=HX.out hi hn
    unfold zJ at c0
    simp only [Nat.mul_one] at c0
    have hmem:Hid (x∈xs↔xs[hi]=x):=⟨fun hx=>by
     obtain ⟨j,hj,e⟩:=List.getElem_of_mem hx
     by_cases h1:j < hi
     ·have:=I.out.1 j h1 hj;omega
     ·have h2:=I.out.2 hi (Nat.le_refl _) hn
      have h3:=S.out hi j (by omega) hj
      omega,fun e=>e ▸ List.getElem_mem hn⟩
    generalize xs[hi]=y at *
    by_cases hyx:y=x
    ·go_wp2_with (go_at_call 215;refine (isNaN_sl _ _).mono ?_;rintro e w' ⟨rfl,rfl⟩)
     go_ret2
     exact ⟨⟨hi,by rw [decide_eq_true (hmem.out.2 hyx)];try simp [hyx,hn]⟩,rfl⟩
    ·go_wp2_with (go_at_call 215;refine (isNaN_sl _ _).mono ?_;rintro e w' ⟨rfl,rfl⟩)
     go_ret2
     exact ⟨⟨hi,by rw [decide_eq_false (fun h=>hyx (hmem.out.1 h))];try simp [hyx,hn]⟩,rfl⟩
   ·have hmem:Hid (x ∉ xs):=fun hx=>by
     obtain ⟨j,hj,e⟩:=List.getElem_of_mem hx
     have:=I.out.1 j (by omega) hj
     omega
    go_wp2
    go_ret2
    exact ⟨⟨hi,by rw [decide_eq_false hmem.out];try simp [hn]⟩,rfl⟩
end Go.Proofs.YtpolpdegpbahiaaGreatDoor
namespace Go.Proofs.YtpolpdegpbahiaaGreatDoor
open Tryz
theorem cmpI_neg {a b:Int} (h:a < b) : zLO a b = -1:=by unfold zLO;rw [if_pos h]
theorem cmpI_not {a b:Int} (h:¬ a < b) : 0≤zLO a b:=by unfold zLO;rw [if_neg h];split <;> omega
end Go.Proofs.YtpolpdegpbahiaaGreatDoor
