/- The program's way to the longest chains finds what the reference's rounds find. -/
import Derived.Test.YtpolpdegpbahiaaGreatDoorM55
set_option linter.all false
set_option maxRecDepth 100000
set_option maxHeartbeats 12800000

namespace Go.Proofs.YtpolpdegpbahiaaGreatDoor
open Tryz
def zKL (f:Int→Int) (a:Int) (l:List Int) : Int:=l.foldl (fun m y=>max m (f y)) a
theorem mostI_ge (f:Int→Int) (l:List Int) (a:Int) : a≤zKL f a l:=by
 unfold zKL
 induction l generalizing a with
 | nil=>exact Int.le_refl _
 | cons y l ih=>rw [List.foldl_cons];have:=ih (max a (f y));omega
theorem mostI_mem (f:Int→Int) (l:List Int) (a:Int) (y:Int) (h:y∈l) : f y≤zKL f a l:=by
 unfold zKL
 induction l generalizing a with
 | nil=>simp at h
 | cons z l ih =>
   rw [List.foldl_cons]
   rcases List.mem_cons.1 h with rfl | h
   ·have:=mostI_ge f l (max a (f y));unfold zKL at this;omega
   ·exact ih _ h
theorem mostI_app (f:Int→Int) (l l':List Int) (a:Int) : zKL f a (l++l')=zKL f (zKL f a l) l':=by unfold zKL;rw [List.foldl_append]
theorem issFold_most (f:Int→Int) (x:Issue) (m:Nat) (a:Int) (hm:m≤x.items.length) : zDT f x m (1+a)=1+zKL f a ((x.items.take m).map (·.d)):=by
 induction m with
 | zero=>simp [zDT,zKL]
 | succ m ih =>
   simp only [zDT,List.getElem?_eq_getElem (show m < x.items.length by omega)]
   rw [ih (by omega),List.take_succ_eq_append_getElem (by omega),List.map_append,mostI_app]
   simp only [List.map_cons,List.map_nil]
   unfold zKL
   simp only [List.foldl_cons,List.foldl_nil]
   omega
theorem sonsOf_app (xs ys:List Issue) : zBJ (xs++ys)=zBJ xs++zBJ ys:=by simp [zBJ]
theorem acc_most (R:List Issue) (f:Int→Int) (n:Int) (k:Nat) (hk:k≤R.length) :
  zDU R f k n=if (R.take k).filter (fun x=>x.d == n)=[] then 0 else 1+zKL f 0 (zBJ ((R.take k).filter (fun x=>x.d == n))):=by
 induction k with
 | zero=>simp [zDU]
 | succ k ih =>
   have ih:=ih (by omega)
   have hlt:k < R.length:=by omega
   rw [List.take_succ_eq_append_getElem hlt,List.filter_append]
   simp only [zDU,List.getElem?_eq_getElem hlt]
   by_cases e:n=R[k].d
   ·rw [if_pos e]
    have ef:[R[k]].filter (fun x=>x.d == n)=[R[k]]:=by simp [e]
    rw [ef,if_neg (by simp),sonsOf_app,mostI_app,← e,ih]
    have es:zBJ [R[k]]=(R[k].items.take R[k].items.length).map (·.d):=by simp [zBJ]
    rw [es,← issFold_most f R[k] _ _ (Nat.le_refl _)]
    congr 1
    split
    ·rename_i h0
     rw [h0]
     simp [zBJ,zKL]
     omega
    ·have:=mostI_ge f (zBJ ((R.take k).filter (fun x=>x.d == n))) 0
     omega
   ·rw [if_neg e,ih]
    have ef:[R[k]].filter (fun x=>x.d == n)=[]:=by simp;omega
    rw [ef,List.append_nil]
theorem zNR (R:List Issue) (n:Int) (h:n∈nums R) : zAM R n≠[]:=by
 have key:∀ k,k≤R.length→n∈zBR R k→∃ x∈R,x.d=n:=by
  intro k hk hn
  induction k with
  | zero=>simp [zBR] at hn
  | succ k ih =>
    simp only [zBR] at hn
    rcases List.mem_append.1 hn with h | h
    ·exact ih (by omega) h
    ·rw [List.getElem?_eq_getElem (by omega)] at h
     simp only at h
     split at h
     ·simp at h
     ·rw [List.mem_singleton] at h
      exact ⟨R[k],List.getElem_mem _,h.symm⟩
 obtain ⟨x,hx,e⟩:=key _ (Nat.le_refl _) h
 intro h0
 have:x∈zAM R n:=by unfold zAM;rw [List.mem_filter];exact ⟨hx,by simp [e]⟩
 rw [h0] at this
 simp at this
theorem dep_most (R:List Issue) (r:Nat) (n:Int) (h:n∈nums R) : dep R (r+1) n=1+zKL (dep R r) 0 (zBJ (zAM R n)):=by
 have:=acc_most R (dep R r) n R.length (Nat.le_refl _)
 rw [List.take_length] at this
 show zDU R (dep R r) R.length n=_
 rw [this]
 exact if_neg (zNR R n h)
theorem zLG (L:List Int) (n:Int) (l:List Int) : zDE L n l=true↔n∈L∧∀ y∈l,y ∉ L:=by
 unfold zDE
 rw [Bool.and_eq_true,decide_eq_true_iff,List.all_eq_true]
 constructor
 ·rintro ⟨h1,h2⟩;exact ⟨h1,fun y hy=>by simpa using h2 y hy⟩
 ·rintro ⟨h1,h2⟩;exact ⟨h1,fun y hy=>by simpa using h2 y hy⟩
structure Tells (R:List Issue) (s:List Int×(Int→Option Int)) : Prop where
 sane:Sane (nums R) s
 dom:∀ y∈nums R,y ∉ s.1→∃ c,s.2 y=some c
 of:∀ y c,s.2 y=some c→y∈nums R∧∀ r:Nat,(nums R).length - s.1.length≤r→dep R r y=c
theorem tells_start (R:List Issue) (hD:(nums R).Nodup) : Tells R (nums R,fun _=>none):=⟨sane_start _ hD,fun y h h'=>absurd h h',fun _ _ h=>by cases h⟩
theorem most_same (f:Int→Option Int) (g:Int→Int) (l:List Int) (h:∀ y∈l,(f y).getD 0=g y) : zFV f l=zKL g 0 l:=by
 have key:∀ (l:List Int) (a:Int),(∀ y∈l,(f y).getD 0=g y)→l.foldl (fun m y=>max m ((f y).getD 0)) a=l.foldl (fun m y=>max m (g y)) a:=by
  intro l
  induction l with
  | nil=>intro a _;rfl
  | cons y l ih=>intro a h;rw [List.foldl_cons,List.foldl_cons,h y (by simp),ih _ (fun z hz=>h z (by simp [hz]))]
 exact key l 0 h
theorem tells_step (R:List Issue) (hs:∀ n,∀ y∈zBJ (zAM R n),y∈nums R) (s:List Int×(Int→Option Int)) (n:Int) (h:Tells R s) : Tells R (zER R s n):=by
 have hsane:=sane_step R _ s n h.sane
 by_cases hr:zDE s.1 n (zBJ (zAM R n))=true
 ·have e:zER R s n=(s.1.erase n,fun y=>if y=n then some (zFV s.2 (zBJ (zAM R n))+1) else s.2 y):=by unfold zER;rw [if_pos hr]
  rw [e] at hsane ⊢
  obtain ⟨hn,hy⟩:=(zLG _ _ _).1 hr
  have hl:=List.length_erase_of_mem hn
  have hpos:0 < s.1.length:=List.length_pos_of_mem hn
  have hle:=h.sane.len
  refine ⟨hsane,fun y hy1 hy2=>?_,fun y c hc=>?_⟩
  ·by_cases ey:y=n
   ·exact ⟨_,by simp [ey];rfl⟩
   ·have:y ∉ s.1:=fun h'=>hy2 ((h.sane.nodup.mem_erase_iff).2 ⟨ey,h'⟩)
    obtain ⟨c,hc⟩:=h.dom y hy1 this
    exact ⟨c,by simpa [ey] using hc⟩
  ·simp only at hc ⊢
   split at hc
   ·rename_i ey
    cases hc
    subst ey
    refine ⟨h.sane.sub y hn,fun r hrr=>?_⟩
    obtain ⟨r,rfl⟩ : ∃ q,r=q+1:=⟨r - 1,by omega⟩
    rw [dep_most R r y (h.sane.sub y hn),most_same s.2 (dep R r) _ (fun z hz=>?_)]
    ·omega
    ·obtain ⟨c,hc⟩:=h.dom z (hs y z hz) (hy z hz)
     rw [hc,(h.of z c hc).2 r (by omega)]
     rfl
   ·have:=h.of y c hc
    exact ⟨this.1,fun r hrr=>this.2 r (by omega)⟩
 ·have e:zER R s n=s:=by unfold zER;rw [if_neg hr]
  rw [e]
  exact h
theorem tells_fold (R:List Issue) (hs:∀ n,∀ y∈zBJ (zAM R n),y∈nums R) (l:List Int) (s:List Int×(Int→Option Int)) (h:Tells R s) : Tells R (l.foldl (zER R) s):=by
 induction l generalizing s with
 | nil=>exact h
 | cons n l ih=>exact ih _ (tells_step R hs s n h)
theorem tells_st (R:List Issue) (hD:(nums R).Nodup) (hs:∀ n,∀ y∈zBJ (zAM R n),y∈nums R) (r:Nat) : Tells R (stD R (nums R) r):=by
 induction r with
 | zero=>exact tells_start R hD
 | succ r ih=>exact tells_fold R hs _ _ ih
theorem step_len (R:List Issue) (s:List Int×(Int→Option Int)) (n:Int) : (zER R s n).1.length < s.1.length∨zER R s n=s:=by
 unfold zER
 split
 ·rename_i hr
  left
  have hn:=((zLG _ _ _).1 hr).1
  have:=List.length_erase_of_mem hn
  have:=List.length_pos_of_mem hn
  show (s.1.erase n).length < _
  omega
 ·exact .inr rfl
theorem fold_len (R:List Issue) (l:List Int) (s:List Int×(Int→Option Int)) : (l.foldl (zER R) s).1.length < s.1.length∨((∀ n∈l,zER R s n=s)∧l.foldl (zER R) s=s):=by
 induction l generalizing s with
 | nil=>exact .inr ⟨fun _ h=>(by cases h),rfl⟩
 | cons n l ih =>
   rw [List.foldl_cons]
   rcases step_len R s n with h | h
   ·left
    rcases ih (zER R s n) with h2 | ⟨_,h2⟩
    ·omega
    ·rw [h2];exact h
   ·rw [h]
    rcases ih s with h2 | ⟨h2,h3⟩
    ·exact .inl h2
    ·exact .inr ⟨fun m hm=>by
      rcases List.mem_cons.1 hm with rfl | hm
      ·exact h
      ·exact h2 m hm,h3⟩
theorem st_still (R:List Issue) (D:List Int) (r:Nat) (hr:r≤D.length) : (stD R D r).1.length+r≤D.length∨∀ n∈D,zER R (stD R D r) n=stD R D r:=by
 induction r with
 | zero=>exact .inl (Nat.le_refl _)
 | succ r ih =>
   have e:stD R D (r+1)=D.foldl (zER R) (stD R D r):=rfl
   rcases fold_len R D (stD R D r) with h | ⟨h1,h2⟩
   ·rcases ih (by omega) with h3 | h3
    ·left;rw [e];omega
    ·exfalso
     have key:∀ l:List Int,(∀ n∈l,zER R (stD R D r) n=stD R D r)→l.foldl (zER R) (stD R D r)=stD R D r:=by
      intro l hl
      induction l with
      | nil=>rfl
      | cons n l ih2=>rw [List.foldl_cons,hl n (by simp)];exact ih2 (fun m hm=>hl m (by simp [hm]))
     rw [key D h3] at h
     omega
   ·right
    rw [e,h2]
    exact h1
theorem still_deep (R:List Issue) (s:List Int×(Int→Option Int)) (hsub:∀ y∈s.1,y∈nums R) (hst:∀ n∈nums R,zER R s n=s) (r:Nat) : ∀ n∈s.1,(r:Int)≤dep R r n:=by
 induction r with
 | zero=>intro n _;exact (zJP R 0 n).1
 | succ r ih =>
   intro n hn
   have hns:∃ y∈zBJ (zAM R n),y∈s.1:=by
    by_cases h:zDE s.1 n (zBJ (zAM R n))=true
    ·exfalso
     have h2:=hst n (hsub n hn)
     unfold zER at h2
     rw [if_pos h] at h2
     have h3:=congrArg (fun t=>t.1.length) h2
     have h4:=List.length_erase_of_mem hn
     have h5:=List.length_pos_of_mem hn
     simp only at h3
     omega
    ·refine Classical.byContradiction fun hc=>h ((zLG _ _ _).2 ⟨hn,fun y hy hys=>hc ⟨y,hy,hys⟩⟩)
   obtain ⟨y,hy,hys⟩:=hns
   rw [dep_most R r n (hsub n hn)]
   have h1:=mostI_mem (dep R r) _ 0 y hy
   have h2:=ih y hys
   omega
theorem depths_tell (R:List Issue) (hD:(nums R).Nodup) (hs:∀ n,∀ y∈zBJ (zAM R n),y∈nums R) :
  (0 < (stD R (nums R) (nums R).length).1.length→zGI R (nums R).length) ∧
  (¬ 0 < (stD R (nums R) (nums R).length).1.length→¬ zGI R (nums R).length∧(zGI R 6→∃ n c,n∈nums R∧(stD R (nums R) (nums R).length).2 n=some c∧6 < c)∧(∀ n c,(stD R (nums R) (nums R).length).2 n=some c→6 < c→zGI R 6)):=by
 have ht:=tells_st R hD hs (nums R).length
 constructor
 ·intro h
  rcases st_still R (nums R) (nums R).length (Nat.le_refl _) with h1 | h1
  ·omega
  ·obtain ⟨n,hn⟩:=List.exists_mem_of_length_pos h
   have:=still_deep R _ ht.sane.sub h1 ((nums R).length+1) n hn
   exact ⟨n,ht.sane.sub n hn,by push_cast at this;omega⟩
 ·intro h
  have h0:(stD R (nums R) (nums R).length).1.length=0:=by omega
  have hnil:=List.eq_nil_of_length_eq_zero h0
  have hall:∀ n∈nums R,∃ c,(stD R (nums R) (nums R).length).2 n=some c∧dep R ((nums R).length+1) n=c:=fun n hn=>by
   obtain ⟨c,hc⟩:=ht.dom n hn (by rw [hnil];simp)
   exact ⟨c,hc,(ht.of n c hc).2 _ (by omega)⟩
  refine ⟨fun ⟨n,hn,hd⟩=>?_,fun ⟨n,hn,hd⟩=>?_,fun n c hc h6=>?_⟩
  ·obtain ⟨c,hc,he⟩:=hall n hn
   have:=ht.sane.bd n c hc
   omega
  ·obtain ⟨c,hc,he⟩:=hall n hn
   exact ⟨n,c,hn,hc,by omega⟩
  ·have h1:=ht.of n c hc
   exact ⟨n,h1.1,by rw [h1.2 _ (by omega)];exact h6⟩
end Go.Proofs.YtpolpdegpbahiaaGreatDoor
