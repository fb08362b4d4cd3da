/- The reference: the number of the note by which a drawing has its letter. -/
import Derived.WalkSpells
import Derived.Lib.SliceRun
import Derived.Laws.AppendOwnNone
import Derived.Maps.AppendAt
import Derived.Test.YtpolpdegpbahiaaGreatDoorM01
import Derived.Test.YtpolpdegpbahiaaGreatDoorM02
import Derived.Test.YtpolpdegpbahiaaGreatDoorM06
import Derived.Test.YtpolpdegpbahiaaGreatDoorM08
import Derived.Test.YtpolpdegpbahiaaGreatDoorM53
import Derived.Test.YtpolpdegpbahiaaGreatDoorM54
import Derived.Test.YtpolpdegpbahiaaGreatDoorM55
import Derived.Test.YtpolpdegpbahiaaGreatDoorM57
set_option linter.all false
set_option maxRecDepth 100000
set_option maxHeartbeats 12800000

namespace Go.Proofs.YtpolpdegpbahiaaGreatDoor
open Go.RowKit
theorem clone_int (w:World) (v:Value) (xs:List Int) (h:Sl zAJ 1 w v xs) (hn:xs.length≤100000) :
  Calls Tryz.prog 132 #[v] w fun e w'=>∃ u,e = .returned u∧New zAJ 1 3 w.heap.size w' u xs∧Below w.heap.size w w':=by
 obtain ⟨i0,hi,hz0,hz1,hz2⟩:=info_parts zDM
 have q:=fun (w:World) (a:Option Addr) (n c:Nat)=>Lib.run_eql_slice_nil w _ _ a n c 0 0 Tryz.underlying28
 obtain ⟨a,cap,rfl,_⟩:=zD h
 cases a with
 | none =>
   have hx:xs=[]:=by
    cases xs with
    | nil=>rfl
    | cons x xs=>obtain ⟨b,off,hh,_⟩:=(zZ h).2 0 (by simp);cases hh
   subst hx
   go_enter Tryz.func132,Tryz.ntmps132
   go_wp2
   go_ret
   exact ⟨_,rfl,New.nil _ _ _ _ _,Below.refl _ _⟩
 | some ad =>
   have key:∃ news:List Value,news.length=xs.length*1∧(∀ j u,news[j]? = some u→w.cell? (ad.add j)=some u)∧(∀ u∈news,u.oneCell'=true) ∧
     (∀ w' base e v,Below w.heap.size w w'→w'.ownsRow base e 1 v xs.length news→Sl zAJ 1 w' v xs):=by
    by_cases hx:xs=[]
    ·subst hx
     refine ⟨[],by simp,fun j u hj=>by simp at hj,fun u hu=>by simp at hu,fun w' base e v _ hown=>?_⟩
     rcases hown.2 with ⟨rfl,_⟩ | ⟨g,cap,cur,rfl,_⟩
     ·exact ⟨none,0,rfl,by simp,fun k hk=>by simp at hk⟩
     ·exact ⟨_,cap,rfl,by simp,fun k hk=>by simp at hk⟩
    ·obtain ⟨_,hX⟩:=zZ h
     obtain ⟨b,off,hh,_⟩:=hX 0 (List.length_pos_iff.2 hx)
     cases hh
     have hE:∀ k (hk:k < xs.length),zAJ w b (off+k*1) xs[k]:=fun k hk=>by
      obtain ⟨b',off',hh,he⟩:=hX k hk
      cases hh
      exact he
     obtain ⟨news,hl,hc,h1⟩:=zNE cells_int xs hE
     refine ⟨news,hl,fun j u hj=>?_,h1,fun w' base e v hb hown=>zIF copies_int hb hE hl hc hown⟩
     rw [Addr.add_lit]
     exact hc j u hj
   obtain ⟨news,hl,hc,h1,hS⟩:=key
   have HS:=Lib.hid hS
   have HC:=Lib.hid hc
   have H1:=Lib.hid h1
   clear h hS hc h1
   go_enter Tryz.func132,Tryz.ntmps132
   go_wp2_with (at_builtin;refine wpList_append_own _ rfl _ _ 28 rfl w.heap.size 3 i0 (.int .i64 0) 1 8 Tryz.underlying28 hi hz0 hz1 hz2 rfl (by decide) _ _ _ rfl (World.ownsRow_made w #[] 0 (Nat.le_refl _) (Nat.zero_le _) rfl) ad xs.length cap news rfl ?qc1 ?qc2 ?qc3 ?qc4 ?qc5 ?qc6 ?_)
   case qc1=>exact hl
   case qc2=>exact fun j u hj=>Lib.cell?_alloc_some _ (HC.out j u hj)
   case qc3=>exact H1.out
   case qc4=>unfold maxLen;omega
   case qc5=>omega
   case qc6=>simp
   intro v' w1 hown hgrow hnil
   have hb:Below w.heap.size w w1:=((Below.refl _ w).alloc (Nat.le_refl _) _).grown hgrow (by simp) (by intro k hk;simp [Value.ownBlock] at hk;omega)
   have hown2:w1.ownsRow w.heap.size 3 1 v' xs.length news:=by simpa using hown
   clear hown hgrow
   go_wp2
   go_ret
   exact ⟨_,rfl,⟨HS.out _ _ _ _ hb hown2,_,hown2⟩,hb⟩
theorem clone_item (w:World) (v:Value) (xs:List Item) (h:Sl zCP 2 w v xs) (hn:xs.length≤100000) :
  Calls Tryz.prog 161 #[v] w fun e w'=>∃ u,e = .returned u∧New zCP 2 205 w.heap.size w' u xs∧Below w.heap.size w w':=by
 obtain ⟨i0,hi,hz0,hz1,hz2⟩:=info_parts zPR
 have q:=fun (w:World) (a:Option Addr) (n c:Nat)=>Lib.run_eql_slice_nil w _ _ a n c 0 0 Tryz.underlying104
 obtain ⟨a,cap,rfl,_⟩:=zD h
 cases a with
 | none =>
   have hx:xs=[]:=by
    cases xs with
    | nil=>rfl
    | cons x xs=>obtain ⟨b,off,hh,_⟩:=(zZ h).2 0 (by simp);cases hh
   subst hx
   go_enter Tryz.func161,Tryz.ntmps161
   go_wp2
   go_ret
   exact ⟨_,rfl,New.nil _ _ _ _ _,Below.refl _ _⟩
 | some ad =>
   have key:∃ news:List Value,news.length=xs.length*2∧(∀ j u,news[j]? = some u→w.cell? (ad.add j)=some u)∧(∀ u∈news,u.oneCell'=true) ∧
     (∀ w' base e v,Below w.heap.size w w'→w'.ownsRow base e 2 v xs.length news→Sl zCP 2 w' v xs):=by
    by_cases hx:xs=[]
    ·subst hx
     refine ⟨[],by simp,fun j u hj=>by simp at hj,fun u hu=>by simp at hu,fun w' base e v _ hown=>?_⟩
     rcases hown.2 with ⟨rfl,_⟩ | ⟨g,cap,cur,rfl,_⟩
     ·exact ⟨none,0,rfl,by simp,fun k hk=>by simp at hk⟩
     ·exact ⟨_,cap,rfl,by simp,fun k hk=>by simp at hk⟩
    ·obtain ⟨_,hX⟩:=zZ h
     obtain ⟨b,off,hh,_⟩:=hX 0 (List.length_pos_iff.2 hx)
     cases hh
     have hE:∀ k (hk:k < xs.length),zCP w b (off+k*2) xs[k]:=fun k hk=>by
      obtain ⟨b',off',hh,he⟩:=hX k hk
      cases hh
      exact he
     obtain ⟨news,hl,hc,h1⟩:=zNE cells_item xs hE
     refine ⟨news,hl,fun j u hj=>?_,h1,fun w' base e v hb hown=>zIF copies_item hb hE hl hc hown⟩
     rw [Addr.add_lit]
     exact hc j u hj
   obtain ⟨news,hl,hc,h1,hS⟩:=key
   have HS:=Lib.hid hS
   have HC:=Lib.hid hc
   have H1:=Lib.hid h1
   clear h hS hc h1
   go_enter Tryz.func161,Tryz.ntmps161
   go_wp2_with (at_builtin;refine wpList_append_own _ rfl _ _ 104 rfl w.heap.size 205 i0 (.agg #[.int .i64 0,.int .i64 0]) 2 16 Tryz.underlying104 hi hz0 hz1 hz2 rfl (by decide) _ _ _ rfl (World.ownsRow_made w #[] 0 (Nat.le_refl _) (Nat.zero_le _) rfl) ad xs.length cap news rfl ?qc1 ?qc2 ?qc3 ?qc4 ?qc5 ?qc6 ?_)
   case qc1=>exact hl
   case qc2=>exact fun j u hj=>Lib.cell?_alloc_some _ (HC.out j u hj)
   case qc3=>exact H1.out
   case qc4=>unfold maxLen;omega
   case qc5=>omega
   case qc6=>simp
   intro v' w1 hown hgrow hnil
   have hb:Below w.heap.size w w1:=((Below.refl _ w).alloc (Nat.le_refl _) _).grown hgrow (by simp) (by intro k hk;simp [Value.ownBlock] at hk;omega)
   have hown2:w1.ownsRow w.heap.size 205 2 v' xs.length news:=by simpa using hown
   clear hown hgrow
   go_wp2
   go_ret
   exact ⟨_,rfl,⟨HS.out _ _ _ _ hb hown2,_,hown2⟩,hb⟩
theorem clone_dim (w:World) (v:Value) (xs:List Dim) (h:Sl zGQ 3 w v xs) (hn:xs.length≤100000) :
  Calls Tryz.prog 162 #[v] w fun e w'=>∃ u,e = .returned u∧New zGQ 3 252 w.heap.size w' u xs∧Below w.heap.size w w':=by
 obtain ⟨i0,hi,hz0,hz1,hz2⟩:=info_parts infoDim
 have q:=fun (w:World) (a:Option Addr) (n c:Nat)=>Lib.run_eql_slice_nil w _ _ a n c 0 0 Tryz.underlying105
 obtain ⟨a,cap,rfl,_⟩:=zD h
 cases a with
 | none =>
   have hx:xs=[]:=by
    cases xs with
    | nil=>rfl
    | cons x xs=>obtain ⟨b,off,hh,_⟩:=(zZ h).2 0 (by simp);cases hh
   subst hx
   go_enter Tryz.func162,Tryz.ntmps162
   go_wp2
   go_ret
   exact ⟨_,rfl,New.nil _ _ _ _ _,Below.refl _ _⟩
 | some ad =>
   have key:∃ news:List Value,news.length=xs.length*3∧(∀ j u,news[j]? = some u→w.cell? (ad.add j)=some u)∧(∀ u∈news,u.oneCell'=true) ∧
     (∀ w' base e v,Below w.heap.size w w'→w'.ownsRow base e 3 v xs.length news→Sl zGQ 3 w' v xs):=by
    by_cases hx:xs=[]
    ·subst hx
     refine ⟨[],by simp,fun j u hj=>by simp at hj,fun u hu=>by simp at hu,fun w' base e v _ hown=>?_⟩
     rcases hown.2 with ⟨rfl,_⟩ | ⟨g,cap,cur,rfl,_⟩
     ·exact ⟨none,0,rfl,by simp,fun k hk=>by simp at hk⟩
     ·exact ⟨_,cap,rfl,by simp,fun k hk=>by simp at hk⟩
    ·obtain ⟨_,hX⟩:=zZ h
     obtain ⟨b,off,hh,_⟩:=hX 0 (List.length_pos_iff.2 hx)
     cases hh
     have hE:∀ k (hk:k < xs.length),zGQ w b (off+k*3) xs[k]:=fun k hk=>by
      obtain ⟨b',off',hh,he⟩:=hX k hk
      cases hh
      exact he
     obtain ⟨news,hl,hc,h1⟩:=zNE cells_dim xs hE
     refine ⟨news,hl,fun j u hj=>?_,h1,fun w' base e v hb hown=>zIF copies_dim hb hE hl hc hown⟩
     rw [Addr.add_lit]
     exact hc j u hj
   obtain ⟨news,hl,hc,h1,hS⟩:=key
   have HS:=Lib.hid hS
   have HC:=Lib.hid hc
   have H1:=Lib.hid h1
   clear h hS hc h1
   go_enter Tryz.func162,Tryz.ntmps162
   go_wp2_with (at_builtin;refine wpList_append_own _ rfl _ _ 105 rfl w.heap.size 252 i0 (.agg #[.int .i64 0,.int .i64 0,.int .i64 0]) 3 24 Tryz.underlying105 hi hz0 hz1 hz2 rfl (by decide) _ _ _ rfl (World.ownsRow_made w #[] 0 (Nat.le_refl _) (Nat.zero_le _) rfl) ad xs.length cap news rfl ?qc1 ?qc2 ?qc3 ?qc4 ?qc5 ?qc6 ?_)
   case qc1=>exact hl
   case qc2=>exact fun j u hj=>Lib.cell?_alloc_some _ (HC.out j u hj)
   case qc3=>exact H1.out
   case qc4=>unfold maxLen;omega
   case qc5=>omega
   case qc6=>simp
   intro v' w1 hown hgrow hnil
   have hb:Below w.heap.size w w1:=((Below.refl _ w).alloc (Nat.le_refl _) _).grown hgrow (by simp) (by intro k hk;simp [Value.ownBlock] at hk;omega)
   have hown2:w1.ownsRow w.heap.size 252 3 v' xs.length news:=by simpa using hown
   clear hown hgrow
   go_wp2
   go_ret
   exact ⟨_,rfl,⟨HS.out _ _ _ _ hb hown2,_,hown2⟩,hb⟩
end Go.Proofs.YtpolpdegpbahiaaGreatDoor
namespace Go.Proofs.YtpolpdegpbahiaaGreatDoor
open Tryz
section
open Go.RowKit Go.Shelf
attribute [local go_sem] zAN Oper.grows Oper.growUpon
theorem zCY {R:List Issue} (h:zAC R=0) : zEM R:=by
 by_cases hl:zEM R
 ·exact hl
 ·rw [zCZ hl] at h;cases h
theorem listed_ne {R:List Issue} (h:zEM R) : R≠[]∧R.length≤60:=by
 have h1:=h.1.1
 have h2:=h.1.2
 exact ⟨fun e=>by rw [e] at h1;simp at h1,by omega⟩
theorem zFH {R:List Issue} (h:zEM R) : zKX R∧Mount (nums R):=⟨mount_of R (fun k hk=>(h.2.1 k hk).2),mount_nums R (fun k hk=>(h.2.1 k hk).2)⟩
def AnySl (v:Value) : Prop:=∃ a n c,v = .slice a n c
theorem anySl_of {α:Type} {E:World→Nat→Nat→α→Prop} {sz:Nat} {w:World} {v:Value} {xs:List α} (h:Sl E sz w v xs) : AnySl v:=by obtain ⟨a,c,rfl,_⟩:=h;exact ⟨_,_,_,rfl⟩
structure RegArg (w:World) (v:Value) (R:List Issue) : Prop where
 sl:Sl zAU 5 w v R
 cap:∃ a c,v = .slice a R.length c∧R.length≤c
 looks:Looks w
theorem RegArg.ext {w w':World} {v:Value} {R:List Issue} (hb:Below w.heap.size w w') (h:RegArg w v R) : RegArg w' v R:=⟨zI zP hb h.sl,h.cap,h.looks.ext hb⟩
theorem zKR (w:World) (v:Value) (R:List Issue) (h:RegArg w v R) :
  Calls prog 135 #[.agg #[v]] w fun e w'=>(∃ u,e = .returned (.tuple #[u,.int .i64 (zAC R)])∧AnySl u∧(zAC R=0→Sl zAJ 1 w' u (nums R)))∧Below w.heap.size w w':=by
 obtain ⟨hb1,B1⟩:=zAZ w #[v] 24
 have c0:=B1 0 _ rfl
 have h1:=h.ext hb1
 obtain ⟨a,cap,rfl,_⟩:=zD h.sl
 have c0:zJ _ w.heap.size 0 (.slice a R.length cap):=c0
 unfold zJ at c0
 clear B1 h
 go_enter func135,ntmps135
 go_wp2_with fail
 clear c0
 generalize w.alloc _=w1 at *
 refine (zPK _ _ R h1.sl h1.cap h1.looks).mono ?_
 rintro e w2 ⟨⟨p,rfl,hp1,hp2⟩,hb2⟩
 have hb:=zA hb1 hb2
 by_cases hz:zAC R=0
 ·obtain ⟨pb,vd,rfl,hbk⟩:=hp2 hz
  rw [hz]
  have c1:=hbk.c1
  have hdr:=hbk.dr
  obtain ⟨ad,cd,rfl,_⟩:=zD hdr
  have HDR:=zF hdr
  unfold zJ at c1
  clear hp1 hp2 hbk h1 hb2 hb1 hdr
  go_wp2
  go_ret2
  exact ⟨⟨.slice ad (nums R).length cd,by rw [hz];rfl,⟨_,_,_,rfl⟩,fun _=>HDR.out⟩,hb⟩
 ·obtain rfl:=hp1 hz
  have HZ:=zF hz
  clear hp1 hp2 h1
  generalize hcc:zAC R=c at *
  go_wp2
  go_ret2
  exact ⟨⟨.slice none 0 0,by rw [hcc];rfl,⟨_,_,_,rfl⟩,fun h=>absurd (hcc ▸ h) HZ.out⟩,hb⟩
open Classical in
noncomputable def zBK (R:List Issue) (d:Int) : Int:=if zAC R=0 then (if d∈nums R then 0 else 6) else zAC R
theorem known_sheet (w:World) (v:Value) (R:List Issue) (d:Int) (h:RegArg w v R) :
  Calls prog 109 #[.agg #[v],.int .i64 d] w fun e w'=>(∃ p,e = .returned (.tuple #[p,.int .i64 (zBK R d)])∧(zBK R d≠0→p = .pointer none)∧(zBK R d=0→∃ pb vd,p = .pointer (some ⟨pb,0,none⟩)∧BookAt w' pb v vd R (nums R)))∧Below w.heap.size w w':=by
 obtain ⟨hb1,B1⟩:=zAZ w #[v] 24
 have c0:=B1 0 _ rfl
 have h1:=h.ext hb1
 obtain ⟨a,cap,rfl,_⟩:=zD h.sl
 have c0:zJ _ w.heap.size 0 (.slice a R.length cap):=c0
 unfold zJ at c0
 clear B1 h
 go_enter func109,ntmps109
 go_wp2_with fail
 clear c0
 generalize w.alloc _=w1 at *
 refine (zPK _ _ R h1.sl h1.cap h1.looks).mono ?_
 rintro e w2 ⟨⟨p,rfl,hp1,hp2⟩,hb2⟩
 have hb:=zA hb1 hb2
 by_cases hz:zAC R=0
 ·obtain ⟨pb,vd,rfl,hbk⟩:=hp2 hz
  have hl:=zCY hz
  have hm:=(zFH hl).2
  have hn:=hl.2.2.2
  have hk:zBK R d=if d∈nums R then 0 else 6:=by unfold zBK;rw [if_pos hz]
  rw [hz]
  have HBK:=zF hbk
  have HK:=zF hk
  clear hp1 hp2 h1 hb2 hb1 hl hk
  go_wp2_with fail
  refine (has_int _ pb (.slice a R.length cap) vd R (nums R) d HBK.out.c1 HBK.out.dr hm (by omega)).mono ?_
  rintro e w3 ⟨rfl,rfl⟩
  by_cases hd:d∈nums R
  ·have e0:zBK R d=0:=by rw [HK.out,if_pos hd]
   rw [decide_eq_true hd]
   clear hd HK hbk
   go_wp2
   go_ret2
   exact ⟨⟨.pointer (some ⟨pb,0,none⟩),by rw [e0];rfl,fun h=>absurd e0 h,fun _=>⟨_,_,rfl,HBK.out⟩⟩,hb⟩
  ·have e0:zBK R d=6:=by rw [HK.out,if_neg hd]
   rw [decide_eq_false hd]
   clear hd HK hbk
   go_wp2
   go_ret2
   exact ⟨⟨.pointer none,by rw [e0];rfl,fun h=>rfl,fun h=>by rw [e0] at h;cases h⟩,hb⟩
 ·obtain rfl:=hp1 hz
  have e0:zBK R d=zAC R:=by unfold zBK;rw [if_neg hz]
  have hz':=zF hz
  clear hp1 hp2 h1
  have E0:=zF e0
  clear e0
  generalize hcc:zAC R=c at *
  go_wp2
  go_ret2
  exact ⟨⟨.pointer none,by rw [E0.out];rfl,fun _=>rfl,fun h=>by rw [E0.out] at h;exact absurd h hz'.out⟩,hb⟩
theorem zPO (R:List Issue) (h:∀ k,k < R.length→zIC R k) (d:Int) : ((zAM R d).length:Int)=zLH R d∧((zAM R d).length≠0↔d∈nums R):=by
 have hm:=mount_of R h
 have key:∀ k,k≤R.length→(∀ d,zIX R d k=(((R.take k).filter (fun x=>x.d == d)).length:Int))∧(∀ h0:0 < k,∀ hk:k - 1 < R.length,R[k - 1].l=(((R.take k).filter (fun x=>x.d == R[k - 1].d)).length:Int)):=by
  intro k
  induction k with
  | zero=>intro _;exact ⟨fun d=>by simp [zIX],fun h0=>absurd h0 (by omega)⟩
  | succ k ih =>
    intro hk
    obtain ⟨ih1,ih2⟩:=ih (by omega)
    have hlt:k < R.length:=by omega
    have hl:R[k].l=(((R.take k).filter (fun x=>x.d == R[k].d)).length:Int)+1:=by
     have ho:=h k hlt hlt
     by_cases h0:0 < k
     ·rcases ho.2 h0 with ⟨h1,h2⟩ | ⟨h1,h2,_⟩
      ·have e:(R.take k).filter (fun x=>x.d == R[k].d)=[]:=by
        rw [List.filter_eq_nil_iff]
        intro x hx
        obtain ⟨j,hj,rfl⟩:=List.getElem_of_mem hx
        rw [List.length_take] at hj
        rw [List.getElem_take]
        have:=hm j (k - 1) (by omega) (by omega)
        simp
        omega
       rw [e,h2];rfl
      ·have:=ih2 h0 (by omega)
       rw [h1] at this
       rw [h2,this]
     ·have hk0:k=0:=by omega
      rw [ho.1 hk0]
      subst hk0
      simp
    have hf:∀ d,(R.take (k+1)).filter (fun x=>x.d == d)=(R.take k).filter (fun x=>x.d == d)++[R[k]].filter (fun x=>x.d == d):=fun d=>by rw [List.take_succ_eq_append_getElem hlt,List.filter_append]
    refine ⟨fun d=>?_,fun _ _=>?_⟩
    ·rw [lastTo_succ R d k hlt,hf d,List.length_append]
     by_cases e:R[k].d=d
     ·subst e
      rw [if_pos rfl,ih1,hl]
      simp
      omega
     ·rw [if_neg e,ih1]
      simp [e]
    ·simp only [Nat.add_sub_cancel]
     rw [hf,List.length_append,hl]
     simp
 constructor
 ·have:=(key R.length (Nat.le_refl _)).1 d
  rw [List.take_length] at this
  exact this.symm
 ·constructor
  ·intro h1
   cases hi:zAM R d with
   | nil=>rw [hi] at h1;simp at h1
   | cons x l =>
     have hx:x∈zAM R d:=by rw [hi];simp
     unfold zAM at hx
     rw [List.mem_filter] at hx
     obtain ⟨k,hk,rfl⟩:=List.getElem_of_mem hx.1
     have:=zMM R h k hk
     have e:R[k].d=d:=by simpa using hx.2
     rwa [e] at this
  ·intro h1 h2
   exact zNR R d h1 (List.eq_nil_of_length_eq_zero h2)
theorem last_sheet (w:World) (v:Value) (R:List Issue) (d:Int) (h:RegArg w v R) :
  Calls prog 64 #[.agg #[v],.int .i64 d] w fun e w'=>(∃ n,e = .returned (.tuple #[.int .i64 n,.int .i64 (zBK R d)])∧(zAC R=0→n=zLH R d))∧Below w.heap.size w w':=by
 obtain ⟨hb1,B1⟩:=zAZ w #[v] 24
 have c0:=B1 0 _ rfl
 have h1:=h.ext hb1
 obtain ⟨a,cap,rfl,_⟩:=zD h.sl
 have c0:zJ _ w.heap.size 0 (.slice a R.length cap):=c0
 unfold zJ at c0
 clear B1 h
 go_enter func64,ntmps64
 go_wp2_with fail
 clear c0
 generalize w.alloc _=w1 at *
 refine (known_sheet _ _ R d h1).mono ?_
 rintro e w2 ⟨⟨p,rfl,hp1,hp2⟩,hb2⟩
 have hb:=zA hb1 hb2
 have hkz:zBK R d=0→zAC R=0:=fun h=>by
  unfold zBK at h
  by_cases hz:zAC R=0
  ·exact hz
  ·rw [if_neg hz] at h;exact h
 by_cases hz:zBK R d=0
 ·obtain ⟨pb,vd,rfl,hbk⟩:=hp2 hz
  have hl:=zCY (hkz hz)
  have hn:=listed_ne hl
  have hlen:=(zPO R (fun k hk=>(hl.2.1 k hk).2) d).1
  rw [hz]
  have HBK:=zF hbk
  clear hp1 hp2 h1 hb2 hb1 hbk
  go_wp2_with fail
  refine (last_num _ pb _ vd R (nums R) d HBK.out (zFH hl).1 (by omega) hn.1).mono ?_
  rintro e w3 ⟨rfl,hb3⟩
  have hb:=zA hb hb3
  rw [hlen]
  clear hlen hn hl
  go_wp2
  go_ret2
  exact ⟨⟨zLH R d,by rw [hz];rfl,fun _=>rfl⟩,hb⟩
 ·obtain rfl:=hp1 hz
  have hreg:zAC R=0→zLH R d=0:=fun h0=>by
   have hl:=zCY h0
   have h2:=zPO R (fun k hk=>(hl.2.1 k hk).2) d
   have hd:d ∉ nums R:=fun hd=>hz (by unfold zBK;rw [if_pos h0,if_pos hd])
   have:(zAM R d).length=0:=Classical.byContradiction fun h=>hd (h2.2.1 h)
   rw [← h2.1,this];rfl
  have HRG:=zF hreg
  clear hp1 hp2 h1 hkz hreg
  generalize hcc:zBK R d=c at *
  go_wp2
  go_ret2
  exact ⟨⟨0,by rw [hcc];rfl,fun h=>(HRG.out h).symm⟩,hb⟩
theorem copied_sheet (w:World) (x:Issue) (vi vd:Value) (h:IssueAt w vi vd x) (hi:x.items.length≤100000) (hdl:x.dims.length≤100000) :
  Calls prog 125 #[.agg #[.int .i64 x.d,.int .i64 x.l,.int .u8 x.k,vi,vd]] w fun e w'=>(∃ vi' vd',e = .returned (.agg #[.int .i64 x.d,.int .i64 x.l,.int .u8 x.k,vi',vd'])∧AnySl vi'∧AnySl vd')∧Below w.heap.size w w':=by
 obtain ⟨ai,ci,rfl,_⟩:=zD h.items
 obtain ⟨ad,cd,rfl,_⟩:=zD h.dims
 go_enter func125,ntmps125
 go_wp2
 have hb1:=zA (zB w (.cells #[.int .i64 x.d,.int .i64 x.l,.int .u8 x.k,.slice ai x.items.length ci,.slice ad x.dims.length cd] 107)) (zB _ (.cells #[.int .i64 0,.int .i64 0,.int .u8 0,.slice none 0 0,.slice none 0 0] 107))
 have L1:=(Lay.new w 107 #[.int .i64 x.d,.int .i64 x.l,.int .u8 x.k,.slice ai x.items.length ci,.slice ad x.dims.length cd]).alloc (.cells #[.int .i64 0,.int .i64 0,.int .u8 0,.slice none 0 0,.slice none 0 0] 107)
 have L2:=Lay.new (w.alloc (.cells #[.int .i64 x.d,.int .i64 x.l,.int .u8 x.k,.slice ai x.items.length ci,.slice ad x.dims.length cd] 107)) 107 #[.int .i64 0,.int .i64 0,.int .u8 0,.slice none 0 0,.slice none 0 0]
 rw [World.size_alloc] at L2
 have h1:=h.ext hb1
 clear h
 generalize (w.alloc _).alloc _=w1 at *
 have k3:=zG (show zJ w1 w.heap.size 3 (.slice ai x.items.length ci) from L1.cell 3 _ rfl)
 have k4:=zG (show zJ w1 w.heap.size 4 (.slice ad x.dims.length cd) from L1.cell 4 _ rfl)
 refine zK 7 (by kernel_rfl) (by kernel_rfl) ?_
 simp only [tk_]
 iterate 2 (apply gx_;focus (intro vs xq hd;(try simp [hq_] at hd);simp only [pf_];go_simp;first | exact ⟨br_,rfl⟩ | exact rfl))
 refine zL (fun v _=>AnySl v) (fun _ _ _ _ h=>h) ?_ ?_
 ·intro vs xq hd
  (try simp [hq_] at hd)
  simp only [pf_]
  go_simp
  refine (clone_item _ _ x.items (zI zBB (zE w1 xq) h1.items) hi).mono ?_
  rintro e w' ⟨u,rfl,hu,hb⟩
  exact ⟨u,rfl,hb,anySl_of hu.sl⟩
 iterate 2 (apply gx_;focus (intro vs xq hd;(try simp [hq_] at hd);simp only [pf_];go_simp;first | exact ⟨br_,rfl⟩ | exact rfl))
 refine zL (fun v _=>AnySl v) (fun _ _ _ _ h=>h) ?_ ?_
 ·intro vs xq hd
  (try simp [hq_] at hd)
  simp only [pf_]
  go_simp
  refine (clone_dim _ _ x.dims (zI zBY (zE w1 xq) h1.dims) hdl).mono ?_
  rintro e w' ⟨u,rfl,hu,hb⟩
  exact ⟨u,rfl,hb,anySl_of hu.sl⟩
 apply gx_;focus (intro vs xq hd;(try simp [hq_] at hd);simp only [pf_];go_simp;first | exact ⟨br_,rfl⟩ | exact rfl)
 refine zT rfl (fun vs xq hd=>?_)
 simp [zV,zAD,List.range,List.range.loop] at hd
 simp only [pf_]
 obtain ⟨e0,e1,⟨a2,n2,c2,e2⟩,e3,e4,⟨a5,n5,c5,e5⟩,e6⟩:=hd
 simp only [Nat.zero_add,Nat.reduceAdd] at e0 e1 e2 e3 e4 e5 e6 ⊢
 simp only [e0,e1,e2,e3,e4,e5,e6]
 have M1:=L1.ext (zE w1 xq)
 have M2:=L2.ext (zE w1 xq)
 have hb2:=zA hb1 (zE w1 xq)
 clear k3 k4 L1 L2 h1 e0 e1 e2 e3 e4 e5 e6 hb1
 generalize World.later w1 xq=wL at *
 have c0:=M1.cell 0 _ rfl
 have c1:=M1.cell 1 _ rfl
 have c2':=M1.cell 2 _ rfl
 have c3:=M1.cell 3 _ rfl
 have c4:=M1.cell 4 _ rfl
 have f3:=M1.frozen 3
 have f4:=M1.frozen 4
 have d0:=M2.cell 0 _ rfl
 have d1:=M2.cell 1 _ rfl
 have d2:=M2.cell 2 _ rfl
 have d3:=M2.cell 3 _ rfl
 have d4:=M2.cell 4 _ rfl
 have g0:=M2.frozen 0
 have g1:=M2.frozen 1
 have g2:=M2.frozen 2
 have g3:=M2.frozen 3
 have g4:=M2.frozen 4
 clear M1 M2
 go_wp2
 refine bodyPost_ret (v:=.agg #[.int .i64 x.d,.int .i64 x.l,.int .u8 x.k,.slice a2 n2 c2,.slice a5 n5 c5]) ?_ rfl ?_
 ·simp [results,results125,go_sem,d0,d1,d2,d3,d4]
 ·refine ⟨⟨_,_,rfl,⟨_,_,_,rfl⟩,⟨_,_,_,rfl⟩⟩,?_⟩
  exact zH (by omega) (zH (by omega) (zH (by omega) (zH (by omega) (zH (by omega) (zH (by omega) (zH (by omega) hb2))))))
theorem listed_small {R:List Issue} (h:zEM R) (x:Issue) (hx:x∈R) : x.items.length≤8∧x.dims.length≤4:=by
 obtain ⟨k,hk,rfl⟩:=List.getElem_of_mem hx
 obtain ⟨_,_,h1,h2,h3⟩:=((h.2.1 k hk).1 hk).1
 have:=h1.1
 by_cases e:R[k].k=1
 ·have:=(h2 e).1.2;have:=(h2 e).2;omega
 ·have:=h3 (by omega);omega
open Classical in
noncomputable def zFQ (R:List Issue) (d l:Int) : Int:=if zAC R=0 then (if zDB R d l≠none then 0 else 6) else zAC R
theorem at_sheet (w:World) (v:Value) (R:List Issue) (d l:Int) (h:RegArg w v R) :
  Calls prog 90 #[.agg #[v],.agg #[.int .i64 d,.int .i64 l]] w fun e w' =>
   (∃ x1 x2 x3 vi vd,e = .returned (.tuple #[.agg #[.int .i64 x1,.int .i64 x2,.int .u8 x3,vi,vd],.int .i64 (zFQ R d l)])∧AnySl vi∧AnySl vd∧(∀ x,zAC R=0→zDB R d l=some x→x3=x.k))∧Below w.heap.size w w':=by
 obtain ⟨hb1,B1⟩:=zAZ w #[v] 24
 have hb2:=zA hb1 (zA (zB _ (.cells #[.int .i64 d,.int .i64 l] 34)) (zB _ (.cells #[.int .i64 0,.int .i64 0,.int .u8 0,.slice none 0 0,.slice none 0 0] 107)))
 have h1:=h.ext hb2
 obtain ⟨a,cap,rfl,_⟩:=zD h.sl
 have L0:=((Lay.new w 24 #[.slice a R.length cap]).alloc (.cells #[.int .i64 d,.int .i64 l] 34)).alloc (.cells #[.int .i64 0,.int .i64 0,.int .u8 0,.slice none 0 0,.slice none 0 0] 107)
 have L1:=(Lay.new (w.alloc (.cells #[.slice a R.length cap] 24)) 34 #[.int .i64 d,.int .i64 l]).alloc (.cells #[.int .i64 0,.int .i64 0,.int .u8 0,.slice none 0 0,.slice none 0 0] 107)
 have L2:=Lay.new ((w.alloc (.cells #[.slice a R.length cap] 24)).alloc (.cells #[.int .i64 d,.int .i64 l] 34)) 107 #[.int .i64 0,.int .i64 0,.int .u8 0,.slice none 0 0,.slice none 0 0]
 simp only [World.size_alloc] at L1 L2
 have c0:=L0.cell 0 _ rfl
 clear B1 h
 go_enter func90,ntmps90
 go_wp2_with fail
 clear c0
 generalize ((w.alloc _).alloc _).alloc _=w1 at *
 refine (zPK _ _ R h1.sl h1.cap h1.looks).mono ?_
 rintro e w2 ⟨⟨p,rfl,hp1,hp2⟩,hb3⟩
 have hb:=zA hb2 hb3
 have L1:=L1.ext hb3
 have L2:=L2.ext hb3
 by_cases hz:zAC R=0
 case neg =>
  obtain rfl:=hp1 hz
  have e0:zFQ R d l=zAC R:=by unfold zFQ;rw [if_neg hz]
  have E0:=zF e0
  have HZ:=zF hz
  have M2:=L2
  have d0:=M2.cell 0 _ rfl
  have d1:=M2.cell 1 _ rfl
  have d2:=M2.cell 2 _ rfl
  have d3:=M2.cell 3 _ rfl
  have d4:=M2.cell 4 _ rfl
  have g0:=M2.frozen 0
  have g1:=M2.frozen 1
  have g2:=M2.frozen 2
  have g3:=M2.frozen 3
  have g4:=M2.frozen 4
  have gl:=M2.lt
  clear hp1 hp2 h1 e0 L0 L1 L2 M2
  generalize hcc:zAC R=c at *
  go_wp2
  refine bodyPost_ret (v:=.tuple #[.agg #[.int .i64 0,.int .i64 0,.int .u8 0,.slice none 0 0,.slice none 0 0],.int .i64 c]) ?_ rfl ?_
  ·simp [results,results90,go_sem,d0,d1,d2,d3,d4]
  ·exact ⟨⟨0,0,0,.slice none 0 0,.slice none 0 0,by rw [E0.out],⟨_,_,_,rfl⟩,⟨_,_,_,rfl⟩,fun _ h=>absurd (hcc.symm.trans h) HZ.out⟩,zH (by omega) (zH (by omega) (zH (by omega) (zH (by omega) (zH (by omega) hb))))⟩
 obtain ⟨pb,vd,rfl,hbk⟩:=hp2 hz
 have hl:=zCY hz
 have e0:zFQ R d l=if zDB R d l≠none then 0 else 6:=by unfold zFQ;rw [if_pos hz]
 have E0:=zF e0
 have HBK:=zF hbk
 have HL:=zF hl
 have hne:=listed_ne hl
 have x0:=L1.cell 0 _ rfl
 have x1:=L1.cell 1 _ rfl
 rw [hz]
 clear hp1 hp2 h1 e0 L0 hbk hl
 go_wp2_with fail
 refine (find_iss _ pb _ vd R (nums R) d l HBK.out (zFH HL.out).1 (by omega) hne.1).mono ?_
 clear x0 x1
 intro e w3 hf
 obtain ⟨hb4,hf⟩:=hf
 have M2:=L2.ext hb4
 have hb:=zA hb hb4
 rcases hf with ⟨x,vi,vs,hfr,rfl,hia⟩ | ⟨hfr,rfl⟩
 ·obtain ⟨ai,ci,rfl,_⟩:=zD hia.items
  obtain ⟨al,cl,rfl,_⟩:=zD hia.dims
  have hsm:=listed_small HL.out x (by unfold zDB at hfr;exact List.mem_of_find?_eq_some hfr)
  have e1:zFQ R d l=0:=by rw [E0.out,if_pos (by rw [hfr];simp)]
  have HIA:=zF hia
  have HM2:=zF M2
  clear hia M2 L1 L2
  go_wp2_with fail
  refine (copied_sheet _ x _ _ (HIA.out.ext (zB _ _)) (by omega) (by omega)).mono ?_
  rintro e w4 ⟨⟨vi',vs',rfl,⟨a1,n1,c1,rfl⟩,⟨a2,n2,c2,rfl⟩⟩,hb5⟩
  have hb:=zA hb (zA (zB _ _) hb5)
  have M2:=HM2.out.ext (zA (zB _ _) hb5)
  have d0:=M2.cell 0 _ rfl
  have d1:=M2.cell 1 _ rfl
  have d2:=M2.cell 2 _ rfl
  have d3:=M2.cell 3 _ rfl
  have d4:=M2.cell 4 _ rfl
  have g0:=M2.frozen 0
  have g1:=M2.frozen 1
  have g2:=M2.frozen 2
  have g3:=M2.frozen 3
  have g4:=M2.frozen 4
  have gl:=M2.lt
  clear M2
  go_wp2
  refine bodyPost_ret (v:=.tuple #[.agg #[.int .i64 x.d,.int .i64 x.l,.int .u8 x.k,.slice a1 n1 c1,.slice a2 n2 c2],.int .i64 0]) ?_ rfl ?_
  ·simp [results,results90,go_sem,d0,d1,d2,d3,d4]
  ·exact ⟨⟨_,_,_,_,_,by rw [e1],⟨_,_,_,rfl⟩,⟨_,_,_,rfl⟩,fun y _ h=>by rw [hfr] at h;cases h;rfl⟩,zH (by omega) (zH (by omega) (zH (by omega) (zH (by omega) (zH (by omega) hb))))⟩
 ·have e1:zFQ R d l=6:=by rw [E0.out,if_neg (by rw [hfr];simp)]
  have d0:=M2.cell 0 _ rfl
  have d1:=M2.cell 1 _ rfl
  have d2:=M2.cell 2 _ rfl
  have d3:=M2.cell 3 _ rfl
  have d4:=M2.cell 4 _ rfl
  have g0:=M2.frozen 0
  have g1:=M2.frozen 1
  have g2:=M2.frozen 2
  have g3:=M2.frozen 3
  have g4:=M2.frozen 4
  have gl:=M2.lt
  clear M2 L1 L2
  go_wp2
  refine bodyPost_ret (v:=.tuple #[.agg #[.int .i64 0,.int .i64 0,.int .u8 0,.slice none 0 0,.slice none 0 0],.int .i64 6]) ?_ rfl ?_
  ·simp [results,results90,go_sem,d0,d1,d2,d3,d4,gl]
  ·exact ⟨⟨0,0,0,.slice none 0 0,.slice none 0 0,by rw [e1],⟨_,_,_,rfl⟩,⟨_,_,_,rfl⟩,fun y _ h=>by rw [hfr] at h;cases h⟩,Below.alloc (zH (by omega) (zH (by omega) (zH (by omega) (zH (by omega) (zH (by omega) hb))))) (by simpa using hb.size) _⟩
end
section
def zCF (hs:List Heap) (n l:Int) (u:Bool) : Nat→Int
 | 0=>-1
 | k+1=>if u=true∧(∃ h:k < hs.length,hs[k].d=n∧hs[k].l=l - 1) then (k:Int) else zCF hs n l u k
theorem zJE (hs:List Heap) (n l:Int) (u:Bool) (k:Nat) : -1≤zCF hs n l u k∧zCF hs n l u k < k:=by
 induction k with
 | zero=>simp [zCF]
 | succ k ih =>
   simp only [zCF]
   split <;> omega
theorem heapTo_at {hs:List Heap} {n l:Int} {u:Bool} {k j:Nat} (h:zCF hs n l u k=j) : u=true∧∃ hj:j < hs.length,hs[j].d=n∧hs[j].l=l - 1:=by
 induction k with
 | zero=>simp [zCF] at h
 | succ k ih =>
   simp only [zCF] at h
   split at h
   ·rename_i hc
    obtain rfl:k=j:=by omega
    exact hc
   ·exact ih h
def zHW (N:List Note) (num:Int) : Bool:=N.any (fun x=>x.num == num && x.use)
def zAB (b:Built) (S:List Int) (m n:Int) : Has :=
 ⟨zEJ b.ns.reg (zQ S m b.ns.notes) b.of n,zQ S m b.ns.notes n,zCF b.hs n (zQ S m b.ns.notes n) (zHW b.ns.notes (zFO S m b.ns.notes n)) b.hs.length⟩
theorem zFP (b:Built) (S:List Int) (m n:Int) : -1≤(zAB b S m n).h∧(zAB b S m n).h < b.hs.length:=zJE _ _ _ _ _
def zKM (b:Built) (S:List Int) (k:Nat) (m:Int) : Int:=if (zAB b S m ((b.hs[k]?).elim 0 (·.d))).h=k then (zAB b S m ((b.hs[k]?).elim 0 (·.d))).c else 0
def zES (b:Built) (S:List Int) (k:Nat) : Nat→Int
 | 0=>0
 | i+1=>zES b S k i+(b.ms[i]?).elim 0 (zKM b S k)
def zLZ (b:Built) (S:List Int) (r:Report) : Int:=if 0≤(zAB b S r.m r.d).h then zES b S (zAB b S r.m r.d).h.toNat (b.ms.idxOf r.m) else 0
noncomputable def siteL (b:Built) (S:List Int) : Option (List Span):=zKS (fun r=>zAB b S r.m r.d) (zLZ b S) (b.hs.map fun h=>⟨h.lo,h.hi⟩) b.rs
def zNY (b:Built) (S:List Int) (k n:Int) (r:Report) : Prop :=
 (zAB b S r.m r.d).h=k∧¬ zJO (zAB b S r.m r.d) r.k (zDL (zAB b S r.m r.d) r.l (if k < 0 then 0 else zPD (zLZ b S r) (zAB b S r.m r.d).c n))
noncomputable def zGB (b:Built) (S:List Int) (k:Nat) : Option Span :=
 (b.hs[k]?).elim none fun h=>hull (fun n=>∀ r∈b.rs,¬ zNY b S k n r) h.lo (h.hi - h.lo+1).toNat
def zII (b:Built) (S:List Int) : Prop:=(∀ k,k < b.hs.length→zGB b S k≠none)∧∀ r∈b.rs,¬ zNY b S (-1) 0 r
theorem zW {b:Built} (h:zM b=0) : zX b.ns.reg b.ns.notes=0∧zIL b:=by
 unfold zM at h
 by_cases h1:zX b.ns.reg b.ns.notes=0
 ·refine ⟨h1,?_⟩
  rw [if_neg (by simp [h1])] at h
  by_cases h2:zIL b
  ·exact h2
  ·rw [if_neg h2] at h;cases h
 ·rw [if_pos h1] at h
  exact absurd h h1
theorem zAS {R:List Issue} {N:List Note} (h:zX R N=0) : zAC R=0∧zDS R N:=by
 unfold zX at h
 by_cases h1:zAC R=0
 ·refine ⟨h1,?_⟩
  rw [if_neg (by simp [h1])] at h
  by_cases h2:zDS R N
  ·exact h2
  ·rw [if_neg h2] at h;cases h
 ·rw [if_pos h1] at h
  exact absurd h h1
theorem zAR {R:List Issue} (h:zAC R=0) : zEM R:=by
 apply Classical.byContradiction
 intro hn
 rw [zCZ hn] at h
 cases h
theorem zKD {b:Built} (h:zM b=0) : b.of∈nums b.ns.reg:=by
 obtain ⟨h1,h2⟩:=zW h
 have hL:=zAR (zAS h1).1
 have:=zPO b.ns.reg (fun k hk=>(hL.2.1 k hk).2) b.of
 exact this.2.1 (fun h0=>h2.1 (by rw [← this.1,h0];rfl))
theorem zGZ {b:Built} (h:zM b=0) (S:List Int) (m n:Int) : 0≤(zAB b S m n).c∧(zAB b S m n).c≤16777216000000 :=
 cnt_bd (zAS (zW h).1).1 _ (zKD h) n
theorem take_bd {b:Built} (h:zM b=0) (S:List Int) (k:Nat) (m:Int) : 0≤zKM b S k m∧zKM b S k m≤16777216000000:=by
 unfold zKM
 split
 ·exact zGZ h S m _
 ·omega
theorem bef_bd {b:Built} (h:zM b=0) (S:List Int) (k i:Nat) : 0≤zES b S k i∧zES b S k i≤i*16777216000000:=by
 induction i with
 | zero=>simp [zES]
 | succ i ih =>
   simp only [zES]
   cases hm:b.ms[i]? with
   | none=>simp only [Option.elim];omega
   | some m =>
     have:=take_bd h S k m
     simp only [Option.elim]
     omega
theorem befR_bd {b:Built} (h:zM b=0) (S:List Int) {r:Report} (hr:r.m∈b.ms) : 0≤zLZ b S r∧zLZ b S r≤12*16777216000000:=by
 unfold zLZ
 split
 ·have h1:=bef_bd h S (zAB b S r.m r.d).h.toNat (b.ms.idxOf r.m)
  have h2:=List.idxOf_lt_length_of_mem hr
  have h3:=(zW h).2.2.1
  omega
 ·omega
theorem zEN {b:Built} (h:zM b=0) {r:Report} (hr:r∈b.rs) : zDF b.ns.reg b.ms r:=by
 obtain ⟨k,hk,rfl⟩:=List.getElem_of_mem hr
 exact ((zW h).2.2.2.2.2.2.2 k hk hk).1
theorem zDP {b:Built} (h:zM b=0) {k:Nat} (hk:k < b.hs.length) : 0≤b.hs[k].lo∧b.hs[k].lo≤b.hs[k].hi∧b.hs[k].hi≤200:=by
 have:=(zW h).2.2.2.2.2.2.1 k hk hk
 obtain ⟨_,_,h1,h2,_⟩:=this
 exact ⟨h1.1,h2.1,h2.2⟩
theorem cut_iff {b:Built} (h:zM b=0) (S:List Int) {k:Nat} {n:Int} (hn:0≤n∧n≤200) : NumLeft (fun r=>zAB b S r.m r.d) (zLZ b S) b.rs k n↔∀ r∈b.rs,¬ zNY b S k n r:=by
 have key:∀ r∈b.rs,(zAB b S r.m r.d).h=k→((cutOf (fun r=>zAB b S r.m r.d) (zLZ b S) r).has n↔zJO (zAB b S r.m r.d) r.k (zDL (zAB b S r.m r.d) r.l (if ((k:Nat) : Int) < 0 then 0 else zPD (zLZ b S r) (zAB b S r.m r.d).c n))):=fun r hr hh=>by
  have h1:=zGZ h S r.m r.d
  have hv:=zEN h hr
  have h2:=befR_bd h S hv.2.2.1
  rw [if_neg (by omega)]
  unfold cutOf
  exact (allowed_iff h1.1 (by unfold most;omega) h2.1 (by unfold most;omega) hv.2.1 hn (by omega)).symm
 constructor
 ·rintro hl r hr ⟨hh,hf⟩
  exact hf ((key r hr hh).1 (hl r hr hh))
 ·intro hf r hr hh
  exact (key r hr hh).2 (Classical.byContradiction fun hn=>hf r hr ⟨hh,hn⟩)
theorem zHY (b:Built) : (b.hs.map fun h=>(⟨h.lo,h.hi⟩ : Span)).length=b.hs.length:=by simp
theorem zRJ {b:Built} (h:zM b=0) {S:List Int} {L:List Span} (hL:siteL b S=some L) : zII b S∧L.length=b.hs.length∧∀ k (hk:k < L.length),zGB b S k=some L[k]∧L[k].lo≤L[k].hi∧∀ hk':k < b.hs.length,b.hs[k].lo≤L[k].lo∧L[k].hi≤b.hs[k].hi:=by
 obtain ⟨h1,hl,h2⟩:=leftGo_some (fun r=>zAB b S r.m r.d) (zLZ b S) (fun r _=>by rw [zHY];exact (zFP b S r.m r.d).2) (fun k hk=>by
  rw [zHY] at hk
  rw [List.getElem_map]
  exact (zDP h hk).2.1) hL
 rw [zHY] at hl
 have hc:∀ k (hk:k < L.length),zGB b S k=some L[k]∧L[k].lo≤L[k].hi∧∀ hk':k < b.hs.length,b.hs[k].lo≤L[k].lo∧L[k].hi≤b.hs[k].hi:=fun k hk=>by
  have hk':k < b.hs.length:=by omega
  obtain ⟨h3,h4⟩:=h2 k (by rw [zHY];exact hk')
  have hv:=zDP h hk'
  have hin:∀ n,L[k].has n↔(b.hs[k].lo≤n∧n≤b.hs[k].hi)∧∀ r∈b.rs,¬ zNY b S k n r:=fun n=>by
   rw [h4 n,List.getElem_map]
   unfold Span.has
   constructor
   ·rintro ⟨a1,a2⟩
    exact ⟨a1,(cut_iff h S ⟨Int.le_trans hv.1 a1.1,Int.le_trans a1.2 hv.2.2⟩).1 a2⟩
   ·rintro ⟨a1,a2⟩
    exact ⟨a1,(cut_iff h S ⟨Int.le_trans hv.1 a1.1,Int.le_trans a1.2 hv.2.2⟩).2 a2⟩
  refine ⟨?_,h3,fun _=>?_⟩
  ·unfold zGB
   rw [List.getElem?_eq_getElem hk']
   exact hull_eq hv.2.1 h3 hin
  ·have a1:=(hin L[k].lo).1 ⟨Int.le_refl _,h3⟩
   have a2:=(hin L[k].hi).1 ⟨h3,Int.le_refl _⟩
   omega
 refine ⟨⟨fun k hk=>?_,fun r hr=>?_⟩,hl,hc⟩
 ·rw [(hc k (by omega)).1];simp
 ·rintro ⟨hh,hf⟩
  have hv:=zEN h hr
  rw [if_pos (by decide)] at hf
  exact hf ((zOV (bef:=zLZ b S r) (zGZ h S r.m r.d).1 hv.2.1 (by omega)).2 (h1 r hr (by omega)))
theorem left_none {b:Built} (h:zM b=0) {S:List Int} (hL:siteL b S=none) : ¬ zII b S:=by
 rintro ⟨g1,g2⟩
 rcases leftGo_none (fun r=>zAB b S r.m r.d) (zLZ b S) (fun r _=>by rw [zHY];exact (zFP b S r.m r.d).2) hL with ⟨r,hr,hh,hc⟩ | ⟨k,hk,hn⟩
 ·have hv:=zEN h hr
  have h1:=(zFP b S r.m r.d).1
  have hh':(zAB b S r.m r.d).h < 0:=hh
  refine g2 r hr ⟨by omega,fun hf=>?_⟩
  rw [if_pos (by decide)] at hf
  exact (zOV (bef:=zLZ b S r) (zGZ h S r.m r.d).1 hv.2.1 hh').1 hf hc
 ·rw [zHY] at hk
  apply g1 k hk
  unfold zGB
  rw [List.getElem?_eq_getElem hk]
  refine hull_no fun n ⟨a1,a2⟩=>hn n ⟨?_,?_⟩
  ·rw [List.getElem_map];exact a1
  ·have hv:=zDP h hk
   exact (cut_iff h S (by omega)).2 a2
end
section
open Go.RowKit
attribute [local go_sem] zAN Oper.grows Oper.growUpon
theorem first_there {R:List Issue} (h:∀ k,k < R.length→zIC R k) : ∀ (k:Nat) (hk:k < R.length),zDB R R[k].d 1≠none:=by
 intro k
 induction k with
 | zero =>
   intro hk hf
   have h1:=(h 0 hk hk).1 rfl
   unfold zDB at hf
   rw [List.find?_eq_none] at hf
   exact hf _ (List.getElem_mem hk) (by unfold zEZ;simp [h1])
 | succ k ih =>
   intro hk hf
   rcases (h (k+1) hk hk).2 (by omega) with ⟨_,h1⟩ | ⟨h1,_⟩
   ·unfold zDB at hf
    rw [List.find?_eq_none] at hf
    exact hf _ (List.getElem_mem hk) (by unfold zEZ;simp [h1])
   ·simp only [Nat.add_sub_cancel] at h1
    rw [← h1] at hf
    exact ih (by omega) hf
theorem zIN {R:List Issue} {N:List Note} (h:zX R N=0) (S:List Int) (m:Int) : ∀ d∈nums R,∃ x,zDB R d (zQ S m N d)=some x:=by
 intro d hd
 have hv:=zAS h
 have hL:=zAR hv.1
 obtain ⟨y,hy,rfl⟩:=numsTo_mem R R.length d hd
 obtain ⟨k,hk,rfl⟩:=List.getElem_of_mem hy
 apply Option.ne_none_iff_exists'.1
 unfold zQ
 cases hn:zGX S m N R[k].d with
 | none=>exact first_there (fun j hj=>(hL.2.1 j hj).2) k hk
 | some x =>
   obtain ⟨hx,hxd⟩:=noteTo_mem hn
   obtain ⟨i,hi,rfl⟩:=List.getElem_of_mem hx
   have hok:=(hv.2.2.1 i hi).2.1
   have hd1:=((hL.2.1 k hk).1 hk).1.1
   unfold In at hd1
   rcases hok with ⟨h0,_⟩ | ⟨_,h1⟩
   ·omega
   ·rw [hxd] at h1
    exact h1
theorem dep_of {R:List Issue} (h:zAC R=0) {d:Int} (hd:d∈nums R) : dep R ((nums R).length+1) d < (nums R).length+1∧dep R ((nums R).length+1) d≤6:=by
 unfold zAC at h
 split at h
 ·split at h
  ·cases h
  ·rename_i h1
   split at h
   ·cases h
   ·rename_i h2
    have hd1:dep R ((nums R).length+1) d≤(nums R).length:=Int.not_lt.1 fun hh=>h1 ⟨d,hd,hh⟩
    have hd2:dep R ((nums R).length+1) d≤6:=Int.not_lt.1 fun hh=>h2 ⟨d,hd,hh⟩
    omega
 ·cases h
def zNW (x:Item) : List Value:=[.int .i64 x.d,.int .i64 x.c]
def zCV (D:List Int) (c:Int→Int) (k:Nat) : List Item:=(D.take k).filterMap (fun n=>if 0 < c n then some ⟨n,c n⟩ else none)
theorem posTo_zero (D:List Int) (c:Int→Int) : zCV D c 0=[]:=by simp [zCV]
theorem posTo_yes {D:List Int} {c:Int→Int} {k:Nat} (hk:k < D.length) (h:0 < c D[k]) : zCV D c (k+1)=zCV D c k++[⟨D[k],c D[k]⟩]:=by
 unfold zCV
 rw [List.take_succ_eq_append_getElem hk,List.filterMap_append]
 simp [h]
theorem posTo_no {D:List Int} {c:Int→Int} {k:Nat} (hk:k < D.length) (h:¬ 0 < c D[k]) : zCV D c (k+1)=zCV D c k:=by
 unfold zCV
 rw [List.take_succ_eq_append_getElem hk,List.filterMap_append]
 simp [h]
theorem posTo_len (D:List Int) (c:Int→Int) (k:Nat) : (zCV D c k).length≤k:=by
 unfold zCV
 refine Nat.le_trans (List.length_filterMap_le _ _) ?_
 simp
 omega
theorem zMJ {D:List Int} {c:Int→Int} {k:Nat} {x:Item} (h:x∈zCV D c k) : x.d∈D∧x.c=c x.d:=by
 unfold zCV at h
 obtain ⟨n,hn,hx⟩:=List.mem_filterMap.1 h
 split at hx
 ·cases hx
  exact ⟨List.mem_of_mem_take hn,rfl⟩
 ·cases hx
theorem zGO {α:Type} {F:World→List Value→α→Prop} {enc:α→List Value} {sz:Nat} {w:World} : ∀ (xs:List α),(∀ x∈xs,(enc x).length=sz∧∀ w,F w (enc x) x)→zDW [] F sz w (xs.flatMap enc) xs:=by
 intro xs h
 refine ⟨xs.map enc,by simp [List.flatMap],by simp,fun k h1 h2=>?_⟩
 have:=h _ (List.getElem_mem h1)
 rw [List.getElem_map]
 exact ⟨this.1,fun w' _=>this.2 w'⟩
def zEQ (R:List Issue) (lt:Int→Int) (d:Int) : List Item:=zCV (nums R) (zEJ R lt d) (nums R).length
theorem partsAll02 (w:World) (vr vl:Value) (R:List Issue) (lt:Int→Int) (d:Int) (hr:Sl zAU 5 w vr R) (hl:Sl zAJ 1 w vl ((nums R).map lt)) (hc:zAC R=0) (hall:∀ d∈nums R,∃ x,zDB R d (lt d)=some x) (hd:d∈nums R) :
  Calls prog 128 #[.agg #[vr],vl,.int .i64 d] w fun e w'=>∃ u,e = .returned u∧OnT [205] (fun w'=>Sl zCP 2 w' u (zEQ R lt d)) w'∧Below w.heap.size w w':=by
 obtain ⟨i0,hif,iz0,iz1,iz2⟩:=info_parts zDM
 obtain ⟨j0,hjf,jz0,jz1,jz2⟩:=info_parts zPR
 obtain ⟨hb1,B1⟩:=zAZ w #[vr] 24
 have c0:=B1 0 vr rfl
 clear B1
 obtain ⟨ar,capr,rfl,hmr⟩:=zD hr
 obtain ⟨al,capl,rfl,hml⟩:=zD hl
 simp only [List.length_map] at hl hml ⊢
 have hL:=zF (zAR hc)
 have HC:=zF hc
 have HD:=zF hd
 have HALL:=zF hall
 have hR60:R.length≤60:=by have:=hL.out.1.2;omega
 have hI64:Hid (∀ n∈nums R,I64 n):=nums_I64 hr
 have hr1:=zI zP hb1 hr
 have hl1:=zI zN hb1 hl
 have C0:=zF c0
 clear hr hl hc hd hall
 unfold zJ at c0
 go_enter func128,ntmps128
 go_wp2_with fail
 clear c0
 generalize w.alloc _=w1 at *
 refine (zFK _ _ R hr1 (by omega)).mono ?_
 rintro e w2 ⟨vd,rfl,hvd,hb2⟩
 obtain ⟨ad,capd,rfl,hmd⟩:=zD hvd
 have hr2:=zI zP hb2 hr1
 have hl2:=zI zN hb2 hl1
 have C2:=zF (zC hb2 C0.out)
 have hbb:=zA hb1 hb2
 clear hr1 hl1 hb1 hb2 C0
 have hD20:(nums R).length≤20:=hL.out.2.2.2
 have hdep:=zF (dep_of HC.out HD.out)
 have hCNT:Hid (∀ n,tot n (zCS R lt ((nums R).length+1) d 1)=zEJ R lt d n):=fun _=>rfl
 have hbd:=zF (fun n=>cnt_bd HC.out lt HD.out n)
 have hPL:Hid (zEQ R lt d=zCV (nums R) (zEJ R lt d) (nums R).length):=rfl
 have hz0:=zF (fun N hN=>row_zero R (fun _=>0) (fun _=>rfl) N hN)
 have hp6:(1:Int)*160 ^ 6≤16777216000000:=by decide
 have HP6:=zF hp6
 clear hp6
 generalize hN:(nums R).length=N at *
 have HN:=zF hN
 clear hN
 go_wp2_with (at_make;refine wpList_make_full _ rfl _ _ 28 rfl w2.heap.size 3 i0 (.int .i64 0) 1 underlying28 hif iz0 iz1 .i64 .i64 _ _ N rfl rfl rfl rfl (by rw [iz2];omega) (by unfold maxLen;omega) (Nat.le_refl _) ?_;intro w3 hown0 hg0;have hb3:Below w2.heap.size w2 w3:=(Below.refl _ w2).grown hg0 (Nat.le_refl _) (fun k e=>by cases e);have c3:=zC hb3 C2.out;unfold zJ at c3)
 have hrow0:w3.ownsRow w2.heap.size 3 1 (.slice (some ⟨w2.heap.size,0,none⟩) N N) N (row R (fun _=>0)):=by
  rw [← hz0.out N rfl]
  exact hown0
 clear hown0 hg0
 obtain ⟨g,hg⟩ : ∃ g:Int→Int,g=fun _=>0:=⟨_,rfl⟩
 have hg0:∀ n,g n=0:=fun n=>by rw [hg]
 rw [← hg] at hrow0
 clear hg
 have hg9:∀ n,0≤g n∧g n+tot n (zCS R lt (N+1) d 1)≤4611686018427387904:=fun n=>by
  have h3:tot n (zCS R lt (N+1) d 1)≤16777216000000:=by rw [hCNT.out n];exact (hbd.out n).2
  generalize tot n (zCS R lt (N+1) d 1)=z at *
  have:=hg0 n
  clear hCNT hbd hPL
  omega
 have hcall:=zF (parts02 R lt hL.out HALL.out w2 _ _ hr2 hl2 w2.heap.size N N HN.out (N+1) 6 w3 d 1 g hb3 HD.out hdep.out.1 hdep.out.2 (Int.le_refl 1) HP6.out hg9 hrow0)
 clear hrow0
 refine hcall.out.mono ?_
 rintro e w4 ⟨rfl,hown4,hb4,_⟩
 have e1:(fun n=>g n+tot n (zCS R lt (N+1) d 1))=zEJ R lt d:=funext fun n=>by rw [hg0 n,hCNT.out n,Int.zero_add]
 rw [e1] at hown4
 have hcs:Hid (Sl zAJ 1 w4 (.slice (some ⟨w2.heap.size,0,none⟩) N N) ((nums R).map (zEJ R lt d))):=by
  have h:=zBG (w:=w4) (base:=w2.heap.size) (v:=.slice (some ⟨w2.heap.size,0,none⟩) N N) (xs:=(nums R).map (zEJ R lt d))
  rw [List.length_map,HN.out,List.map_map] at h
  refine h hown4 (fun x hx=>?_)
  obtain ⟨n,_,rfl⟩:=List.mem_map.1 hx
  have:=hbd.out n
  unfold I64
  omega
 have hvd4:=zF (zI zN hb4 hvd)
 have HBB:=zF (zA hbb hb4)
 have hI:Hid (∀ x∈zCV (nums R) (zEJ R lt d) N,I64 x.d∧I64 x.c):=fun x hx=>by
  obtain ⟨h1,h2⟩:=zMJ hx
  refine ⟨hI64.out _ h1,?_⟩
  have:=hbd.out x.d
  rw [h2]
  unfold I64
  omega
 clear hvd e1 hown4 hb4 hbb hr2 hl2 hg0 hg9 hcall hCNT hbd hdep hz0 C2 c3 hb3
 generalize zEJ R lt d=c at *
 generalize nums R=D at *
 obtain rfl:=HN.out
 go_wp2
 go_loopw [9,10] (fun q i wr=>∃ k:Nat,i = .int .i64 k∧k≤D.length∧wr.ownsRow w4.heap.size 205 2 q (zCV D c k).length ((zCV D c k).flatMap zNW)∧Below w4.heap.size w4 wr) (fun _ i _=>D.length - (intOf i).toNat)
 case atStart=>exact ⟨0,rfl,by omega,by rw [posTo_zero];exact World.ownsRow_nil _ _ _ _,br_⟩
 case round =>
  obtain ⟨k,rfl,hk,hown,hb⟩:=hrel
  have HOWN:=zF hown
  have HB:=zF hb
  clear hown hb
  have hle:=posTo_len D c k
  by_cases hlt:k < D.length
  ·obtain ⟨b1,o1,rfl,p0,_⟩:=(zZ hvd4.out).2 k hlt
   obtain ⟨b2,o2,hq2,p1,_⟩:=(zZ hcs.out).2 k (by rw [List.length_map];exact hlt)
   cases hq2
   rw [List.getElem_map] at p1
   have hyes:Hid (0 < c D[k]→zCV D c (k+1)=zCV D c k++[⟨D[k],c D[k]⟩]):=fun h=>posTo_yes hlt h
   have hno:Hid (¬ 0 < c D[k]→zCV D c (k+1)=zCV D c k):=fun h=>posTo_no hlt h
   have HP:=zF (And.intro p0 p1)
   replace p1:=zC HB.out p1
   unfold zJ at p1
   rw [Nat.mul_one,Nat.zero_add] at p1
   clear p0
   generalize D[k]=x at *
   generalize c x=y at *
   by_cases hy:0 < y
   ·have hnew:=zF (hyes.out hy)
    clear hyes hno
    go_wp2
    refine zBI 12 11 [10] (fun a b=>a.grownBy b u9.ownBlock) (fun b=>wr.grownBy b u9.ownBlock) (fun _ _ hb h=>zCJ hb h) (zAX _ _ _ rfl rfl rfl rfl)
     (fun b=>b.ownsRow w4.heap.size 205 2 u9 (zCV D c k).length ((zCV D c k).flatMap zNW)∧w4.heap.size≤b.heap.size) (fun _ _ hb h=>⟨zAA hb h.1,Nat.le_trans h.2 hb.size⟩) ⟨zAA ⟨rfl,rfl,rfl,Nat.le_refl _,fun _ _=>rfl⟩ HOWN.out,HB.out.size⟩ (by kernel_rfl) (by kernel_rfl) ?_
    simp only [tk_]
    apply gw_ (by rfl)
    ·intro vs w2 hw hd
     (try simp [hq_] at hd)
     simp only [pf_]
     go_simp
     exact ⟨br_,rfl⟩
    apply gw_ (by rfl)
    ·intro vs w2 hw hd
     (try simp [hq_] at hd)
     simp only [pf_]
     go_simp
     exact ⟨br_,rfl⟩
    apply gw_ (by rfl)
    ·intro vs w2 hw hd
     (try simp [hq_] at hd)
     simp only [pf_]
     go_simp
     exact ⟨br_,rfl⟩
    apply gw_ (by rfl)
    ·intro vs w2 hw hd
     (try simp [hq_] at hd)
     simp only [pf_]
     go_simp
     exact ⟨br_,rfl⟩
    apply gw_ (by rfl)
    ·intro vs w2 hw hd
     (try simp [hq_] at hd)
     have hB2:=zAI HOWN.out hw HB.out (Nat.le_refl _);have k0:=zC hB2 HP.out.1;unfold zJ at k0;rw [Nat.mul_one] at k0
     simp only [pf_]
     go_simp
     exact ⟨br_,rfl⟩
    apply gw_ (by rfl)
    ·intro vs w2 hw hd
     (try simp [hq_] at hd)
     simp only [pf_]
     go_simp
     exact ⟨br_,rfl⟩
    apply gw_ (by rfl)
    ·intro vs w2 hw hd
     (try simp [hq_] at hd)
     simp only [pf_]
     go_simp
     exact ⟨br_,rfl⟩
    apply gw_ (by rfl)
    ·intro vs w2 hw hd
     (try simp [hq_] at hd)
     simp only [pf_]
     go_simp
     exact ⟨br_,rfl⟩
    apply gw_ (by rfl)
    ·intro vs w2 hw hd
     (try simp [hq_] at hd)
     have hB2:=zAI HOWN.out hw HB.out (Nat.le_refl _);have k0:=zC hB2 HP.out.2;unfold zJ at k0;rw [Nat.mul_one,Nat.zero_add] at k0
     simp only [pf_]
     go_simp
     exact ⟨br_,rfl⟩
    apply gw_ (by rfl)
    ·intro vs w2 hw hd
     (try simp [hq_] at hd)
     simp only [pf_]
     go_simp
     exact ⟨br_,rfl⟩
    refine zCW (OneV [.int .i64 x,.int .i64 y]) (zNT _) (by rfl) (.inl (by rfl)) ?_ ?_
    ·intro vs w2 hw hd
     (try simp [hq_] at hd)
     simp only [pf_]
     go_simp
     exact ⟨zB _ _,oneV_new [.int .i64 x,.int .i64 y] _ _⟩
    refine zDJ (fun v w'=>Hid (w'.ownsRow w4.heap.size 205 2 v ((zCV D c k).length+1) ((zCV D c k).flatMap zNW++[.int .i64 x,.int .i64 y]))) (fun _ _ _ hb h=>zF (zAA hb h.out)) (by rfl) ?_ ?_
    ·intro vs w2 hw hi hd
     (try simp [hq_] at hd)
     simp only [pf_]
     obtain ⟨e0,bb,e5,hbb⟩:=hd
     refine zBQ (.tmp 32) (.tmp 42) 104 (by rfl) w4.heap.size 205 j0 _ 2 16 underlying104 hjf jz0 jz1 jz2 rfl (by decide) u9 _ _ (by exact e0) hi.1 (vs 10) ⟨bb,0,none⟩ 1 1 e5 [.int .i64 x,.int .i64 y] (by rfl) rfl (fun j u hj=>by
      rw [zBP];exact hbb j u hj) (fun u hu=>by simp at hu;rcases hu with rfl | rfl <;> rfl) (by unfold maxLen;omega) (by omega) hi.2 (fun v' w' h1 h2=>⟨zAH hw h2,h2,h1⟩)
    refine zDI rfl (fun vs w7 hw hd=>?_)
    simp [zV,zAD,List.range,List.range.loop,List.filter_cons,List.filter_nil] at hd
    simp only [pf_]
    obtain ⟨e0,e1,e2,e3,e4,e5,e6,e7,e8,e9,h11⟩:=hd
    have hb7:=zF (zAI HOWN.out hw HB.out (Nat.le_refl _))
    simp only [Nat.zero_add,Nat.reduceAdd] at e0 e1 e2 e3 e4 e5 e6 e7 e8 e9 ⊢
    simp only [e0,e1,e2,e3,e4,e5,e6,e7,e8,e9]
    clear hw e0 e1 e2 e3 e4 e5 e6 e7 e8 e9
    generalize vs 10=v10 at *
    generalize vs 11=v11 at *
    go_wp2
    go_roundw
    ·exact ⟨k+1,by go_num,by omega,by rw [hnew.out,List.length_append,List.flatMap_append];exact h11.out,hb7.out⟩
    ·simp [intOf];omega
   ·have hnew:=zF (hno.out hy)
    clear hyes hno
    go_wp2
    go_roundw
    ·exact ⟨k+1,by go_num,by omega,by rw [hnew.out];exact HOWN.out,HB.out⟩
    ·simp [intOf];omega
  ·obtain rfl:k=D.length:=by omega
   have hsl:=zF ((zGO (F:=IsItem) (enc:=zNW) (sz:=2) (w:=wr) (zCV D c D.length) (fun x hx=>⟨rfl,fun _=>⟨rfl,hI.out x hx⟩⟩)).sl HOWN.out isItem_at)
   have HBX:=zF (zA HBB.out HB.out)
   go_wp2
   go_ret
   exact ⟨_,rfl,by rw [hPL.out];exact hsl.out,HBX.out⟩
end
section
open Go.RowKit
theorem zRS {α:Type} (L:List α) (r:α) (j:Nat) (hj:j < L.length) :
  ((L.take (j+1)++r :: L.drop (j+1)).set (j+1) L[j]).set j r=L.take j++r :: L.drop j:=by
 rw [List.take_succ_eq_append_getElem hj,List.append_assoc]
 have hl:(L.take j).length=j:=by rw [List.length_take];omega
 rw [List.set_append_right _ _ (by omega),hl,List.set_append_right _ _ (by omega),hl]
 have e:L.drop j=L[j] :: L.drop (j+1):=List.drop_eq_getElem_cons hj
 rw [e]
 simp
def rowN (L:List Nat) : List Value:=L.map (fun i:Nat=>Value.int .i64 (i:Int))
theorem rowN_at (L:List Nat) (k:Nat) (hk:k < L.length) : (rowN L)[k]? = some (.int .i64 (L[k] : Int)):=by unfold rowN;rw [List.getElem?_map,List.getElem?_eq_getElem hk];rfl
theorem rowN_set (L:List Nat) (k x:Nat) : (rowN L).set k (.int .i64 (x:Int))=rowN (L.set k x):=by unfold rowN;rw [List.map_set]
theorem rowN_snoc (L:List Nat) (x:Nat) : rowN (L++[x])=rowN L++[.int .i64 (x:Int)]:=by unfold rowN;rw [List.map_append];rfl
def nm (N:List Note) (i:Nat) : Int:=(N[i]?).elim 0 (·.num)
theorem nm_at {N:List Note} {i:Nat} (h:i < N.length) : nm N i=N[i].num:=by unfold nm;rw [List.getElem?_eq_getElem h];rfl
theorem own_weak' {w:World} {base base' n:Nat} {e:TypeId} {sz:Nat} {v:Value} {cs:List Value} (hb:base'≤base) (h:w.ownsRow base e sz v n cs) : w.ownsRow base' e sz v n cs:=by
 obtain ⟨hl,h⟩:=h
 refine ⟨hl,?_⟩
 rcases h with h0 | ⟨g,cap,cur,hv,hg,h3⟩
 ·exact .inl h0
 ·exact .inr ⟨g,cap,cur,hv,Nat.le_trans hb hg,h3⟩
structure OpenIx (N:List Note) (i:Nat) (L:List Nat) : Prop where
 mem:∀ j,j∈L↔j < i∧∃ h:j < N.length,N[j].sg=1
 rise:L.Pairwise (fun a b=>nm N a < nm N b)
 len:L.length≤i
theorem OpenIx.skip {N:List Note} {i:Nat} {L:List Nat} (h:OpenIx N i L) (hi:i < N.length) (hs:N[i].sg≠1) : OpenIx N (i+1) L :=
 ⟨fun j=>(h.mem j).trans ⟨fun ⟨a,b⟩=>⟨by omega,b⟩,fun ⟨a,b,c⟩=>⟨by
  by_cases e:j=i
  ·subst e;exact absurd c hs
  ·omega,b,c⟩⟩,h.rise,by have:=h.len;omega⟩
theorem OpenIx.put {N:List Note} {i k:Nat} {L:List Nat} (h:OpenIx N i L) (hi:i < N.length) (hs:N[i].sg=1) (hk:k≤L.length) (h1:∀ y∈L.drop k,nm N i < nm N y) (h2:∀ y∈L.take k,nm N y < nm N i) : OpenIx N (i+1) (L.take k++i :: L.drop k) where
 mem:=fun j=>by
  rw [List.mem_append,List.mem_cons]
  have hm:j∈L↔j∈L.take k∨j∈L.drop k:=by rw [← List.mem_append,List.take_append_drop]
  have hj:=h.mem j
  constructor
  ·rintro (hh | rfl | hh)
   ·have:=hj.1 (hm.2 (.inl hh));exact ⟨by omega,this.2⟩
   ·exact ⟨by omega,hi,hs⟩
   ·have:=hj.1 (hm.2 (.inr hh));exact ⟨by omega,this.2⟩
  ·rintro ⟨a,b⟩
   by_cases e:j=i
   ·exact .inr (.inl e)
   ·rcases hm.1 (hj.2 ⟨by omega,b⟩) with hh | hh
    ·exact .inl hh
    ·exact .inr (.inr hh)
 rise:=by
  have hr:=h.rise
  rw [← List.take_append_drop k L,List.pairwise_append] at hr
  rw [List.pairwise_append,List.pairwise_cons]
  refine ⟨hr.1,⟨h1,hr.2.1⟩,fun a ha b hb=>?_⟩
  rcases List.mem_cons.1 hb with rfl | hb
  ·exact h2 a ha
  ·exact hr.2.2 a ha b hb
 len:=by
  have h3:=h.len
  have h4:=congrArg List.length (List.take_append_drop k L)
  rw [List.length_append] at h4
  rw [List.length_append,List.length_cons]
  omega
theorem open03 (w:World) (vr vn:Value) (N:List Note) (hn:Sl zBM 10 w vn N) (hN:N.length≤1000) (hd:∀ i j,i < j→j < N.length→nm N i≠nm N j) :
  Calls prog 105 #[.agg #[vr,vn]] w fun e w'=>∃ u L,e = .returned u∧w'.ownsRow w.heap.size 3 1 u L.length (rowN L)∧OpenIx N N.length L∧Below w.heap.size w w':=by
 obtain ⟨i0,hif,iz0,iz1,iz2⟩:=info_parts zDM
 obtain ⟨hb1,B1⟩:=zAZ w #[vr,vn] 27
 have c1:=B1 1 vn rfl
 clear B1
 obtain ⟨an,capn,rfl,hmn⟩:=zD hn
 have hn1:=zI zS hb1 hn
 have C:=zF c1
 have HW1:Hid ((w.alloc (.cells #[vr,.slice an N.length capn] 27)).heap.size=w.heap.size+1):=World.size_alloc _ _
 clear hn c1
 go_enter func105,ntmps105
 go_wp2
 generalize w.alloc _=w1 at *
 go_loopw [3,4] (fun o i wr=>∃ (k:Nat) (L:List Nat),i = .int .i64 k∧k≤N.length∧wr.ownsRow w1.heap.size 3 1 o L.length (rowN L)∧OpenIx N k L∧Below w1.heap.size w1 wr) (fun _ i _=>N.length - (intOf i).toNat)
 case atStart=>exact ⟨0,[],rfl,by omega,World.ownsRow_nil _ _ _ _,⟨fun j=>by simp,by simp,by simp⟩,br_⟩
 case round =>
  obtain ⟨i,L,rfl,hi,hown,hix,hb⟩:=hrel
  have HIX:=zF hix
  have c1:=zC hb C.out
  have hLl:=hix.len
  clear hix
  unfold zJ at c1
  by_cases hlt:i < N.length
  case neg =>
   obtain rfl:i=N.length:=by omega
   have HOWN:=zF hown
   clear hown
   go_wp2
   go_ret
   exact ⟨u3,L,rfl,own_weak' (by have:=HW1.out;omega) HOWN.out,HIX.out,zA hb1 hb⟩
  case pos =>
   obtain ⟨bn,on,rfl,⟨q0,q1,q2,_⟩,_⟩:=(zZ (zI zS hb hn1)).2 i hlt
   have HX:Hid (∀ P:Note→Prop,P N[i]→P N[i]):=fun _ h=>h
   generalize hx:N[i]=x at *
   have HX:=zF hx
   clear hx
   unfold zJ at q0 q2
   by_cases hs:(x.sg != 1)=true
   ·have HOWN:=zF hown
    clear hown
    go_wp2
    go_roundw
    ·exact ⟨i+1,L,by go_num,by omega,HOWN.out,HIX.out.skip hlt (by rw [HX.out];simpa using hs),hb⟩
    ·simp [intOf];omega
   ·have hs':(x.sg != 1)=false:=by simpa using hs
    have hs1:x.sg=1:=by simpa using hs
    have HS:=zF hs1
    have hxm:Hid (nm N i=x.num):=by unfold Hid;rw [nm_at hlt,HX.out]
    clear hs hs1
    have hLN:L.length≤1000:=by omega
    have HD:=zF hd
    go_wp2_with (at_builtin;refine wpList_append_own _ rfl _ _ 28 rfl w1.heap.size 3 i0 (.int .i64 0) 1 8 underlying28 hif iz0 iz1 iz2 rfl (by decide) _ _ _ rfl (hown.alloc _) ⟨wr.heap.size,0,none⟩ 1 1 [.int .i64 (i:Int)] rfl rfl (cell_one_new _ _ _) (by simp [Value.oneCell']) (by unfold maxLen;omega) (by omega) (by have:=hb.size;simp;omega) ?_;intro v9 w2 hown9 hgrow _;obtain ⟨gg,capg,hv⟩:=zCT hown9;rw [hv])
    have hb2:=(hb.alloc hb.size (.cells #[.int .i64 (i:Int)] 3)).grown hgrow (by have:=hb.size;simp;omega) (fun k e=>(hown.lt k e).1)
    rw [hv] at hown9
    have hown0:w2.ownsRow w1.heap.size 3 1 (.slice (some ⟨gg,0,none⟩) (L.length+1) capg) (L.length+1) (rowN (L.take L.length++i :: L.drop L.length)):=by rw [List.take_length,List.drop_length,rowN_snoc];exact hown9
    have hlenM:∀ k,k≤L.length→(L.take k++i :: L.drop k).length=L.length+1:=fun k hk=>by rw [List.length_append,List.length_cons,List.length_take,List.length_drop];omega
    have HLM:=zF hlenM
    clear hown hown9 hgrow c1 q0 q1 q2 hb hlenM
    go_loopw [5] (fun kk wz=>∃ k:Nat,kk = .int .i64 k∧k≤L.length∧wz.ownsRow w1.heap.size 3 1 (.slice (some ⟨gg,0,none⟩) (L.length+1) capg) (L.length+1) (rowN (L.take k++i :: L.drop k))∧(∀ y∈L.drop k,nm N i < nm N y)∧Below w1.heap.size w1 wz) (fun kk _=>(intOf kk).toNat)
    case atStart=>exact ⟨L.length,rfl,Nat.le_refl _,hown0,by simp [List.drop_length],hb2⟩
    case round =>
     obtain ⟨k,rfl,hk,hown,hall,hbz⟩:=hrel
     clear hown0 hb2
     have HALL:=zF hall
     have c1:=zC hbz C.out
     unfold zJ at c1
     clear hall
     cases k with
     | zero =>
       have HOWN:=zF hown
       clear hown
       go_wp2
       refine wp_region_quiet_lit (by kernel_rfl) (by kernel_rfl) (no_implicit_lambda% ?_)
       repeat ((with_reducible refine wpQuiet_step (fun K hK=>?_));go_simp;first | ((with_reducible refine hK _ ?_);clear hK K) | (refine hK _ (no_implicit_lambda% ?_);clear hK K) | (apply Exists.intro;(with_reducible refine ⟨fun _=>?_,hK _ ?_⟩);(fail);clear hK K))
       with_reducible refine wpQuiet_nil ?_
       intro _ hw9
       obtain ⟨nq,hw8⟩:=hw9
       subst hw8
       go_wp2
       go_roundw
       ·exact ⟨i+1,L.take 0++i :: L.drop 0,by go_num,by omega,by rw [HLM.out 0 (by omega)];exact zAA (zO _ _) HOWN.out,HIX.out.put hlt (by rw [HX.out];exact HS.out) (by omega) HALL.out (fun y hy=>by simp at hy),zA hbz (zO _ _)⟩
       ·simp [intOf];omega
     | succ k =>
       have hkl:k < L.length:=by omega
       have hmk:=(HIX.out.mem L[k]).1 (List.getElem_mem hkl)
       have hyN:L[k] < N.length:=hmk.2.1
       have hM1:(rowN (L.take (k+1)++i :: L.drop (k+1)))[k+1]? = some (.int .i64 (i:Int)):=by
        rw [rowN_at _ _ (by rw [HLM.out (k+1) hk];omega)]
        rw [List.getElem_append_right (by rw [List.length_take];omega)]
        simp [List.length_take,Nat.min_eq_left hk]
       have hM0:(rowN (L.take (k+1)++i :: L.drop (k+1)))[k]? = some (.int .i64 (L[k] : Int)):=by
        rw [rowN_at _ _ (by rw [HLM.out (k+1) hk];omega)]
        rw [List.getElem_append_left (by rw [List.length_take];omega)]
        simp
       have e1:=hown.cells (g:=gg) rfl (k+1) _ hM1
       have e0:=hown.cells (g:=gg) rfl k _ hM0
       rw [zBP] at e1 e0
       obtain ⟨bn2,on2,hh2,⟨p0,_⟩,_⟩:=(zZ (zI zS hbz hn1)).2 L[k] hyN
       cases hh2
       obtain ⟨bn3,on3,hh3,⟨q0,_⟩,_⟩:=(zZ (zI zS hbz hn1)).2 i hlt
       cases hh3
       rw [HX.out] at q0
       have hym:Hid (nm N L[k]=N[L[k]].num):=nm_at hyN
       generalize hy:N[L[k]].num=yn at *
       have hne:Hid (L[k] < i):=hmk.1
       have hswap:=zF (zRS L i k hkl)
       have hdrop:Hid (L.drop k=L[k] :: L.drop (k+1)):=List.drop_eq_getElem_cons hkl
       have htake:Hid (L.take (k+1)=L.take k++[L[k]]):=List.take_succ_eq_append_getElem hkl
       have hrise:=HIX.out.rise
       have hpre:Hid (∀ y∈L.take k,nm N y < nm N L[k]):=fun y hy=>by
        rw [← List.take_append_drop k L,List.pairwise_append] at hrise
        exact hrise.2.2 y hy L[k] (by rw [hdrop.out];exact List.mem_cons_self ..)
       clear hrise hM1 hM0 hy hmk
       generalize L[k]=yi at *
       unfold zJ at p0 q0
       have hi1:(k:Int)+1 < (L.length:Int)+1:=by omega
       have hi2:(k:Int) < (L.length:Int)+1:=by omega
       have hi3:0≤(k:Int)+1:=by omega
       have hi4:((k:Int)+1).toNat=k+1:=by omega
       have hi5:(0:Int) < (k:Int)+1:=by omega
       have hiN:(i:Int) < N.length:=by omega
       have hyN2:(yi:Int) < N.length:=by omega
       have hwk:IntKind.i64.wrap (k:Int)=k:=IntWalk.i64_in _ (by omega)
       by_cases hc:x.num < yn
       ·have f1:=zFE hown (k+1)
        have f0:=zFE hown k
        have hgl:gg < wr.heap.size:=(hown.lt gg rfl).2
        have HOWN:=zF hown
        clear hown
        go_wp2
        refine wp_region_quiet_lit (by kernel_rfl) (by kernel_rfl) (no_implicit_lambda% ?_)
        repeat ((with_reducible refine wpQuiet_step (fun K hK=>?_));go_simp;first | ((with_reducible refine hK _ ?_);clear hK K) | (refine hK _ (no_implicit_lambda% ?_);clear hK K) | (apply Exists.intro;(with_reducible refine ⟨fun _=>?_,hK _ ?_⟩);(fail);clear hK K))
        with_reducible refine wpQuiet_nil ?_
        intro _ hw9
        obtain ⟨nq,hw8⟩:=hw9
        subst hw8
        go_wp2
        go_roundw
        case rel =>
         have h1:=zAA (zO wr nq) HOWN.out
         have h2:=(h1.stored (k+1) (.int .i64 (yi:Int))).1
         have h3:=(h2.stored k (.int .i64 (i:Int))).1
         rw [rowN_set,rowN_set,hswap.out] at h3
         refine ⟨k,rfl,by omega,h3,fun y hy=>?_,?_⟩
         ·rw [hdrop.out] at hy
          rcases List.mem_cons.1 hy with rfl | hy
          ·rw [hxm.out,hym.out];exact hc
          ·exact HALL.out y hy
         ·have hgw:w1.heap.size≤gg:=(HOWN.out.lt gg rfl).1
          exact zH hgw (zH hgw (zA hbz (zO _ _)))
        case measure=>first | (simp [intOf];done) | (simp [intOf];omega)
       ·have hc':¬ (yn > x.num):=by omega
        have HOWN:=zF hown
        clear hown
        go_wp2
        refine wp_region_quiet_lit (by kernel_rfl) (by kernel_rfl) (no_implicit_lambda% ?_)
        repeat ((with_reducible refine wpQuiet_step (fun K hK=>?_));go_simp;first | ((with_reducible refine hK _ ?_);clear hK K) | (refine hK _ (no_implicit_lambda% ?_);clear hK K) | (apply Exists.intro;(with_reducible refine ⟨fun _=>?_,hK _ ?_⟩);(fail);clear hK K))
        with_reducible refine wpQuiet_nil ?_
        intro _ hw9
        obtain ⟨nq,hw8⟩:=hw9
        subst hw8
        go_wp2
        go_roundw
        case rel =>
         refine ⟨i+1,L.take (k+1)++i :: L.drop (k+1),by go_num,by omega,by rw [HLM.out (k+1) hk];exact zAA (zO _ _) HOWN.out,HIX.out.put hlt (by rw [HX.out];exact HS.out) hk HALL.out (fun y hy=>?_),zA hbz (zO _ _)⟩
         rw [htake.out,List.mem_append] at hy
         have h9:nm N yi < nm N i:=by
          have h1:=hym.out
          have h2:=hxm.out
          have h3:=HD.out yi i hne.out hlt
          omega
         rcases hy with hy | hy
         ·exact Int.lt_trans (hpre.out y hy) h9
         ·simp at hy
          subst hy
          exact h9
        case measure=>simp [intOf];omega
end
section
open Go.RowKit
attribute [local go_sem] zAN Oper.grows Oper.growUpon
def zCA (N:List Note) : List Int:=(N.filter (fun x=>x.sg == 1)).map (·.num)
theorem opens_mem (N:List Note) (y:Int) : y∈zCA N↔∃ j,∃ h:j < N.length,N[j].sg=1∧N[j].num=y:=by
 unfold zCA
 rw [List.mem_map]
 constructor
 ·rintro ⟨x,hx,rfl⟩
  obtain ⟨hx,hs⟩:=List.mem_filter.1 hx
  obtain ⟨j,hj,rfl⟩:=List.getElem_of_mem hx
  exact ⟨j,hj,by simpa using hs,rfl⟩
 ·rintro ⟨j,hj,hs,rfl⟩
  exact ⟨N[j],List.mem_filter.2 ⟨List.getElem_mem hj,by simpa using hs⟩,rfl⟩
theorem OpenIx.nums {N:List Note} {L:List Nat} (h:OpenIx N N.length L) : (L.map (nm N)).Pairwise (· < ·)∧∀ y,y∈L.map (nm N)↔y∈zCA N:=by
 refine ⟨by rw [List.pairwise_map];exact h.rise,fun y=>?_⟩
 rw [List.mem_map,opens_mem]
 constructor
 ·rintro ⟨j,hj,rfl⟩
  obtain ⟨h1,h2,h3⟩:=(h.mem j).1 hj
  exact ⟨j,h2,h3,(nm_at h2).symm⟩
 ·rintro ⟨j,hj,hs,rfl⟩
  exact ⟨j,(h.mem j).2 ⟨hj,hj,hs⟩,nm_at hj⟩
theorem isT_of {O S:List Int} (h:∀ j,(hj:j < S.length)→S[j]∈O∧∀ h0:0 < j,S[j - 1] < S[j]) : IsT O S:=by
 refine ⟨?_,fun x hx=>?_⟩
 ·rw [List.pairwise_iff_getElem]
  intro i j hi hj hij
  obtain ⟨d,rfl⟩ : ∃ d,j=i+1+d:=⟨j - i - 1,by omega⟩
  clear hij
  induction d with
  | zero=>exact (h (i+1) hj).2 (by omega)
  | succ d ih =>
    have h1:=ih (by omega)
    have h2:=(h (i+1+(d+1)) hj).2 (by omega)
    have e:i+1+(d+1) - 1=i+1+d:=by omega
    simp only [e] at h2
    exact Int.lt_trans h1 h2
 ·obtain ⟨j,hj,rfl⟩:=List.getElem_of_mem hx
  exact (h j hj).1
theorem isT_at {O S:List Int} (h:IsT O S) (j:Nat) (hj:j < S.length) : S[j]∈O∧∀ h0:0 < j,S[j - 1] < S[j] :=
 ⟨h.2 _ (List.getElem_mem hj),fun h0=>List.pairwise_iff_getElem.1 h.1 (j - 1) j (by omega) hj (by omega)⟩
theorem truth03 (w:World) (vr vn vs:Value) (N:List Note) (S:List Int) (hn:Sl zBM 10 w vn N) (hs:Sl zAJ 1 w vs S) (hN:N.length≤1000) (hd:∀ i j,i < j→j < N.length→nm N i≠nm N j) :
  Calls prog 58 #[.agg #[vr,vn],vs] w (zAK (IsT (zCA N) S) w):=by
 obtain ⟨i0,hif,iz0,iz1,iz2⟩:=info_parts zDM
 obtain ⟨hb1,B1⟩:=zAZ w #[vr,vn] 27
 have c0:=B1 0 vr rfl
 have c1:=B1 1 vn rfl
 clear B1
 obtain ⟨an,capn,rfl,hmn⟩:=zD hn
 obtain ⟨az,capz,rfl,hms⟩:=zD hs
 have hn1:=zI zS hb1 hn
 have hs1:=zI zN hb1 hs
 have C1:=zF c1
 clear hn hs
 unfold zJ at c0 c1
 go_enter func58,ntmps58
 go_wp2_with fail
 clear c0 c1
 generalize w.alloc _=w1 at *
 refine (open03 _ _ _ N hn1 hN hd).mono ?_
 rintro e w5 ⟨vo,L,rfl,hown0,hix,hb5⟩
 have HIX:=zF hix
 have hLl:=hix.len
 have hvo:Sl zAJ 1 w5 vo (L.map (fun i:Nat=>(i:Int))):=zBG (by rw [List.length_map,List.map_map];exact hown0) (fun x hx=>by
  obtain ⟨j,hj,rfl⟩:=List.mem_map.1 hx
  have:=((hix.mem j).1 hj).1
  unfold I64
  omega)
 obtain ⟨ao,capo,rfl,_⟩:=zD hvo
 have HVO:=zF hvo
 have C:=zF (zC hb5 C1.out)
 have hn5:=zF (zI zS hb5 hn1)
 have hs5:=zF (zI zN hb5 hs1)
 have hbb:=zF (zA hb1 hb5)
 clear hn1 hs1 hvo hown0 hix hb1 hb5
 have hcl:=zAF C.out
 rw [List.length_map]
 have hLM:Hid ((L.map (fun i:Nat=>(i:Int))).length=L.length):=List.length_map ..
 generalize hD:L.map (nm N)=D at *
 have HD:=zF hD
 have hDl:D.length=L.length:=by rw [← hD,List.length_map]
 have HDL:=zF hDl
 clear hD hDl
 have hI:Hid (∀ x∈D,I64 x):=fun x hx=>by
  rw [← HD.out] at hx
  obtain ⟨j,hj,rfl⟩:=List.mem_map.1 hx
  have hjN:=((HIX.out.mem j).1 hj).1
  rw [nm_at hjN]
  obtain ⟨_,_,_,_,hr⟩:=(zZ hn5.out).2 j hjN
  exact hr.1
 go_wp2
 go_loopw [5,7] (fun o i wr=>∃ k:Nat,i = .int .i64 k∧k≤L.length∧wr.ownsRow w5.heap.size 3 1 o k (rowL (fun x=>x) D k)∧Below w5.heap.size w5 wr) (fun _ i _=>L.length - (intOf i).toNat)
 case atStart=>exact ⟨0,rfl,by omega,by rw [rowL_zero];exact World.ownsRow_nil _ _ _ _,br_⟩
 case round =>
  obtain ⟨k,rfl,hk,hown,hb⟩:=hrel
  have HOWN:=zF hown
  have HB:=zF hb
  clear hown hb
  by_cases hlt:k < L.length
  case pos =>
   have hkl2:k < (L.map (fun i:Nat=>(i:Int))).length:=by rw [List.length_map];exact hlt
   obtain ⟨bo,oo,rfl,hcx,-⟩:=(zZ HVO.out).2 k hkl2
   rw [List.getElem_map] at hcx
   have hyN:=((HIX.out.mem L[k]).1 (List.getElem_mem hlt)).1
   obtain ⟨bn,on,rfl,⟨q0,_⟩,_⟩:=(zZ hn5.out).2 L[k] hyN
   have hDk:Hid (∀ h:k < D.length,D[k]=nm N L[k]):=fun h=>by
    have:=HD.out
    subst this
    rw [List.getElem_map]
   have hnew:=zF (nums_take D (fun x=>x) k (by have:=HDL.out;omega))
   rw [← nm_at hyN] at q0
   have hnew:Hid (rowL (fun x=>x) D (k+1)=rowL (fun x=>x) D k++[.int .i64 (nm N L[k])]):=by
    have h1:=hnew.out
    rw [hDk.out] at h1
    exact h1
   generalize nm N L[k]=x at *
   generalize L[k]=y at *
   have HCX:=zF hcx
   have HQ:=zF q0
   clear hcx q0 hDk hkl2
   have hyN2:(y:Int) < N.length:=by omega
   go_wp2
   refine zBI 12 11 [10] (fun a c=>a.grownBy c u5.ownBlock) (fun c=>wr.grownBy c u5.ownBlock) (fun _ _ hb h=>zCJ hb h) (zAX _ _ _ rfl rfl rfl rfl)
    (fun c=>c.ownsRow w5.heap.size 3 1 u5 k (rowL (fun x=>x) D k)∧w5.heap.size≤c.heap.size) (fun _ _ hb h=>⟨zAA hb h.1,Nat.le_trans h.2 hb.size⟩) ⟨zAA ⟨rfl,rfl,rfl,Nat.le_refl _,fun _ _=>rfl⟩ HOWN.out,HB.out.size⟩ (by kernel_rfl) (by kernel_rfl) ?_
   simp only [tk_]
   apply gw_ (by rfl)
   ·intro vs w2 hw hd
    (try simp [hq_] at hd)
    simp only [pf_]
    go_simp
    exact ⟨br_,rfl⟩
   apply gw_ (by rfl)
   ·intro vs w2 hw hd
    (try simp [hq_] at hd)
    simp only [pf_]
    go_simp
    exact ⟨br_,rfl⟩
   apply gw_ (by rfl)
   ·intro vs w2 hw hd
    (try simp [hq_] at hd)
    have hB2:=zAI HOWN.out hw HB.out (Nat.le_refl _);have k0:=zC hB2 C.out;unfold zJ at k0
    simp only [pf_]
    go_simp
    exact ⟨br_,rfl⟩
   apply gw_ (by rfl)
   ·intro vs w2 hw hd
    (try simp [hq_] at hd)
    simp only [pf_]
    go_simp
    exact ⟨br_,rfl⟩
   apply gw_ (by rfl)
   ·intro vs w2 hw hd
    (try simp [hq_] at hd)
    simp only [pf_]
    go_simp
    exact ⟨br_,rfl⟩
   apply gw_ (by rfl)
   ·intro vs w2 hw hd
    (try simp [hq_] at hd)
    simp only [pf_]
    go_simp
    exact ⟨br_,rfl⟩
   apply gw_ (by rfl)
   ·intro vs w2 hw hd
    (try simp [hq_] at hd)
    have hB2:=zAI HOWN.out hw HB.out (Nat.le_refl _);have k0:=zC hB2 HCX.out;unfold zJ at k0;rw [Nat.mul_one] at k0
    simp only [pf_]
    go_simp
    exact ⟨br_,rfl⟩
   apply gw_ (by rfl)
   ·intro vs w2 hw hd
    (try simp [hq_] at hd)
    simp only [pf_]
    go_simp
    exact ⟨br_,rfl⟩
   apply gw_ (by rfl)
   ·intro vs w2 hw hd
    (try simp [hq_] at hd)
    simp only [pf_]
    go_simp
    exact ⟨br_,rfl⟩
   apply gw_ (by rfl)
   ·intro vs w2 hw hd
    (try simp [hq_] at hd)
    have hB2:=zAI HOWN.out hw HB.out (Nat.le_refl _);have k0:=zC hB2 HQ.out;unfold zJ at k0
    simp only [pf_]
    go_simp
    exact ⟨br_,rfl⟩
   refine zCW (zGT x) (zCN x) (by rfl) (.inl (by rfl)) ?_ ?_
   ·intro vs w2 hw hd
    (try simp [hq_] at hd)
    simp only [pf_]
    go_simp
    exact ⟨zB _ _,_,rfl,zU _ _ _ 0 _ rfl⟩
   refine zDJ (fun v w'=>Hid (w'.ownsRow w5.heap.size 3 1 v (k+1) (rowL (fun x=>x) D k++[.int .i64 x]))) (fun _ _ _ hb h=>zF (zAA hb h.out)) (by rfl) ?_ ?_
   ·intro vs w2 hw hi hd
    (try simp [hq_] at hd)
    simp only [pf_]
    obtain ⟨e3,bb,e5,hbb2⟩:=hd
    refine zBQ (.tmp 17) (.tmp 27) 28 (by rfl) w5.heap.size 3 i0 _ 1 8 underlying28 hif iz0 iz1 iz2 rfl (by decide) u5 _ _ (by exact e3) hi.1 (vs 10) ⟨bb,0,none⟩ 1 1 e5 [.int .i64 x] (by rfl) rfl (fun j u hj=>by
     cases j with
     | zero=>simp at hj;subst hj;exact hbb2
     | succ j=>simp at hj) (fun u hu=>by simp at hu;subst hu;rfl) (by unfold maxLen;omega) (by omega) hi.2 (fun v' w' h1 h2=>⟨zAH hw h2,h2,h1⟩)
   refine zDI rfl (fun vs w7 hw hd=>?_)
   simp [zV,zAD,List.range,List.range.loop,List.filter_cons,List.filter_nil] at hd
   simp only [pf_]
   obtain ⟨e0,e1,e2,e3,e4,e5,e6,e7,e8,e9,h11⟩:=hd
   have hb7:=zF (zAI HOWN.out hw HB.out (Nat.le_refl _))
   simp only [Nat.zero_add,Nat.reduceAdd] at e0 e1 e2 e3 e4 e5 e6 e7 e8 e9 ⊢
   simp only [e0,e1,e2,e3,e4,e5,e6,e7,e8,e9]
   clear hw e0 e1 e2 e3 e4 e5 e6 e7 e8 e9
   generalize vs 11=u9 at *
   generalize vs 10=v8 at *
   go_wp2
   go_roundw
   ·exact ⟨k+1,by go_num,by omega,by rw [hnew.out];exact h11.out,hb7.out⟩
   ·simp [intOf];omega
  case neg =>
   obtain rfl:k=L.length:=by omega
   have hO:Sl zAJ 1 wr u5 D:=by
    have h1:=HOWN.out
    rw [← HDL.out,rowL_all,List.map_id'] at h1
    exact zBG h1 hI.out
   have HO:=zF hO
   have hsr:=zF (zI zN HB.out hs5.out)
   have hbr:=zF (zA hbb.out HB.out)
   have hend:Hid ((∀ j,j < S.length→∀ hj:j < S.length,S[j]∈D∧∀ h0:0 < j,S[j - 1] < S[j])→IsT (zCA N) S):=fun h=>isT_of fun j hj=>by
    have:=h j hj hj
    exact ⟨((HIX.out.nums).2 _).1 (by rw [HD.out];exact this.1),this.2⟩
   have hbad:Hid (∀ j,∀ hj:j < S.length,¬ (S[j]∈D∧∀ h0:0 < j,S[j - 1] < S[j])→¬ IsT (zCA N) S):=fun j hj h hT=>by
    have:=isT_at hT j hj
    exact h ⟨by rw [← HD.out];exact ((HIX.out.nums).2 _).2 this.1,this.2⟩
   clear hO HOWN HB hs5 hbb hn5 hlt hcl
   go_wp2
   go_loopw [8] (fun i wz=>∃ k:Nat,i = .int .i64 k∧k≤S.length∧Below wr.heap.size wr wz∧∀ j,j < k→∀ hj:j < S.length,S[j]∈D∧∀ h0:0 < j,S[j - 1] < S[j]) (fun i _=>S.length - (intOf i).toNat)
   case atStart=>exact ⟨0,rfl,by omega,br_,fun j hj=>absurd hj (by omega)⟩
   case round =>
    obtain ⟨k,rfl,hk,hb,hall⟩:=hrel
    have HALL:=zF hall
    clear hall
    by_cases hlt:k < S.length
    case neg =>
     go_wp2
     go_ret
     exact zAK.t (hend.out fun j hj hj2=>HALL.out j (by omega) hj2) (zA hbr.out hb)
    case pos =>
     have hX:=(zZ (zI zN hb hsr.out)).2
     obtain ⟨b,off,rfl,hc,-⟩:=hX k hlt
     have HO2:Hid (∀ m:Nat,Sl zAJ 1 (wr.drewN m) u5 D):=fun m=>zI zN (zA hb (zO _ _)) HO.out
     unfold zJ at hc
     rw [Nat.mul_one] at hc
     have hB:=zF (hbad.out k hlt)
     have hG:Hid (S[k]∈D→(∀ h0:0 < k,S[k - 1] < S[k])→∀ j,j < k+1→∀ hj:j < S.length,S[j]∈D∧∀ h0:0 < j,S[j - 1] < S[j]):=fun h1 h2 j hj hjl=>by
      by_cases e:j=k
      ·subst e;exact ⟨h1,h2⟩
      ·exact HALL.out j (by omega) hjl
     cases k with
     | zero =>
       simp only [Nat.add_zero] at hc
       generalize hx:S[0]=x at *
       have HX:=zF hx
       clear hx hX
       by_cases hm:x∈D
       ·have hm':decide (x∈D)=true:=by simpa using hm
        have HM:=zF hm
        clear hm
        go_wp2
        refine wp_region_quiet_lit (by kernel_rfl) (by kernel_rfl) (no_implicit_lambda% ?_)
        repeat ((with_reducible refine wpQuiet_step (fun K hK=>?_));go_simp;first | ((with_reducible refine hK _ ?_);clear hK K) | (refine hK _ (no_implicit_lambda% ?_);clear hK K) | (apply Exists.intro;(with_reducible refine ⟨fun _=>?_,hK _ ?_⟩);((go_at_call 106;exact Calls.quiet_of_same (has03 _ _ D _ (HO2.out _))));clear hK K))
        with_reducible refine wpQuiet_nil ?_
        intro _ hw9
        obtain ⟨nq,hw8⟩:=hw9
        subst hw8
        go_wp2
        go_roundw
        ·exact ⟨1,by go_num,by omega,zA hb (zO _ _),hG.out HM.out (fun h0=>absurd h0 (by omega))⟩
        ·simp [intOf];omega
       ·have hm':decide (x∈D)=false:=by simpa using hm
        have HM:=zF hm
        clear hm
        go_wp2
        refine wp_region_quiet_lit (by kernel_rfl) (by kernel_rfl) (no_implicit_lambda% ?_)
        repeat ((with_reducible refine wpQuiet_step (fun K hK=>?_));go_simp;first | ((with_reducible refine hK _ ?_);clear hK K) | (refine hK _ (no_implicit_lambda% ?_);clear hK K) | (apply Exists.intro;(with_reducible refine ⟨fun _=>?_,hK _ ?_⟩);((go_at_call 106;exact Calls.quiet_of_same (has03 _ _ D _ (HO2.out _))));clear hK K))
        with_reducible refine wpQuiet_nil ?_
        intro _ hw9
        obtain ⟨nq,hw8⟩:=hw9
        subst hw8
        go_wp2
        go_ret
        exact zAK.f (hB.out fun h=>HM.out h.1) (zA hbr.out (zA hb (zO _ _)))
     | succ k =>
       obtain ⟨b2,off2,hh2,hc2,-⟩:=hX k (by omega)
       cases hh2
       unfold zJ at hc2
       rw [Nat.mul_one] at hc2
       simp only [Nat.add_sub_cancel] at hB hG
       generalize hx:S[k+1]=x at *
       generalize hy:S[k]'(by omega)=y at *
       have HX:=zF hx
       have HY:=zF hy
       clear hx hy hX
       have hi1:(k:Int)+1 < S.length:=by omega
       have hi2:(k:Int) < S.length:=by omega
       have hi3:0≤(k:Int)+1:=by omega
       have hi4:((k:Int)+1).toNat=k+1:=by omega
       have hi5:(0:Int) < (k:Int)+1:=by omega
       have hwk:IntKind.i64.wrap (k:Int)=k:=IntWalk.i64_in _ (by omega)
       by_cases hm:x∈D
       ·have hm':decide (x∈D)=true:=by simpa using hm
        have HM:=zF hm
        clear hm
        by_cases hc9:x≤y
        ·go_wp2
         refine wp_region_quiet_lit (by kernel_rfl) (by kernel_rfl) (no_implicit_lambda% ?_)
         repeat ((with_reducible refine wpQuiet_step (fun K hK=>?_));go_simp;first | ((with_reducible refine hK _ ?_);clear hK K) | (refine hK _ (no_implicit_lambda% ?_);clear hK K) | (apply Exists.intro;(with_reducible refine ⟨fun _=>?_,hK _ ?_⟩);((go_at_call 106;exact Calls.quiet_of_same (has03 _ _ D _ (HO2.out _))));clear hK K))
         with_reducible refine wpQuiet_nil ?_
         intro _ hw9
         obtain ⟨nq,hw8⟩:=hw9
         subst hw8
         go_wp2
         go_ret
         exact zAK.f (hB.out fun h=>by have h6:=h.2 (by omega);have h7:=HY.out;omega) (zA hbr.out (zA hb (zO _ _)))
        ·go_wp2
         refine wp_region_quiet_lit (by kernel_rfl) (by kernel_rfl) (no_implicit_lambda% ?_)
         repeat ((with_reducible refine wpQuiet_step (fun K hK=>?_));go_simp;first | ((with_reducible refine hK _ ?_);clear hK K) | (refine hK _ (no_implicit_lambda% ?_);clear hK K) | (apply Exists.intro;(with_reducible refine ⟨fun _=>?_,hK _ ?_⟩);((go_at_call 106;exact Calls.quiet_of_same (has03 _ _ D _ (HO2.out _))));clear hK K))
         with_reducible refine wpQuiet_nil ?_
         intro _ hw9
         obtain ⟨nq,hw8⟩:=hw9
         subst hw8
         go_wp2
         go_roundw
         ·exact ⟨k+1+1,by go_num,by omega,zA hb (zO _ _),hG.out HM.out (fun h0=>by have h7:=HY.out;omega)⟩
         ·simp [intOf];omega
       ·have hm':decide (x∈D)=false:=by simpa using hm
        have HM:=zF hm
        clear hm
        go_wp2
        refine wp_region_quiet_lit (by kernel_rfl) (by kernel_rfl) (no_implicit_lambda% ?_)
        repeat ((with_reducible refine wpQuiet_step (fun K hK=>?_));go_simp;first | ((with_reducible refine hK _ ?_);clear hK K) | (refine hK _ (no_implicit_lambda% ?_);clear hK K) | (apply Exists.intro;(with_reducible refine ⟨fun _=>?_,hK _ ?_⟩);((go_at_call 106;exact Calls.quiet_of_same (has03 _ _ D _ (HO2.out _))));clear hK K))
        with_reducible refine wpQuiet_nil ?_
        intro _ hw9
        obtain ⟨nq,hw8⟩:=hw9
        subst hw8
        go_wp2
        go_ret
        exact zAK.f (hB.out fun h=>HM.out h.1) (zA hbr.out (zA hb (zO _ _)))
end
section
open Go.RowKit
attribute [local go_sem] zAN Oper.grows Oper.growUpon
theorem zKU {R:List Issue} {N:List Note} (h:zDS R N) : ∀ i j,i < j→j < N.length→nm N i≠nm N j:=fun i j hij hj=>by
 rw [nm_at (by omega),nm_at hj]
 exact (h.2.1 j hj).2.2.2.1 i hij (by omega)
theorem asked03 (w:World) (vr vn vs:Value) (R:List Issue) (N:List Note) (S:List Int) (m:Int) (hr:Sl zAU 5 w vr R) (hn:Sl zBM 10 w vn N) (hs:Sl zAJ 1 w vs S)
  (hv:zX R N=0) (hT:IsT (zCA N) S) (hm:In m 1 999) :
  Calls prog 163 #[.agg #[vr,vn],vs,.int .i64 m] w fun e w'=>e = .returned (.int .i64 0)∧Below w.heap.size w w':=by
 obtain ⟨hb1,B1⟩:=zAZ w #[vr,vn] 27
 have c0:=B1 0 vr rfl
 have c1:=B1 1 vn rfl
 clear B1
 obtain ⟨an,capn,rfl,hmn⟩:=zD hn
 obtain ⟨ar,capr,rfl,hmr⟩:=zD hr
 obtain ⟨az,capz,rfl,hms⟩:=zD hs
 have hn1:=zI zS hb1 hn
 have hr1:=zI zP hb1 hr
 have hs1:=zI zN hb1 hs
 have C:=zF (And.intro c0 c1)
 have HV:=zF hv
 have HT:=zF hT
 have hok:=(zAS hv).2
 have HOK:=zF hok
 clear hn hs hr hv hT hok
 unfold zJ at c0 c1
 go_enter func163,ntmps163
 go_wp2_with fail
 clear c0 c1
 generalize w.alloc _=w1 at *
 refine (check03 _ _ _ R N hr1 hn1).mono ?_
 rintro e w2 ⟨rfl,hb2⟩
 rw [HV.out]
 obtain ⟨c0,c1⟩:=C.out
 replace c0:=zC hb2 c0
 replace c1:=zC hb2 c1
 unfold zJ at c0 c1
 have hn2:=zI zS hb2 hn1
 have hs2:=zI zN hb2 hs1
 clear hn1 hr1 hs1
 go_wp2_with fail
 clear c0 c1
 refine (truth03 _ _ _ _ N S hn2 hs2 (by have:=HOK.out.1;omega) (zKU HOK.out)).mono ?_
 intro e w3 ht
 rcases ht.both with ⟨_,rfl,hb3⟩ | ⟨h,_⟩
 ·clear ht hn2 hs2
  go_wp2_with fail
  refine (zND _ _ _ _).mono ?_
  rintro e w4 ⟨rfl,rfl⟩
  have hw:inB m 1 999=true:=by unfold inB;unfold In at hm;simp;exact hm
  rw [hw]
  go_wp2
  go_ret
  exact ⟨rfl,zA hb1 (zA hb2 hb3)⟩
 ·exact absurd HT.out h
theorem lettersOf03 (w:World) (vr vn vs:Value) (R:List Issue) (N:List Note) (S:List Int) (m:Int) (hr:Sl zAU 5 w vr R) (hn:Sl zBM 10 w vn N) (hs:Sl zAJ 1 w vs S)
  (hv:zX R N=0) (hT:IsT (zCA N) S) (hm:In m 1 999) :
  Calls prog 126 #[.agg #[vr,vn],vs,.int .i64 m] w fun e w'=>∃ u,e = .returned (.tuple #[u,.int .i64 0])∧Sl zAJ 1 w' u ((nums R).map (zQ S m N))∧Below w.heap.size w w':=by
 obtain ⟨hb1,B1⟩:=zAZ w #[vr,vn] 27
 have c0:=B1 0 vr rfl
 have c1:=B1 1 vn rfl
 clear B1
 obtain ⟨an,capn,rfl,hmn⟩:=zD hn
 obtain ⟨ar,capr,rfl,hmr⟩:=zD hr
 obtain ⟨az,capz,rfl,hms⟩:=zD hs
 have hn1:=zI zS hb1 hn
 have hr1:=zI zP hb1 hr
 have hs1:=zI zN hb1 hs
 have C:=zF (And.intro c0 c1)
 have HV:=zF hv
 have HT:=zF hT
 have hN12:=(zAS hv).2.1
 have hR60:R.length≤60:=by have:=(zAR (zAS hv).1).1.2;omega
 clear hn hs hr hv hT
 unfold zJ at c0 c1
 go_enter func126,ntmps126
 go_wp2_with fail
 clear c0 c1
 generalize w.alloc _=w1 at *
 refine (asked03 _ _ _ _ R N S m hr1 hn1 hs1 HV.out HT.out hm).mono ?_
 rintro e w2 ⟨rfl,hb2⟩
 obtain ⟨c0,c1⟩:=C.out
 replace c0:=zC hb2 c0
 replace c1:=zC hb2 c1
 unfold zJ at c0 c1
 have hn2:=zI zS hb2 hn1
 have hr2:=zI zP hb2 hr1
 have hs2:=zI zN hb2 hs1
 clear hn1 hr1 hs1
 go_wp2_with fail
 clear c0 c1
 refine (letters03 _ _ _ _ R N S m hr2 hn2 hs2 (by omega) (by omega)).mono ?_
 rintro e w3 ⟨u,rfl,hu,hb3⟩
 clear hn2 hr2 hs2
 go_wp2
 go_ret2
 exact ⟨u,rfl,hu,zA hb1 (zA hb2 hb3)⟩
end
section
open Go.RowKit
attribute [local go_sem] zAN Oper.grows Oper.growUpon
theorem known03 (w:World) (vr vn:Value) (R:List Issue) (d:Int) (hr:Sl zAU 5 w vr R) (hR:R.length≤1000) :
  Calls prog 166 #[.agg #[vr,vn],.int .i64 d] w fun e w'=>e = .returned (.bool (decide (d∈nums R)))∧Below w.heap.size w w':=by
 obtain ⟨hb1,B1⟩:=zAZ w #[vr,vn] 27
 have c0:=B1 0 vr rfl
 clear B1
 obtain ⟨ar,capr,rfl,hmr⟩:=zD hr
 have hr1:=zI zP hb1 hr
 clear hr
 unfold zJ at c0
 go_enter func166,ntmps166
 go_wp2_with fail
 clear c0
 generalize w.alloc _=w1 at *
 refine (zFK _ _ R hr1 hR).mono ?_
 rintro e w2 ⟨vd,rfl,hvd,hb2⟩
 clear hr1
 go_wp2_with fail
 refine (has03 _ _ (nums R) _ hvd).mono ?_
 rintro e w3 ⟨rfl,rfl⟩
 clear hvd
 go_wp2
 go_ret
 exact ⟨rfl,zA hb1 hb2⟩
def byF (S:List Int) (m:Int) (N:List Note) (d:Int) : Int:=byTo N (fAt S m N) d N.length
theorem by03_f (w:World) (vr vn vb:Value) (N:List Note) (S:List Int) (m d:Int) (hn:Sl zBM 10 w vn N) (hB:Sl zJQ 1 w vb (frc S m N)) :
  Calls prog 167 #[.agg #[vr,vn],vb,.int .i64 d] w fun e w'=>e = .returned (.int .i64 (byF S m N d))∧Below w.heap.size w w':=by03 w vr vn vb N (frc S m N) d hn hB (zNV S m N)
theorem byF_bd (S:List Int) (m:Int) (N:List Note) (d:Int) : -1≤byF S m N d∧byF S m N d < N.length:=byTo_bd _ _ _ _
theorem numBy_by (S:List Int) (m:Int) (N:List Note) (d:Int) : zFO S m N d=(if byF S m N d < 0 then none else N[(byF S m N d).toNat]?).elim 0 (·.num):=by
 unfold zFO zGX byF
 rw [noteTo_by]
theorem by_of03 (w:World) (vr vn vs:Value) (R:List Issue) (N:List Note) (S:List Int) (m d:Int) (hr:Sl zAU 5 w vr R) (hn:Sl zBM 10 w vn N) (hs:Sl zAJ 1 w vs S)
  (hv:zX R N=0) (hT:IsT (zCA N) S) (hm:In m 1 999) (hdn:d∈nums R) :
  Calls prog 129 #[.agg #[vr,vn],vs,.int .i64 d,.int .i64 m] w fun e w'=>e = .returned (.tuple #[.int .i64 (zFO S m N d),.int .i64 0])∧Below w.heap.size w w':=by
 obtain ⟨hb1,B1⟩:=zAZ w #[vr,vn] 27
 have c0:=B1 0 vr rfl
 have c1:=B1 1 vn rfl
 clear B1
 obtain ⟨an,capn,rfl,hmn⟩:=zD hn
 obtain ⟨ar,capr,rfl,hmr⟩:=zD hr
 obtain ⟨az,capz,rfl,hms⟩:=zD hs
 have hn1:=zI zS hb1 hn
 have hr1:=zI zP hb1 hr
 have hs1:=zI zN hb1 hs
 have C:=zF (And.intro c0 c1)
 have HV:=zF hv
 have HT:=zF hT
 have hN12:=(zAS hv).2.1
 have hR60:R.length≤60:=by have:=(zAR (zAS hv).1).1.2;omega
 clear hn hs hr hv hT
 unfold zJ at c0 c1
 go_enter func129,ntmps129
 go_wp2_with fail
 clear c0 c1
 generalize w.alloc _=w1 at *
 refine (asked03 _ _ _ _ R N S m hr1 hn1 hs1 HV.out HT.out hm).mono ?_
 rintro e w2 ⟨rfl,hb2⟩
 obtain ⟨c0,c1⟩:=C.out
 replace c0:=zC hb2 c0
 replace c1:=zC hb2 c1
 unfold zJ at c0 c1
 have hn2:=zI zS hb2 hn1
 have hr2:=zI zP hb2 hr1
 have hs2:=zI zN hb2 hs1
 clear hn1 hr1 hs1
 go_wp2_with fail
 clear c0 c1
 refine (known03 _ _ _ R d hr2 (by omega)).mono ?_
 rintro e w3 ⟨rfl,hb3⟩
 have hkn:decide (d∈nums R)=true:=by simpa using hdn
 rw [hkn]
 clear hkn hdn
 have hn3:=zF (zI zS hb3 hn2)
 have hs3:=zF (zI zN hb3 hs2)
 have hcl0:=zC hb3 (zC hb2 C.out.1)
 have hcl1:=zC hb3 (zC hb2 C.out.2)
 have c0:∀ xq,(w3.later xq).cell? ⟨w.heap.size,0,none⟩=some (.slice ar R.length capr):=fun xq=>zC (zE w3 xq) hcl0
 have c1:∀ xq,(w3.later xq).cell? ⟨w.heap.size,1,none⟩=some (.slice an N.length capn):=fun xq=>zC (zE w3 xq) hcl1
 have HBB:=zF (zA hb1 (zA hb2 hb3))
 have C1:=zF hcl1
 clear hn2 hr2 hs2 hcl0 hcl1 hb1 hb2 hb3
 go_wp2
 refine zK 7 (by kernel_rfl) (by kernel_rfl) ?_
 simp only [tk_]
 iterate 4 (apply gx_;focus (intro vs xq hd;(try simp [hq_] at hd);simp only [pf_];go_simp;exact ⟨br_,rfl⟩))
 refine zL (fun v w'=>Hid (Sl zJQ 1 w' v (frc S m N))) (fun v w w' hb h=>zF (zI zID hb h.out)) ?_ ?_
 ·intro vs xq hd
  (try simp [hq_] at hd)
  simp only [pf_]
  go_simp
  refine (force03 _ _ _ _ N S m (zI zS (zE w3 xq) hn3.out) (zI zN (zE w3 xq) hs3.out) (by omega)).mono ?_
  rintro e w9 ⟨u,rfl,hu,hb⟩
  exact ⟨u,rfl,hb,zF hu⟩
 apply gx_;focus (intro vs xq hd;(try simp [hq_] at hd);simp only [pf_];go_simp;exact ⟨br_,rfl⟩)
 refine zAE ?_
 apply Exists.intro
 refine ⟨fun vs xq hd=>?_,?_⟩
 ·(try simp [hq_] at hd)
  have k4:=hd.2.1
  simp only [pf_]
  go_simp
  refine (by03_f _ _ _ _ N S m d (zI zS (zE w3 xq) hn3.out) k4.out).mono ?_
  rintro e w9 ⟨rfl,hb9⟩
  exact ⟨rfl,hb9⟩
 refine zT rfl (fun vs xq hd=>?_)
 simp [zV,zAD,List.range,List.range.loop] at hd
 simp only [pf_]
 obtain ⟨e0,e1,e2,e3,h4,e5,e6⟩:=hd
 simp only [Nat.zero_add,Nat.reduceAdd] at e0 e1 e2 e3 e5 e6 ⊢
 simp only [e0,e1,e2,e3,e5,e6]
 clear e0 e1 e2 e3 e5 e6 h4
 generalize vs 4=v4 at *
 have hbd:=byF_bd S m N d
 have hnum:=zF (numBy_by S m N d)
 generalize byF S m N d=z at *
 have c1x:=c1 xq
 have hbx:=zE w3 xq
 generalize w3.later xq=w4 at *
 clear c0 c1
 by_cases hz:z < 0
 ·have h0:Hid (zFO S m N d=0):=by
   have:=hnum.out
   rw [if_pos hz] at this
   exact this
  clear hnum
  go_wp2
  go_ret2
  exact ⟨by rw [h0.out];rfl,zA HBB.out hbx⟩
 ·obtain ⟨k,rfl⟩ : ∃ k:Nat,z=k:=⟨z.toNat,by omega⟩
  have hk:k < N.length:=by omega
  obtain ⟨b,off,rfl,⟨q0,_⟩,_⟩:=(zZ (zI zS hbx hn3.out)).2 k hk
  have h0:Hid (zFO S m N d=N[k].num):=by
   have:=hnum.out
   rw [if_neg hz,Int.toNat_natCast,List.getElem?_eq_getElem hk] at this
   exact this
  clear hnum
  generalize N[k].num=x at *
  unfold zJ at q0
  go_wp2
  go_ret2
  exact ⟨by rw [h0.out];rfl,zA HBB.out hbx⟩
end
end Go.Proofs.YtpolpdegpbahiaaGreatDoor
