/- Lemmas. -/
import Derived.WalkSpells
import Derived.Lib.SliceRun
import Derived.Laws.AppendOwnNone
import Derived.Maps.AppendAt
import Derived.Test.YtipaopbmklbmnaaGreatDoorT15
set_option linter.all false
set_option maxRecDepth 100000
set_option maxHeartbeats 0
namespace Go.Proofs.YtipaopbmklbmnaaGreatDoor
section
open Go.RowKit
theorem clone_int (w:World) (v:Value) (xs:List Int) (h:Sl zAM 1 w v xs) (hn:xs.length<=100000) :
  Calls Tryz.prog 92 #[v] w fun e w'=>∃ u,e = .returned u/\New zAM 1 3 w.heap.size w' u xs/\Below w.heap.size w w':=by
 obtain ⟨i0,hi,hz0,hz1,hz2⟩:=info_parts zFY;have q:=fun (w:World) (a:Option Addr) (n c:Nat)=>Lib.run_eql_slice_nil w _ _ a n c 0 0 Tryz.underlying28
 obtain ⟨a,cap,rfl,_⟩:=zD h;cases a with
 | none =>
   have hx:xs=[]:=by
    cases xs with
    | nil=>rfl
    | cons x xs=>obtain ⟨b,off,hh,_⟩:=(zY h).2 0 (by simp);cases hh
   subst hx;go_enter Tryz.func92,Tryz.ntmps92;go_wp2;go_ret;exact ⟨_,rfl,New.nil _ _ _ _ _,Below.refl _ _⟩
 | some ad =>
   have key:∃ news:List Value,news.length=xs.length*1/\(∀ j u,news[j]? = some u->w.cell? (ad.add j)=some u)/\(∀ u∈news,u.oneCell'=true) /\
     (∀ w' base e v,Below w.heap.size w w'->w'.ownsRow base e 1 v xs.length news->Sl zAM 1 w' v xs):=by
    by_cases hx:xs=[]
    ·subst hx
     refine ⟨[],by simp,fun j u hj=>by simp at hj,fun u hu=>by simp at hu,fun w' base e v _ hown=>?_⟩;rcases hown.2 with ⟨rfl,_⟩ | ⟨g,cap,cur,rfl,_⟩
     ·exact ⟨none,0,rfl,by simp,fun k hk=>by simp at hk⟩
     ·exact ⟨_,cap,rfl,by simp,fun k hk=>by simp at hk⟩
    ·obtain ⟨_,hX⟩:=zY h
     obtain ⟨b,off,hh,_⟩:=hX 0 (List.length_pos_iff.2 hx);cases hh;have hE:∀ k (hk:k < xs.length),zAM w b (off+k*1) xs[k]:=fun k hk=>by
      obtain ⟨b',off',hh,he⟩:=hX k hk;cases hh;exact he
     obtain ⟨news,hl,hc,h1⟩:=zLZ cells_int xs hE;refine ⟨news,hl,fun j u hj=>?_,h1,fun w' base e v hb hown=>zHC copies_int hb hE hl hc hown⟩;rw [Addr.add_lit];exact hc j u hj
   obtain ⟨news,hl,hc,h1,hS⟩:=key;have HS:=Lib.hid hS;have HC:=Lib.hid hc;have H1:=Lib.hid h1;clear h hS hc h1;go_enter Tryz.func92,Tryz.ntmps92;go_wp2_with (at_builtin;refine wpList_append_own _ rfl _ _ 28 rfl w.heap.size 3 i0 (.int .i64 0) 1 8 Tryz.underlying28 hi hz0 hz1 hz2 rfl (by decide) _ _ _ rfl (World.ownsRow_made w #[] 0 (Nat.le_refl _) (Nat.zero_le _) rfl) ad xs.length cap news rfl ?qc1 ?qc2 ?qc3 ?qc4 ?qc5 ?qc6 ?_)
   case qc1=>exact hl
   case qc2=>exact fun j u hj=>Lib.cell?_alloc_some _ (HC.out j u hj)
   case qc3=>exact H1.out
   case qc4=>unfold maxLen;omega
   case qc5=>omega
   case qc6=>simp
   intro v' w1 hown hgrow hnil;have hb:Below w.heap.size w w1:=((Below.refl _ w).alloc (Nat.le_refl _) _).grown hgrow (by simp) (by intro k hk;simp [Value.ownBlock] at hk;omega);have hown2:w1.ownsRow w.heap.size 3 1 v' xs.length news:=by simpa using hown
   clear hown hgrow;go_wp2;go_ret;exact ⟨_,rfl,⟨HS.out _ _ _ _ hb hown2,_,hown2⟩,hb⟩
theorem clone_item (w:World) (v:Value) (xs:List Item) (h:Sl zBV 2 w v xs) (hn:xs.length<=100000) :
  Calls Tryz.prog 97 #[v] w fun e w'=>∃ u,e = .returned u/\New zBV 2 97 w.heap.size w' u xs/\Below w.heap.size w w':=by
 obtain ⟨i0,hi,hz0,hz1,hz2⟩:=info_parts infoItem;have q:=fun (w:World) (a:Option Addr) (n c:Nat)=>Lib.run_eql_slice_nil w _ _ a n c 0 0 Tryz.underlying85
 obtain ⟨a,cap,rfl,_⟩:=zD h;cases a with
 | none =>
   have hx:xs=[]:=by
    cases xs with
    | nil=>rfl
    | cons x xs=>obtain ⟨b,off,hh,_⟩:=(zY h).2 0 (by simp);cases hh
   subst hx;go_enter Tryz.func97,Tryz.ntmps97;go_wp2;go_ret;exact ⟨_,rfl,New.nil _ _ _ _ _,Below.refl _ _⟩
 | some ad =>
   have key:∃ news:List Value,news.length=xs.length*2/\(∀ j u,news[j]? = some u->w.cell? (ad.add j)=some u)/\(∀ u∈news,u.oneCell'=true) /\
     (∀ w' base e v,Below w.heap.size w w'->w'.ownsRow base e 2 v xs.length news->Sl zBV 2 w' v xs):=by
    by_cases hx:xs=[]
    ·subst hx
     refine ⟨[],by simp,fun j u hj=>by simp at hj,fun u hu=>by simp at hu,fun w' base e v _ hown=>?_⟩;rcases hown.2 with ⟨rfl,_⟩ | ⟨g,cap,cur,rfl,_⟩
     ·exact ⟨none,0,rfl,by simp,fun k hk=>by simp at hk⟩
     ·exact ⟨_,cap,rfl,by simp,fun k hk=>by simp at hk⟩
    ·obtain ⟨_,hX⟩:=zY h
     obtain ⟨b,off,hh,_⟩:=hX 0 (List.length_pos_iff.2 hx);cases hh;have hE:∀ k (hk:k < xs.length),zBV w b (off+k*2) xs[k]:=fun k hk=>by
      obtain ⟨b',off',hh,he⟩:=hX k hk;cases hh;exact he
     obtain ⟨news,hl,hc,h1⟩:=zLZ cells_item xs hE;refine ⟨news,hl,fun j u hj=>?_,h1,fun w' base e v hb hown=>zHC copies_item hb hE hl hc hown⟩;rw [Addr.add_lit];exact hc j u hj
   obtain ⟨news,hl,hc,h1,hS⟩:=key;have HS:=Lib.hid hS;have HC:=Lib.hid hc;have H1:=Lib.hid h1;clear h hS hc h1;go_enter Tryz.func97,Tryz.ntmps97;go_wp2_with (at_builtin;refine wpList_append_own _ rfl _ _ 85 rfl w.heap.size 97 i0 (.agg #[.int .i64 0,.int .i64 0]) 2 16 Tryz.underlying85 hi hz0 hz1 hz2 rfl (by decide) _ _ _ rfl (World.ownsRow_made w #[] 0 (Nat.le_refl _) (Nat.zero_le _) rfl) ad xs.length cap news rfl ?qc1 ?qc2 ?qc3 ?qc4 ?qc5 ?qc6 ?_)
   case qc1=>exact hl
   case qc2=>exact fun j u hj=>Lib.cell?_alloc_some _ (HC.out j u hj)
   case qc3=>exact H1.out
   case qc4=>unfold maxLen;omega
   case qc5=>omega
   case qc6=>simp
   intro v' w1 hown hgrow hnil;have hb:Below w.heap.size w w1:=((Below.refl _ w).alloc (Nat.le_refl _) _).grown hgrow (by simp) (by intro k hk;simp [Value.ownBlock] at hk;omega);have hown2:w1.ownsRow w.heap.size 97 2 v' xs.length news:=by simpa using hown
   clear hown hgrow;go_wp2;go_ret;exact ⟨_,rfl,⟨HS.out _ _ _ _ hb hown2,_,hown2⟩,hb⟩
theorem clone_dim (w:World) (v:Value) (xs:List Dim) (h:Sl zGJ 3 w v xs) (hn:xs.length<=100000) :
  Calls Tryz.prog 98 #[v] w fun e w'=>∃ u,e = .returned u/\New zGJ 3 167 w.heap.size w' u xs/\Below w.heap.size w w':=by
 obtain ⟨i0,hi,hz0,hz1,hz2⟩:=info_parts infoDim;have q:=fun (w:World) (a:Option Addr) (n c:Nat)=>Lib.run_eql_slice_nil w _ _ a n c 0 0 Tryz.underlying116
 obtain ⟨a,cap,rfl,_⟩:=zD h;cases a with
 | none =>
   have hx:xs=[]:=by
    cases xs with
    | nil=>rfl
    | cons x xs=>obtain ⟨b,off,hh,_⟩:=(zY h).2 0 (by simp);cases hh
   subst hx;go_enter Tryz.func98,Tryz.ntmps98;go_wp2;go_ret;exact ⟨_,rfl,New.nil _ _ _ _ _,Below.refl _ _⟩
 | some ad =>
   have key:∃ news:List Value,news.length=xs.length*3/\(∀ j u,news[j]? = some u->w.cell? (ad.add j)=some u)/\(∀ u∈news,u.oneCell'=true) /\
     (∀ w' base e v,Below w.heap.size w w'->w'.ownsRow base e 3 v xs.length news->Sl zGJ 3 w' v xs):=by
    by_cases hx:xs=[]
    ·subst hx
     refine ⟨[],by simp,fun j u hj=>by simp at hj,fun u hu=>by simp at hu,fun w' base e v _ hown=>?_⟩;rcases hown.2 with ⟨rfl,_⟩ | ⟨g,cap,cur,rfl,_⟩
     ·exact ⟨none,0,rfl,by simp,fun k hk=>by simp at hk⟩
     ·exact ⟨_,cap,rfl,by simp,fun k hk=>by simp at hk⟩
    ·obtain ⟨_,hX⟩:=zY h
     obtain ⟨b,off,hh,_⟩:=hX 0 (List.length_pos_iff.2 hx);cases hh;have hE:∀ k (hk:k < xs.length),zGJ w b (off+k*3) xs[k]:=fun k hk=>by
      obtain ⟨b',off',hh,he⟩:=hX k hk;cases hh;exact he
     obtain ⟨news,hl,hc,h1⟩:=zLZ cells_dim xs hE;refine ⟨news,hl,fun j u hj=>?_,h1,fun w' base e v hb hown=>zHC copies_dim hb hE hl hc hown⟩;rw [Addr.add_lit];exact hc j u hj
   obtain ⟨news,hl,hc,h1,hS⟩:=key;have HS:=Lib.hid hS;have HC:=Lib.hid hc;have H1:=Lib.hid h1;clear h hS hc h1;go_enter Tryz.func98,Tryz.ntmps98;go_wp2_with (at_builtin;refine wpList_append_own _ rfl _ _ 116 rfl w.heap.size 167 i0 (.agg #[.int .i64 0,.int .i64 0,.int .i64 0]) 3 24 Tryz.underlying116 hi hz0 hz1 hz2 rfl (by decide) _ _ _ rfl (World.ownsRow_made w #[] 0 (Nat.le_refl _) (Nat.zero_le _) rfl) ad xs.length cap news rfl ?qc1 ?qc2 ?qc3 ?qc4 ?qc5 ?qc6 ?_)
   case qc1=>exact hl
   case qc2=>exact fun j u hj=>Lib.cell?_alloc_some _ (HC.out j u hj)
   case qc3=>exact H1.out
   case qc4=>unfold maxLen;omega
   case qc5=>omega
   case qc6=>simp
   intro v' w1 hown hgrow hnil;have hb:Below w.heap.size w w1:=((Below.refl _ w).alloc (Nat.le_refl _) _).grown hgrow (by simp) (by intro k hk;simp [Value.ownBlock] at hk;omega);have hown2:w1.ownsRow w.heap.size 167 3 v' xs.length news:=by simpa using hown
   clear hown hgrow;go_wp2;go_ret;exact ⟨_,rfl,⟨HS.out _ _ _ _ hb hown2,_,hown2⟩,hb⟩
end
section
open Tryz
open Go.RowKit Go.Shelf
attribute [local go_sem] zAE Oper.grows Oper.growUpon
theorem zCJ {R:List Issue} (h:zX R=0) : zDR R:=by
 by_cases hl:zDR R
 ·exact hl
 ·rw [zCP hl] at h;cases h
theorem listed_ne {R:List Issue} (h:zDR R) : R≠[]/\R.length<=60:=by
 have h1:=h.1.1;have h2:=h.1.2;exact ⟨fun e=>by rw [e] at h1;simp at h1,by omega⟩
theorem zFT {R:List Issue} (h:zDR R) : zLJ R/\Mount (nums R):=⟨mount_of R (fun k hk=>(h.2.1 k hk).2),mount_nums R (fun k hk=>(h.2.1 k hk).2)⟩
def AnySl (v:Value) : Prop:=∃ a n c,v = .slice a n c
theorem anySl_of {α:Type} {E:World->Nat->Nat->α->Prop} {sz:Nat} {w:World} {v:Value} {xs:List α} (h:Sl E sz w v xs) : AnySl v:=by obtain ⟨a,c,rfl,_⟩:=h;exact ⟨_,_,_,rfl⟩
structure RegArg (w:World) (v:Value) (R:List Issue) : Prop where
 sl:Sl zAY 5 w v R
 cap:∃ a c,v = .slice a R.length c/\R.length<=c
 looks:Looks w
theorem RegArg.ext {w w':World} {v:Value} {R:List Issue} (hb:Below w.heap.size w w') (h:RegArg w v R) : RegArg w' v R:=⟨zJ zU hb h.sl,h.cap,h.looks.ext hb⟩
theorem zLI (w:World) (v:Value) (R:List Issue) (h:RegArg w v R) :
  Calls prog 152 #[.agg #[v]] w fun e w'=>(∃ u,e = .returned (.tuple #[u,.int .i64 (zX R)])/\AnySl u/\(zX R=0->Sl zAM 1 w' u (nums R)))/\Below w.heap.size w w':=by
 obtain ⟨hb1,B1⟩:=zBY w #[v] 24;have c0:=B1 0 _ rfl;have h1:=h.ext hb1;obtain ⟨a,cap,rfl,_⟩:=zD h.sl;have c0:zK _ w.heap.size 0 (.slice a R.length cap):=c0;unfold zK at c0;clear B1 h;go_enter func152,ntmps152;go_wp2_with fail;clear c0;generalize w.alloc _=w1 at *;refine (zQW _ _ R h1.sl h1.cap h1.looks).mono ?_;rintro e w2 ⟨⟨p,rfl,hp1,hp2⟩,hb2⟩;have hb:=zA hb1 hb2;by_cases hz:zX R=0
 ·obtain ⟨pb,vd,rfl,hbk⟩:=hp2 hz;rw [hz];have c1:=hbk.c1;have hdr:=hbk.dr;obtain ⟨ad,cd,rfl,_⟩:=zD hdr;have HDR:=zE hdr;unfold zK at c1;clear hp1 hp2 hbk h1 hb2 hb1 hdr;go_wp2;go_ret2;exact ⟨⟨.slice ad (nums R).length cd,by rw [hz];rfl,⟨_,_,_,rfl⟩,fun _=>HDR.out⟩,hb⟩
 ·obtain rfl:=hp1 hz;have HZ:=zE hz;clear hp1 hp2 h1;generalize hcc:zX R=c at *;go_wp2;go_ret2;exact ⟨⟨.slice none 0 0,by rw [hcc];rfl,⟨_,_,_,rfl⟩,fun h=>absurd (hcc ▸ h) HZ.out⟩,hb⟩
open Classical in
noncomputable def zBC (R:List Issue) (d:Int) : Int:=if zX R=0 then (if d∈nums R then 0 else 6) else zX R
theorem known_sheet (w:World) (v:Value) (R:List Issue) (d:Int) (h:RegArg w v R) :
  Calls prog 168 #[.agg #[v],.int .i64 d] w fun e w'=>(∃ p,e = .returned (.tuple #[p,.int .i64 (zBC R d)])/\(zBC R d≠0->p = .pointer none)/\(zBC R d=0->∃ pb vd,p = .pointer (some ⟨pb,0,none⟩)/\BookAt w' pb v vd R (nums R)))/\Below w.heap.size w w':=by
 obtain ⟨hb1,B1⟩:=zBY w #[v] 24;have c0:=B1 0 _ rfl;have h1:=h.ext hb1;obtain ⟨a,cap,rfl,_⟩:=zD h.sl;have c0:zK _ w.heap.size 0 (.slice a R.length cap):=c0;unfold zK at c0;clear B1 h;go_enter func168,ntmps168;go_wp2_with fail;clear c0;generalize w.alloc _=w1 at *;refine (zQW _ _ R h1.sl h1.cap h1.looks).mono ?_;rintro e w2 ⟨⟨p,rfl,hp1,hp2⟩,hb2⟩;have hb:=zA hb1 hb2;by_cases hz:zX R=0
 ·obtain ⟨pb,vd,rfl,hbk⟩:=hp2 hz
  have hl:=zCJ hz;have hm:=(zFT hl).2;have hn:=hl.2.2.2;have hk:zBC R d=if d∈nums R then 0 else 6:=by unfold zBC;rw [if_pos hz]
  rw [hz];have HBK:=zE hbk;have HK:=zE hk;clear hp1 hp2 h1 hb2 hb1 hl hk;go_wp2_with fail;refine (has_int _ pb (.slice a R.length cap) vd R (nums R) d HBK.out.c1 HBK.out.dr hm (by omega)).mono ?_;rintro e w3 ⟨rfl,rfl⟩;by_cases hd:d∈nums R
  ·have e0:zBC R d=0:=by rw [HK.out,if_pos hd]
   rw [decide_eq_true hd];clear hd HK hbk;go_wp2;go_ret2;exact ⟨⟨.pointer (some ⟨pb,0,none⟩),by rw [e0];rfl,fun h=>absurd e0 h,fun _=>⟨_,_,rfl,HBK.out⟩⟩,hb⟩
  ·have e0:zBC R d=6:=by rw [HK.out,if_neg hd]
   rw [decide_eq_false hd];clear hd HK hbk;go_wp2;go_ret2;exact ⟨⟨.pointer none,by rw [e0];rfl,fun h=>rfl,fun h=>by rw [e0] at h;cases h⟩,hb⟩
 ·obtain rfl:=hp1 hz
  have e0:zBC R d=zX R:=by unfold zBC;rw [if_neg hz]
  have hz':=zE hz;clear hp1 hp2 h1;have E0:=zE e0;clear e0;generalize hcc:zX R=c at *;go_wp2;go_ret2;exact ⟨⟨.pointer none,by rw [E0.out];rfl,fun _=>rfl,fun h=>by rw [E0.out] at h;exact absurd h hz'.out⟩,hb⟩
theorem zRK (R:List Issue) (h:∀ k,k < R.length->zHI R k) (d:Int) : ((zAL R d).length:Int)=zKG R d/\((zAL R d).length≠0↔d∈nums R):=by
 have hm:=mount_of R h;have key:∀ k,k<=R.length->(∀ d,zJI R d k=(((R.take k).filter (fun x=>x.d == d)).length:Int))/\(∀ h0:0 < k,∀ hk:k - 1 < R.length,R[k - 1].l=(((R.take k).filter (fun x=>x.d == R[k - 1].d)).length:Int)):=by
  intro k;induction k with
  | zero=>intro _;exact ⟨fun d=>by simp [zJI],fun h0=>absurd h0 (by omega)⟩
  | succ k ih =>
    intro hk;obtain ⟨ih1,ih2⟩:=ih (by omega);have hlt:k < R.length:=by omega
    have hl:R[k].l=(((R.take k).filter (fun x=>x.d == R[k].d)).length:Int)+1:=by
     have ho:=h k hlt hlt;by_cases h0:0 < k
     ·rcases ho.2 h0 with ⟨h1,h2⟩ | ⟨h1,h2,_⟩
      ·have e:(R.take k).filter (fun x=>x.d == R[k].d)=[]:=by
        rw [List.filter_eq_nil_iff];intro x hx;obtain ⟨j,hj,rfl⟩:=List.getElem_of_mem hx;rw [List.length_take] at hj;rw [List.getElem_take];have:=hm j (k - 1) (by omega) (by omega);simp;omega
       rw [e,h2];rfl
      ·have:=ih2 h0 (by omega);rw [h1] at this;rw [h2,this]
     ·have hk0:k=0:=by omega
      rw [ho.1 hk0];subst hk0;simp
    have hf:∀ d,(R.take (k+1)).filter (fun x=>x.d == d)=(R.take k).filter (fun x=>x.d == d)++[R[k]].filter (fun x=>x.d == d):=fun d=>by rw [List.take_succ_eq_append_getElem hlt,List.filter_append]
    refine ⟨fun d=>?_,fun _ _=>?_⟩
    ·rw [lastTo_succ R d k hlt,hf d,List.length_append]
     by_cases e:R[k].d=d
     ·subst e;rw [if_pos rfl,ih1,hl];simp;omega
     ·rw [if_neg e,ih1];simp [e]
    ·simp only [Nat.add_sub_cancel];rw [hf,List.length_append,hl];simp
 constructor
 ·have:=(key R.length (Nat.le_refl _)).1 d;rw [List.take_length] at this;exact this.symm
 ·constructor
  ·intro h1
   cases hi:zAL R d with
   | nil=>rw [hi] at h1;simp at h1
   | cons x l =>
     have hx:x∈zAL R d:=by rw [hi];simp
     unfold zAL at hx;rw [List.mem_filter] at hx;obtain ⟨k,hk,rfl⟩:=List.getElem_of_mem hx.1;have:=zOE R h k hk;have e:R[k].d=d:=by simpa using hx.2
     rwa [e] at this
  ·intro h1 h2;exact zOU R d h1 (List.eq_nil_of_length_eq_zero h2)
theorem last_sheet (w:World) (v:Value) (R:List Issue) (d:Int) (h:RegArg w v R) :
  Calls prog 128 #[.agg #[v],.int .i64 d] w fun e w'=>(∃ n,e = .returned (.tuple #[.int .i64 n,.int .i64 (zBC R d)])/\(zX R=0->n=zKG R d))/\Below w.heap.size w w':=by
 obtain ⟨hb1,B1⟩:=zBY w #[v] 24;have c0:=B1 0 _ rfl;have h1:=h.ext hb1;obtain ⟨a,cap,rfl,_⟩:=zD h.sl;have c0:zK _ w.heap.size 0 (.slice a R.length cap):=c0;unfold zK at c0;clear B1 h;go_enter func128,ntmps128;go_wp2_with fail;clear c0;generalize w.alloc _=w1 at *;refine (known_sheet _ _ R d h1).mono ?_;rintro e w2 ⟨⟨p,rfl,hp1,hp2⟩,hb2⟩;have hb:=zA hb1 hb2;have hkz:zBC R d=0->zX R=0:=fun h=>by
  unfold zBC at h;by_cases hz:zX R=0
  ·exact hz
  ·rw [if_neg hz] at h;exact h
 by_cases hz:zBC R d=0
 ·obtain ⟨pb,vd,rfl,hbk⟩:=hp2 hz;have hl:=zCJ (hkz hz);have hn:=listed_ne hl;have hlen:=(zRK R (fun k hk=>(hl.2.1 k hk).2) d).1;rw [hz];have HBK:=zE hbk;clear hp1 hp2 h1 hb2 hb1 hbk;go_wp2_with fail;refine (last_num _ pb _ vd R (nums R) d HBK.out (zFT hl).1 (by omega) hn.1).mono ?_;rintro e w3 ⟨rfl,hb3⟩;have hb:=zA hb hb3;rw [hlen];clear hlen hn hl;go_wp2;go_ret2;exact ⟨⟨zKG R d,by rw [hz];rfl,fun _=>rfl⟩,hb⟩
 ·obtain rfl:=hp1 hz
  have hreg:zX R=0->zKG R d=0:=fun h0=>by
   have hl:=zCJ h0;have h2:=zRK R (fun k hk=>(hl.2.1 k hk).2) d;have hd:d ∉ nums R:=fun hd=>hz (by unfold zBC;rw [if_pos h0,if_pos hd])
   have:(zAL R d).length=0:=Classical.byContradiction fun h=>hd (h2.2.1 h)
   rw [<- h2.1,this];rfl
  have HRG:=zE hreg;clear hp1 hp2 h1 hkz hreg;generalize hcc:zBC R d=c at *;go_wp2;go_ret2;exact ⟨⟨0,by rw [hcc];rfl,fun h=>(HRG.out h).symm⟩,hb⟩
theorem copied_sheet (w:World) (x:Issue) (vi vd:Value) (h:IssueAt w vi vd x) (hi:x.items.length<=100000) (hdl:x.dims.length<=100000) :
  Calls prog 159 #[.agg #[.int .i64 x.d,.int .i64 x.l,.int .u8 x.k,vi,vd]] w fun e w'=>(∃ vi' vd',e = .returned (.agg #[.int .i64 x.d,.int .i64 x.l,.int .u8 x.k,vi',vd'])/\AnySl vi'/\AnySl vd')/\Below w.heap.size w w':=by
 obtain ⟨ai,ci,rfl,_⟩:=zD h.items;obtain ⟨ad,cd,rfl,_⟩:=zD h.dims;go_enter func159,ntmps159;go_wp2;have hb1:=zA (zB w (.cells #[.int .i64 x.d,.int .i64 x.l,.int .u8 x.k,.slice ai x.items.length ci,.slice ad x.dims.length cd] 118)) (zB _ (.cells #[.int .i64 0,.int .i64 0,.int .u8 0,.slice none 0 0,.slice none 0 0] 118));have L1:=(Lay.new w 118 #[.int .i64 x.d,.int .i64 x.l,.int .u8 x.k,.slice ai x.items.length ci,.slice ad x.dims.length cd]).alloc (.cells #[.int .i64 0,.int .i64 0,.int .u8 0,.slice none 0 0,.slice none 0 0] 118);have L2:=Lay.new (w.alloc (.cells #[.int .i64 x.d,.int .i64 x.l,.int .u8 x.k,.slice ai x.items.length ci,.slice ad x.dims.length cd] 118)) 118 #[.int .i64 0,.int .i64 0,.int .u8 0,.slice none 0 0,.slice none 0 0];rw [World.size_alloc] at L2;have h1:=h.ext hb1;clear h;generalize (w.alloc _).alloc _=w1 at *;have k3:=zH (show zK w1 w.heap.size 3 (.slice ai x.items.length ci) from L1.cell 3 _ rfl);have k4:=zH (show zK w1 w.heap.size 4 (.slice ad x.dims.length cd) from L1.cell 4 _ rfl);refine zM 7 (by kernel_rfl) (by kernel_rfl) ?_;simp only [tk_];iterate 2 (apply gx_;focus (intro vs xq hd;(try simp [hq_] at hd);simp only [pf_];go_simp;first | exact ⟨br_,rfl⟩ | exact rfl))
 refine zL (fun v _=>AnySl v) (fun _ _ _ _ h=>h) ?_ ?_
 ·intro vs xq hd
  (try simp [hq_] at hd)
  simp only [pf_];go_simp;refine (clone_item _ _ x.items (zJ zAX (zG w1 xq) h1.items) hi).mono ?_;rintro e w' ⟨u,rfl,hu,hb⟩;exact ⟨u,rfl,hb,anySl_of hu.sl⟩
 iterate 2 (apply gx_;focus (intro vs xq hd;(try simp [hq_] at hd);simp only [pf_];go_simp;first | exact ⟨br_,rfl⟩ | exact rfl))
 refine zL (fun v _=>AnySl v) (fun _ _ _ _ h=>h) ?_ ?_
 ·intro vs xq hd
  (try simp [hq_] at hd)
  simp only [pf_];go_simp;refine (clone_dim _ _ x.dims (zJ zBS (zG w1 xq) h1.dims) hdl).mono ?_;rintro e w' ⟨u,rfl,hu,hb⟩;exact ⟨u,rfl,hb,anySl_of hu.sl⟩
 apply gx_;focus (intro vs xq hd;(try simp [hq_] at hd);simp only [pf_];go_simp;first | exact ⟨br_,rfl⟩ | exact rfl)
 refine zQ rfl (fun vs xq hd=>?_);simp [zW,zAI,List.range,List.range.loop] at hd;simp only [pf_];obtain ⟨e0,e1,⟨a2,n2,c2,e2⟩,e3,e4,⟨a5,n5,c5,e5⟩,e6⟩:=hd;simp only [Nat.zero_add,Nat.reduceAdd] at e0 e1 e2 e3 e4 e5 e6 ⊢;simp only [e0,e1,e2,e3,e4,e5,e6];have M1:=L1.ext (zG w1 xq);have M2:=L2.ext (zG w1 xq);have hb2:=zA hb1 (zG w1 xq);clear k3 k4 L1 L2 h1 e0 e1 e2 e3 e4 e5 e6 hb1;generalize World.later w1 xq=wL at *;have c0:=M1.cell 0 _ rfl;have c1:=M1.cell 1 _ rfl;have c2':=M1.cell 2 _ rfl;have c3:=M1.cell 3 _ rfl;have c4:=M1.cell 4 _ rfl;have f3:=M1.frozen 3;have f4:=M1.frozen 4;have d0:=M2.cell 0 _ rfl;have d1:=M2.cell 1 _ rfl;have d2:=M2.cell 2 _ rfl;have d3:=M2.cell 3 _ rfl;have d4:=M2.cell 4 _ rfl;have g0:=M2.frozen 0;have g1:=M2.frozen 1;have g2:=M2.frozen 2;have g3:=M2.frozen 3;have g4:=M2.frozen 4;clear M1 M2;go_wp2;refine bodyPost_ret (v:=.agg #[.int .i64 x.d,.int .i64 x.l,.int .u8 x.k,.slice a2 n2 c2,.slice a5 n5 c5]) ?_ rfl ?_
 ·simp [results,results159,go_sem,d0,d1,d2,d3,d4]
 ·refine ⟨⟨_,_,rfl,⟨_,_,_,rfl⟩,⟨_,_,_,rfl⟩⟩,?_⟩;exact zI (by omega) (zI (by omega) (zI (by omega) (zI (by omega) (zI (by omega) (zI (by omega) (zI (by omega) hb2))))))
theorem listed_small {R:List Issue} (h:zDR R) (x:Issue) (hx:x∈R) : x.items.length<=8/\x.dims.length<=4:=by
 obtain ⟨k,hk,rfl⟩:=List.getElem_of_mem hx;obtain ⟨_,_,h1,h2,h3⟩:=((h.2.1 k hk).1 hk).1;have:=h1.1;by_cases e:R[k].k=1
 ·have:=(h2 e).1.2;have:=(h2 e).2;omega
 ·have:=h3 (by omega);omega
open Classical in
noncomputable def zGC (R:List Issue) (d l:Int) : Int:=if zX R=0 then (if zCQ R d l≠none then 0 else 6) else zX R
theorem at_sheet (w:World) (v:Value) (R:List Issue) (d l:Int) (h:RegArg w v R) :
  Calls prog 118 #[.agg #[v],.agg #[.int .i64 d,.int .i64 l]] w fun e w' =>
   (∃ x1 x2 x3 vi vd,e = .returned (.tuple #[.agg #[.int .i64 x1,.int .i64 x2,.int .u8 x3,vi,vd],.int .i64 (zGC R d l)])/\AnySl vi/\AnySl vd/\(∀ x,zX R=0->zCQ R d l=some x->x3=x.k))/\Below w.heap.size w w':=by
 obtain ⟨hb1,B1⟩:=zBY w #[v] 24;have hb2:=zA hb1 (zA (zB _ (.cells #[.int .i64 d,.int .i64 l] 45)) (zB _ (.cells #[.int .i64 0,.int .i64 0,.int .u8 0,.slice none 0 0,.slice none 0 0] 118)));have h1:=h.ext hb2;obtain ⟨a,cap,rfl,_⟩:=zD h.sl;have L0:=((Lay.new w 24 #[.slice a R.length cap]).alloc (.cells #[.int .i64 d,.int .i64 l] 45)).alloc (.cells #[.int .i64 0,.int .i64 0,.int .u8 0,.slice none 0 0,.slice none 0 0] 118);have L1:=(Lay.new (w.alloc (.cells #[.slice a R.length cap] 24)) 45 #[.int .i64 d,.int .i64 l]).alloc (.cells #[.int .i64 0,.int .i64 0,.int .u8 0,.slice none 0 0,.slice none 0 0] 118);have L2:=Lay.new ((w.alloc (.cells #[.slice a R.length cap] 24)).alloc (.cells #[.int .i64 d,.int .i64 l] 45)) 118 #[.int .i64 0,.int .i64 0,.int .u8 0,.slice none 0 0,.slice none 0 0];simp only [World.size_alloc] at L1 L2;have c0:=L0.cell 0 _ rfl;clear B1 h;go_enter func118,ntmps118;go_wp2_with fail;clear c0;generalize ((w.alloc _).alloc _).alloc _=w1 at *;refine (zQW _ _ R h1.sl h1.cap h1.looks).mono ?_;rintro e w2 ⟨⟨p,rfl,hp1,hp2⟩,hb3⟩;have hb:=zA hb2 hb3;have L1:=L1.ext hb3;have L2:=L2.ext hb3;by_cases hz:zX R=0
 case neg =>
  obtain rfl:=hp1 hz;have e0:zGC R d l=zX R:=by unfold zGC;rw [if_neg hz]
  have E0:=zE e0;have HZ:=zE hz;have M2:=L2;have d0:=M2.cell 0 _ rfl;have d1:=M2.cell 1 _ rfl;have d2:=M2.cell 2 _ rfl;have d3:=M2.cell 3 _ rfl;have d4:=M2.cell 4 _ rfl;have g0:=M2.frozen 0;have g1:=M2.frozen 1;have g2:=M2.frozen 2;have g3:=M2.frozen 3;have g4:=M2.frozen 4;have gl:=M2.lt;clear hp1 hp2 h1 e0 L0 L1 L2 M2;generalize hcc:zX R=c at *;go_wp2;refine bodyPost_ret (v:=.tuple #[.agg #[.int .i64 0,.int .i64 0,.int .u8 0,.slice none 0 0,.slice none 0 0],.int .i64 c]) ?_ rfl ?_
  ·simp [results,results118,go_sem,d0,d1,d2,d3,d4]
  ·exact ⟨⟨0,0,0,.slice none 0 0,.slice none 0 0,by rw [E0.out],⟨_,_,_,rfl⟩,⟨_,_,_,rfl⟩,fun _ h=>absurd (hcc.symm.trans h) HZ.out⟩,zI (by omega) (zI (by omega) (zI (by omega) (zI (by omega) (zI (by omega) hb))))⟩
 obtain ⟨pb,vd,rfl,hbk⟩:=hp2 hz;have hl:=zCJ hz;have e0:zGC R d l=if zCQ R d l≠none then 0 else 6:=by unfold zGC;rw [if_pos hz]
 have E0:=zE e0;have HBK:=zE hbk;have HL:=zE hl;have hne:=listed_ne hl;have x0:=L1.cell 0 _ rfl;have x1:=L1.cell 1 _ rfl;rw [hz];clear hp1 hp2 h1 e0 L0 hbk hl;go_wp2_with fail;refine (find_iss _ pb _ vd R (nums R) d l HBK.out (zFT HL.out).1 (by omega) hne.1).mono ?_;clear x0 x1;intro e w3 hf;obtain ⟨hb4,hf⟩:=hf;have M2:=L2.ext hb4;have hb:=zA hb hb4;rcases hf with ⟨x,vi,vs,hfr,rfl,hia⟩ | ⟨hfr,rfl⟩
 ·obtain ⟨ai,ci,rfl,_⟩:=zD hia.items
  obtain ⟨al,cl,rfl,_⟩:=zD hia.dims;have hsm:=listed_small HL.out x (by unfold zCQ at hfr;exact List.mem_of_find?_eq_some hfr);have e1:zGC R d l=0:=by rw [E0.out,if_pos (by rw [hfr];simp)]
  have HIA:=zE hia;have HM2:=zE M2;clear hia M2 L1 L2;go_wp2_with fail;refine (copied_sheet _ x _ _ (HIA.out.ext (zB _ _)) (by omega) (by omega)).mono ?_;rintro e w4 ⟨⟨vi',vs',rfl,⟨a1,n1,c1,rfl⟩,⟨a2,n2,c2,rfl⟩⟩,hb5⟩;have hb:=zA hb (zA (zB _ _) hb5);have M2:=HM2.out.ext (zA (zB _ _) hb5);have d0:=M2.cell 0 _ rfl;have d1:=M2.cell 1 _ rfl;have d2:=M2.cell 2 _ rfl;have d3:=M2.cell 3 _ rfl;have d4:=M2.cell 4 _ rfl;have g0:=M2.frozen 0;have g1:=M2.frozen 1;have g2:=M2.frozen 2;have g3:=M2.frozen 3;have g4:=M2.frozen 4;have gl:=M2.lt;clear M2;go_wp2;refine bodyPost_ret (v:=.tuple #[.agg #[.int .i64 x.d,.int .i64 x.l,.int .u8 x.k,.slice a1 n1 c1,.slice a2 n2 c2],.int .i64 0]) ?_ rfl ?_
  ·simp [results,results118,go_sem,d0,d1,d2,d3,d4]
  ·exact ⟨⟨_,_,_,_,_,by rw [e1],⟨_,_,_,rfl⟩,⟨_,_,_,rfl⟩,fun y _ h=>by rw [hfr] at h;cases h;rfl⟩,zI (by omega) (zI (by omega) (zI (by omega) (zI (by omega) (zI (by omega) hb))))⟩
 ·have e1:zGC R d l=6:=by rw [E0.out,if_neg (by rw [hfr];simp)]
  have d0:=M2.cell 0 _ rfl;have d1:=M2.cell 1 _ rfl;have d2:=M2.cell 2 _ rfl;have d3:=M2.cell 3 _ rfl;have d4:=M2.cell 4 _ rfl;have g0:=M2.frozen 0;have g1:=M2.frozen 1;have g2:=M2.frozen 2;have g3:=M2.frozen 3;have g4:=M2.frozen 4;have gl:=M2.lt;clear M2 L1 L2;go_wp2;refine bodyPost_ret (v:=.tuple #[.agg #[.int .i64 0,.int .i64 0,.int .u8 0,.slice none 0 0,.slice none 0 0],.int .i64 6]) ?_ rfl ?_
  ·simp [results,results118,go_sem,d0,d1,d2,d3,d4,gl]
  ·exact ⟨⟨0,0,0,.slice none 0 0,.slice none 0 0,by rw [e1],⟨_,_,_,rfl⟩,⟨_,_,_,rfl⟩,fun y _ h=>by rw [hfr] at h;cases h⟩,Below.alloc (zI (by omega) (zI (by omega) (zI (by omega) (zI (by omega) (zI (by omega) hb))))) (by simpa using hb.size) _⟩
end
section
open Tryz
def zLG (hs:List Heap) (n l:Int) (u:Bool) : Nat->Int
 | 0=>-1
 | k+1=>if u=true/\(∃ h:k < hs.length,hs[k].d=n/\hs[k].l=l - 1) then (k:Int) else zLG hs n l u k
theorem zNY (hs:List Heap) (n l:Int) (u:Bool) (k:Nat) : -1<=zLG hs n l u k/\zLG hs n l u k < k:=by
 induction k with
 | zero=>simp [zLG]
 | succ k ih =>simp only [zLG];split <;> omega
theorem heapTo_at {hs:List Heap} {n l:Int} {u:Bool} {k j:Nat} (h:zLG hs n l u k=j) : u=true/\∃ hj:j < hs.length,hs[j].d=n/\hs[j].l=l - 1:=by
 induction k with
 | zero=>simp [zLG] at h
 | succ k ih =>
   simp only [zLG] at h;split at h
   ·rename_i hc
    obtain rfl:k=j:=by omega
    exact hc
   ·exact ih h
def zMD (N:List Note) (num:Int) : Bool:=N.any (fun x=>x.num == num && x.use)
def zZ (b:Built) (S:List Int) (m n:Int) : Has :=
 ⟨zIE b.ns.reg (zAA S m b.ns.notes) b.of n,zAA S m b.ns.notes n,zLG b.hs n (zAA S m b.ns.notes n) (zMD b.ns.notes (zLR S m b.ns.notes n)) b.hs.length⟩
theorem zIY (b:Built) (S:List Int) (m n:Int) : -1<=(zZ b S m n).h/\(zZ b S m n).h < b.hs.length:=zNY _ _ _ _ _
def zHZ (b:Built) (S:List Int) (k:Nat) (m:Int) : Int:=if (zZ b S m ((b.hs[k]?).elim 0 (·.d))).h=k then (zZ b S m ((b.hs[k]?).elim 0 (·.d))).c else 0
def zCX (b:Built) (S:List Int) (k:Nat) : Nat->Int
 | 0=>0
 | i+1=>zCX b S k i+(b.ms[i]?).elim 0 (zHZ b S k)
def zKL (b:Built) (S:List Int) (r:Report) : Int:=if 0<=(zZ b S r.m r.d).h then zCX b S (zZ b S r.m r.d).h.toNat (b.ms.idxOf r.m) else 0
noncomputable def zJO (b:Built) (S:List Int) : Option (List Span):=zJG (fun r=>zZ b S r.m r.d) (zKL b S) (b.hs.map fun h=>⟨h.lo,h.hi⟩) b.rs
def zCN (b:Built) (S:List Int) (k n:Int) (r:Report) : Prop :=
 (zZ b S r.m r.d).h=k/\¬ HoldsC (zZ b S r.m r.d) r.k (zGH (zZ b S r.m r.d) r.l (if k < 0 then 0 else oldC (zKL b S r) (zZ b S r.m r.d).c n))
noncomputable def zEM (b:Built) (S:List Int) (k:Nat) : Option Span :=
 (b.hs[k]?).elim none fun h=>hull (fun n=>∀ r∈b.rs,¬ zCN b S k n r) h.lo (h.hi - h.lo+1).toNat
def zCV (b:Built) (S:List Int) : Prop:=(∀ k,k < b.hs.length->zEM b S k≠none)/\∀ r∈b.rs,¬ zCN b S (-1) 0 r
theorem zS {b:Built} (h:zF b=0) : zP b.ns.reg b.ns.notes=0/\zCA b:=by
 unfold zF at h;by_cases h1:zP b.ns.reg b.ns.notes=0
 ·refine ⟨h1,?_⟩
  rw [if_neg (by simp [h1])] at h;by_cases h2:zCA b
  ·exact h2
  ·rw [if_neg h2] at h;cases h
 ·rw [if_pos h1] at h;exact absurd h h1
theorem zBJ {R:List Issue} {N:List Note} (h:zP R N=0) : zX R=0/\zDL R N:=by
 unfold zP at h;by_cases h1:zX R=0
 ·refine ⟨h1,?_⟩
  rw [if_neg (by simp [h1])] at h;by_cases h2:zDL R N
  ·exact h2
  ·rw [if_neg h2] at h;cases h
 ·rw [if_pos h1] at h;exact absurd h h1
theorem zAW {R:List Issue} (h:zX R=0) : zDR R:=by
 apply Classical.byContradiction;intro hn;rw [zCP hn] at h;cases h
theorem zQS {b:Built} (h:zF b=0) : b.of∈nums b.ns.reg:=by
 obtain ⟨h1,h2⟩:=zS h;have hL:=zAW (zBJ h1).1;have:=zRK b.ns.reg (fun k hk=>(hL.2.1 k hk).2) b.of;exact this.2.1 (fun h0=>h2.1 (by rw [<- this.1,h0];rfl))
theorem zJP {b:Built} (h:zF b=0) (S:List Int) (m n:Int) : 0<=(zZ b S m n).c/\(zZ b S m n).c<=16777216000000 :=
 cnt_bd (zBJ (zS h).1).1 _ (zQS h) n
theorem take_bd {b:Built} (h:zF b=0) (S:List Int) (k:Nat) (m:Int) : 0<=zHZ b S k m/\zHZ b S k m<=16777216000000:=by
 unfold zHZ;split
 ·exact zJP h S m _
 ·omega
theorem bef_bd {b:Built} (h:zF b=0) (S:List Int) (k i:Nat) : 0<=zCX b S k i/\zCX b S k i<=i*16777216000000:=by
 induction i with
 | zero=>simp [zCX]
 | succ i ih =>
   simp only [zCX];cases hm:b.ms[i]? with
   | none=>simp only [Option.elim];omega
   | some m =>have:=take_bd h S k m;simp only [Option.elim];omega
theorem befR_bd {b:Built} (h:zF b=0) (S:List Int) {r:Report} (hr:r.m∈b.ms) : 0<=zKL b S r/\zKL b S r<=12*16777216000000:=by
 unfold zKL;split
 ·have h1:=bef_bd h S (zZ b S r.m r.d).h.toNat (b.ms.idxOf r.m);have h2:=List.idxOf_lt_length_of_mem hr;have h3:=(zS h).2.2.1;omega
 ·omega
theorem zGQ {b:Built} (h:zF b=0) {r:Report} (hr:r∈b.rs) : zCE b.ns.reg b.ms r:=by
 obtain ⟨k,hk,rfl⟩:=List.getElem_of_mem hr;exact ((zS h).2.2.2.2.2.2.2 k hk hk).1
theorem zGO {b:Built} (h:zF b=0) {k:Nat} (hk:k < b.hs.length) : 0<=b.hs[k].lo/\b.hs[k].lo<=b.hs[k].hi/\b.hs[k].hi<=200:=by
 have:=(zS h).2.2.2.2.2.2.1 k hk hk;obtain ⟨_,_,h1,h2,_⟩:=this;exact ⟨h1.1,h2.1,h2.2⟩
theorem cut_iff {b:Built} (h:zF b=0) (S:List Int) {k:Nat} {n:Int} (hn:0<=n/\n<=200) : NumLeft (fun r=>zZ b S r.m r.d) (zKL b S) b.rs k n↔∀ r∈b.rs,¬ zCN b S k n r:=by
 have key:∀ r∈b.rs,(zZ b S r.m r.d).h=k->((zHT (fun r=>zZ b S r.m r.d) (zKL b S) r).has n↔HoldsC (zZ b S r.m r.d) r.k (zGH (zZ b S r.m r.d) r.l (if ((k:Nat) : Int) < 0 then 0 else oldC (zKL b S r) (zZ b S r.m r.d).c n))):=fun r hr hh=>by
  have h1:=zJP h S r.m r.d;have hv:=zGQ h hr;have h2:=befR_bd h S hv.2.2.1;rw [if_neg (by omega)];unfold zHT;exact (allowed_iff h1.1 (by unfold most;omega) h2.1 (by unfold most;omega) hv.2.1 hn (by omega)).symm
 constructor
 ·rintro hl r hr ⟨hh,hf⟩;exact hf ((key r hr hh).1 (hl r hr hh))
 ·intro hf r hr hh;exact (key r hr hh).2 (Classical.byContradiction fun hn=>hf r hr ⟨hh,hn⟩)
theorem zID (b:Built) : (b.hs.map fun h=>(⟨h.lo,h.hi⟩ : Span)).length=b.hs.length:=by simp
theorem zFK {b:Built} (h:zF b=0) {S:List Int} {L:List Span} (hL:zJO b S=some L) : zCV b S/\L.length=b.hs.length/\∀ k (hk:k < L.length),zEM b S k=some L[k]/\L[k].lo<=L[k].hi/\∀ hk':k < b.hs.length,b.hs[k].lo<=L[k].lo/\L[k].hi<=b.hs[k].hi:=by
 obtain ⟨h1,hl,h2⟩:=leftGo_some (fun r=>zZ b S r.m r.d) (zKL b S) (fun r _=>by rw [zID];exact (zIY b S r.m r.d).2) (fun k hk=>by
  rw [zID] at hk;rw [List.getElem_map];exact (zGO h hk).2.1) hL
 rw [zID] at hl;have hc:∀ k (hk:k < L.length),zEM b S k=some L[k]/\L[k].lo<=L[k].hi/\∀ hk':k < b.hs.length,b.hs[k].lo<=L[k].lo/\L[k].hi<=b.hs[k].hi:=fun k hk=>by
  have hk':k < b.hs.length:=by omega
  obtain ⟨h3,h4⟩:=h2 k (by rw [zID];exact hk');have hv:=zGO h hk';have hin:∀ n,L[k].has n↔(b.hs[k].lo<=n/\n<=b.hs[k].hi)/\∀ r∈b.rs,¬ zCN b S k n r:=fun n=>by
   rw [h4 n,List.getElem_map];unfold Span.has;constructor
   ·rintro ⟨a1,a2⟩;exact ⟨a1,(cut_iff h S ⟨Int.le_trans hv.1 a1.1,Int.le_trans a1.2 hv.2.2⟩).1 a2⟩
   ·rintro ⟨a1,a2⟩;exact ⟨a1,(cut_iff h S ⟨Int.le_trans hv.1 a1.1,Int.le_trans a1.2 hv.2.2⟩).2 a2⟩
  refine ⟨?_,h3,fun _=>?_⟩
  ·unfold zEM;rw [List.getElem?_eq_getElem hk'];exact hull_eq hv.2.1 h3 hin
  ·have a1:=(hin L[k].lo).1 ⟨Int.le_refl _,h3⟩;have a2:=(hin L[k].hi).1 ⟨h3,Int.le_refl _⟩;omega
 refine ⟨⟨fun k hk=>?_,fun r hr=>?_⟩,hl,hc⟩
 ·rw [(hc k (by omega)).1];simp
 ·rintro ⟨hh,hf⟩;have hv:=zGQ h hr;rw [if_pos (by decide)] at hf;exact hf ((zQF (bef:=zKL b S r) (zJP h S r.m r.d).1 hv.2.1 (by omega)).2 (h1 r hr (by omega)))
theorem zMR {b:Built} (h:zF b=0) {S:List Int} (hL:zJO b S=none) : ¬ zCV b S:=by
 rintro ⟨g1,g2⟩;rcases leftGo_none (fun r=>zZ b S r.m r.d) (zKL b S) (fun r _=>by rw [zID];exact (zIY b S r.m r.d).2) hL with ⟨r,hr,hh,hc⟩ | ⟨k,hk,hn⟩
 ·have hv:=zGQ h hr;have h1:=(zIY b S r.m r.d).1;have hh':(zZ b S r.m r.d).h < 0:=hh;refine g2 r hr ⟨by omega,fun hf=>?_⟩;rw [if_pos (by decide)] at hf;exact (zQF (bef:=zKL b S r) (zJP h S r.m r.d).1 hv.2.1 hh').1 hf hc
 ·rw [zID] at hk
  apply g1 k hk;unfold zEM;rw [List.getElem?_eq_getElem hk];refine hull_no fun n ⟨a1,a2⟩=>hn n ⟨?_,?_⟩
  ·rw [List.getElem_map];exact a1
  ·have hv:=zGO h hk;exact (cut_iff h S (by omega)).2 a2
end
section
open Tryz
open Go.RowKit
attribute [local go_sem] zAE Oper.grows Oper.growUpon
theorem first_there {R:List Issue} (h:∀ k,k < R.length->zHI R k) : ∀ (k:Nat) (hk:k < R.length),zCQ R R[k].d 1≠none:=by
 intro k;induction k with
 | zero =>intro hk hf;have h1:=(h 0 hk hk).1 rfl;unfold zCQ at hf;rw [List.find?_eq_none] at hf;exact hf _ (List.getElem_mem hk) (by unfold zEV;simp [h1])
 | succ k ih =>
   intro hk hf;rcases (h (k+1) hk hk).2 (by omega) with ⟨_,h1⟩ | ⟨h1,_⟩
   ·unfold zCQ at hf;rw [List.find?_eq_none] at hf;exact hf _ (List.getElem_mem hk) (by unfold zEV;simp [h1])
   ·simp only [Nat.add_sub_cancel] at h1;rw [<- h1] at hf;exact ih (by omega) hf
theorem zNM {R:List Issue} {N:List Note} (h:zP R N=0) (S:List Int) (m:Int) : ∀ d∈nums R,∃ x,zCQ R d (zAA S m N d)=some x:=by
 intro d hd;have hv:=zBJ h;have hL:=zAW hv.1;obtain ⟨y,hy,rfl⟩:=numsTo_mem R R.length d hd;obtain ⟨k,hk,rfl⟩:=List.getElem_of_mem hy;apply Option.ne_none_iff_exists'.1;unfold zAA;cases hn:zIG S m N R[k].d with
 | none=>exact first_there (fun j hj=>(hL.2.1 j hj).2) k hk
 | some x =>
   obtain ⟨hx,hxd⟩:=noteTo_mem hn;obtain ⟨i,hi,rfl⟩:=List.getElem_of_mem hx;have hok:=(hv.2.2.1 i hi).2.1;have hd1:=((hL.2.1 k hk).1 hk).1.1;unfold In at hd1;rcases hok with ⟨h0,_⟩ | ⟨_,h1⟩
   ·omega
   ·rw [hxd] at h1;exact h1
theorem dep_of {R:List Issue} (h:zX R=0) {d:Int} (hd:d∈nums R) : dep R ((nums R).length+1) d < (nums R).length+1/\dep R ((nums R).length+1) d<=6:=by
 unfold zX at h;split at h
 ·split at h
  ·cases h
  ·rename_i h1
   split at h
   ·cases h
   ·rename_i h2
    have hd1:dep R ((nums R).length+1) d<=(nums R).length:=Int.not_lt.1 fun hh=>h1 ⟨d,hd,hh⟩
    have hd2:dep R ((nums R).length+1) d<=6:=Int.not_lt.1 fun hh=>h2 ⟨d,hd,hh⟩
    omega
 ·cases h
def encItem (x:Item) : List Value:=[.int .i64 x.d,.int .i64 x.c]
def zEP (D:List Int) (c:Int->Int) (k:Nat) : List Item:=(D.take k).filterMap (fun n=>if 0 < c n then some ⟨n,c n⟩ else none)
theorem posTo_zero (D:List Int) (c:Int->Int) : zEP D c 0=[]:=by simp [zEP]
theorem posTo_yes {D:List Int} {c:Int->Int} {k:Nat} (hk:k < D.length) (h:0 < c D[k]) : zEP D c (k+1)=zEP D c k++[⟨D[k],c D[k]⟩]:=by
 unfold zEP;rw [List.take_succ_eq_append_getElem hk,List.filterMap_append];simp [h]
theorem posTo_no {D:List Int} {c:Int->Int} {k:Nat} (hk:k < D.length) (h:¬ 0 < c D[k]) : zEP D c (k+1)=zEP D c k:=by
 unfold zEP;rw [List.take_succ_eq_append_getElem hk,List.filterMap_append];simp [h]
theorem posTo_len (D:List Int) (c:Int->Int) (k:Nat) : (zEP D c k).length<=k:=by
 unfold zEP;refine Nat.le_trans (List.length_filterMap_le _ _) ?_;simp;omega
theorem posTo_mem {D:List Int} {c:Int->Int} {k:Nat} {x:Item} (h:x∈zEP D c k) : x.d∈D/\x.c=c x.d:=by
 unfold zEP at h;obtain ⟨n,hn,hx⟩:=List.mem_filterMap.1 h;split at hx
 ·cases hx;exact ⟨List.mem_of_mem_take hn,rfl⟩
 ·cases hx
theorem rowIs_enc {α:Type} {F:World->List Value->α->Prop} {enc:α->List Value} {sz:Nat} {w:World} : ∀ (xs:List α),(∀ x∈xs,(enc x).length=sz/\∀ w,F w (enc x) x)->zEO [] F sz w (xs.flatMap enc) xs:=by
 intro xs h;refine ⟨xs.map enc,by simp [List.flatMap],by simp,fun k h1 h2=>?_⟩;have:=h _ (List.getElem_mem h1);rw [List.getElem_map];exact ⟨this.1,fun w' _=>this.2 w'⟩
def zIL (R:List Issue) (lt:Int->Int) (d:Int) : List Item:=zEP (nums R) (zIE R lt d) (nums R).length
end
section
open Tryz
open Go.RowKit
section
variable {P:Program} {Q:Exit->Act->World->Prop} {ops:List Oper} {m:Nat}
end
end
section
open Tryz
open Go.RowKit
attribute [local go_sem] zAE Oper.grows Oper.growUpon
theorem zCF {W:World} {B:Nat} {cs:Array Value} {t:TypeId} (h:Lay W B cs t) (j:Nat) (u:Value) : Lay (W.setCell ⟨B,j,none⟩ u) B (cs.setIfInBounds j u) t:=heap_setCell_same W B j cs t u h
theorem zFX {W:World} {B G:Nat} {cs:Array Value} {t:TypeId} (h:Lay W B cs t) (hne:B≠G) (j:Nat) (u:Value) : Lay (W.setCell ⟨G,j,none⟩ u) B cs t:=(Below.heap_setCell W ⟨G,j,none⟩ u B (by simpa using hne)).trans h
def NewBx (base:Nat) (cs:Array Value) (t:TypeId) (v:Value) (w:World) : Prop:=∃ b,v = .pointer (some ⟨b,0,none⟩)/\base<=b/\Lay w b cs t
theorem zFE (base:Nat) (cs:Array Value) (t:TypeId) : zED (NewBx base cs t):=fun _ _ _ hb ⟨b,e,h1,h2⟩=>⟨b,e,h1,h2.ext hb⟩
def oldV (T:List (List Int)) (h:Int) (j:Nat) (n:Int) : Int:=if h < 0 then 0 else oldC (sumTo (T.getD h.toNat []) j) (atD (T.getD h.toNat []) j) n
structure ViewAt (w:World) (vp vt:Value) (X:List Has) (T:List (List Int)) : Prop where
 reports:Sl AtHas 3 w vp X
 takes:Sl zJU 1 w vt T
theorem ViewAt.ext {w w':World} {vp vt:Value} {X:List Has} {T:List (List Int)} (hb:Below w.heap.size w w') (h:ViewAt w vp vt X T) : ViewAt w' vp vt X T:=⟨zJ stays_has hb h.reports,zJ zGK hb h.takes⟩
end
section
open Tryz
open Go.RowKit
theorem swap_downG {α:Type} (L:List α) (r:α) (j:Nat) (hj:j < L.length) :
  ((L.take (j+1)++r :: L.drop (j+1)).set (j+1) L[j]).set j r=L.take j++r :: L.drop j:=by
 rw [List.take_succ_eq_append_getElem hj,List.append_assoc];have hl:(L.take j).length=j:=by rw [List.length_take];omega
 rw [List.set_append_right _ _ (by omega),hl,List.set_append_right _ _ (by omega),hl];have e:L.drop j=L[j] :: L.drop (j+1):=List.drop_eq_getElem_cons hj;rw [e];simp
def rowN (L:List Nat) : List Value:=L.map (fun i:Nat=>Value.int .i64 (i:Int))
theorem rowN_at (L:List Nat) (k:Nat) (hk:k < L.length) : (rowN L)[k]? = some (.int .i64 (L[k] : Int)):=by unfold rowN;rw [List.getElem?_map,List.getElem?_eq_getElem hk];rfl
theorem rowN_set (L:List Nat) (k x:Nat) : (rowN L).set k (.int .i64 (x:Int))=rowN (L.set k x):=by unfold rowN;rw [List.map_set]
theorem rowN_snoc (L:List Nat) (x:Nat) : rowN (L++[x])=rowN L++[.int .i64 (x:Int)]:=by unfold rowN;rw [List.map_append];rfl
def nm (N:List Note) (i:Nat) : Int:=(N[i]?).elim 0 (·.num)
theorem nm_at {N:List Note} {i:Nat} (h:i < N.length) : nm N i=N[i].num:=by unfold nm;rw [List.getElem?_eq_getElem h];rfl
theorem own_weak' {w:World} {base base' n:Nat} {e:TypeId} {sz:Nat} {v:Value} {cs:List Value} (hb:base'<=base) (h:w.ownsRow base e sz v n cs) : w.ownsRow base' e sz v n cs:=by
 obtain ⟨hl,h⟩:=h;refine ⟨hl,?_⟩;rcases h with h0 | ⟨g,cap,cur,hv,hg,h3⟩
 ·exact .inl h0
 ·exact .inr ⟨g,cap,cur,hv,Nat.le_trans hb hg,h3⟩
structure OpenIx (N:List Note) (i:Nat) (L:List Nat) : Prop where
 mem:∀ j,j∈L↔j < i/\∃ h:j < N.length,N[j].sg=1
 rise:L.Pairwise (fun a b=>nm N a < nm N b)
 len:L.length<=i
theorem OpenIx.skip {N:List Note} {i:Nat} {L:List Nat} (h:OpenIx N i L) (hi:i < N.length) (hs:N[i].sg≠1) : OpenIx N (i+1) L :=
 ⟨fun j=>(h.mem j).trans ⟨fun ⟨a,b⟩=>⟨by omega,b⟩,fun ⟨a,b,c⟩=>⟨by
  by_cases e:j=i
  ·subst e;exact absurd c hs
  ·omega,b,c⟩⟩,h.rise,by have:=h.len;omega⟩
theorem OpenIx.put {N:List Note} {i k:Nat} {L:List Nat} (h:OpenIx N i L) (hi:i < N.length) (hs:N[i].sg=1) (hk:k<=L.length) (h1:∀ y∈L.drop k,nm N i < nm N y) (h2:∀ y∈L.take k,nm N y < nm N i) : OpenIx N (i+1) (L.take k++i :: L.drop k) where
 mem:=fun j=>by
  rw [List.mem_append,List.mem_cons];have hm:j∈L↔j∈L.take k\/j∈L.drop k:=by rw [<- List.mem_append,List.take_append_drop]
  have hj:=h.mem j;constructor
  ·rintro (hh | rfl | hh)
   ·have:=hj.1 (hm.2 (.inl hh));exact ⟨by omega,this.2⟩
   ·exact ⟨by omega,hi,hs⟩
   ·have:=hj.1 (hm.2 (.inr hh));exact ⟨by omega,this.2⟩
  ·rintro ⟨a,b⟩
   by_cases e:j=i
   ·exact .inr (.inl e)
   ·rcases hm.1 (hj.2 ⟨by omega,b⟩) with hh | hh
    ·exact .inl hh
    ·exact .inr (.inr hh)
 rise:=by
  have hr:=h.rise;rw [<- List.take_append_drop k L,List.pairwise_append] at hr;rw [List.pairwise_append,List.pairwise_cons];refine ⟨hr.1,⟨h1,hr.2.1⟩,fun a ha b hb=>?_⟩;rcases List.mem_cons.1 hb with rfl | hb
  ·exact h2 a ha
  ·exact hr.2.2 a ha b hb
 len:=by have h3:=h.len;have h4:=congrArg List.length (List.take_append_drop k L);rw [List.length_append] at h4;rw [List.length_append,List.length_cons];omega
theorem open03 (w:World) (vr vn:Value) (N:List Note) (hn:Sl zBL 10 w vn N) (hN:N.length<=1000) (hd:∀ i j,i < j->j < N.length->nm N i≠nm N j) :
  Calls prog 53 #[.agg #[vr,vn]] w fun e w'=>∃ u L,e = .returned u/\w'.ownsRow w.heap.size 3 1 u L.length (rowN L)/\OpenIx N N.length L/\Below w.heap.size w w':=by
 obtain ⟨i0,hif,iz0,iz1,iz2⟩:=info_parts zFY;obtain ⟨hb1,B1⟩:=zBY w #[vr,vn] 27;have c1:=B1 1 vn rfl;clear B1;obtain ⟨an,capn,rfl,hmn⟩:=zD hn;have hn1:=zJ zAN hb1 hn;have C:=zE c1;have HW1:Hid ((w.alloc (.cells #[vr,.slice an N.length capn] 27)).heap.size=w.heap.size+1):=World.size_alloc _ _;clear hn c1;go_enter func53,ntmps53;go_wp2;generalize w.alloc _=w1 at *;go_loopw [3,4] (fun o i wr=>∃ (k:Nat) (L:List Nat),i = .int .i64 k/\k<=N.length/\wr.ownsRow w1.heap.size 3 1 o L.length (rowN L)/\OpenIx N k L/\Below w1.heap.size w1 wr) (fun _ i _=>N.length - (intOf i).toNat)
 case atStart=>exact ⟨0,[],rfl,by omega,World.ownsRow_nil _ _ _ _,⟨fun j=>by simp,by simp,by simp⟩,br_⟩
 case round =>
  obtain ⟨i,L,rfl,hi,hown,hix,hb⟩:=hrel;have HIX:=zE hix;have c1:=zC hb C.out;have hLl:=hix.len;clear hix;unfold zK at c1;by_cases hlt:i < N.length
  case neg =>
   obtain rfl:i=N.length:=by omega
   have HOWN:=zE hown;clear hown;go_wp2;go_ret;exact ⟨u3,L,rfl,own_weak' (by have:=HW1.out;omega) HOWN.out,HIX.out,zA hb1 hb⟩
  case pos =>
   obtain ⟨bn,on,rfl,⟨q0,q1,q2,_⟩,_⟩:=(zY (zJ zAN hb hn1)).2 i hlt;have HX:Hid (∀ P:Note->Prop,P N[i]->P N[i]):=fun _ h=>h
   generalize hx:N[i]=x at *;have HX:=zE hx;clear hx;unfold zK at q0 q2;by_cases hs:(x.sg != 1)=true
   ·have HOWN:=zE hown
    clear hown;go_wp2;go_roundw
    ·exact ⟨i+1,L,by go_num,by omega,HOWN.out,HIX.out.skip hlt (by rw [HX.out];simpa using hs),hb⟩
    ·simp [intOf];omega
   ·have hs':(x.sg != 1)=false:=by simpa using hs
    have hs1:x.sg=1:=by simpa using hs
    have HS:=zE hs1;have hxm:Hid (nm N i=x.num):=by unfold Hid;rw [nm_at hlt,HX.out]
    clear hs hs1;have hLN:L.length<=1000:=by omega
    have HD:=zE hd;go_wp2_with (at_builtin;refine wpList_append_own _ rfl _ _ 28 rfl w1.heap.size 3 i0 (.int .i64 0) 1 8 underlying28 hif iz0 iz1 iz2 rfl (by decide) _ _ _ rfl (hown.alloc _) ⟨wr.heap.size,0,none⟩ 1 1 [.int .i64 (i:Int)] rfl rfl (cell_one_new _ _ _) (by simp [Value.oneCell']) (by unfold maxLen;omega) (by omega) (by have:=hb.size;simp;omega) ?_;intro v9 w2 hown9 hgrow _;obtain ⟨gg,capg,hv⟩:=zDM hown9;rw [hv]);have hb2:=(hb.alloc hb.size (.cells #[.int .i64 (i:Int)] 3)).grown hgrow (by have:=hb.size;simp;omega) (fun k e=>(hown.lt k e).1);rw [hv] at hown9;have hown0:w2.ownsRow w1.heap.size 3 1 (.slice (some ⟨gg,0,none⟩) (L.length+1) capg) (L.length+1) (rowN (L.take L.length++i :: L.drop L.length)):=by rw [List.take_length,List.drop_length,rowN_snoc];exact hown9
    have hlenM:∀ k,k<=L.length->(L.take k++i :: L.drop k).length=L.length+1:=fun k hk=>by rw [List.length_append,List.length_cons,List.length_take,List.length_drop];omega
    have HLM:=zE hlenM;clear hown hown9 hgrow c1 q0 q1 q2 hb hlenM;go_loopw [5] (fun kk wz=>∃ k:Nat,kk = .int .i64 k/\k<=L.length/\wz.ownsRow w1.heap.size 3 1 (.slice (some ⟨gg,0,none⟩) (L.length+1) capg) (L.length+1) (rowN (L.take k++i :: L.drop k))/\(∀ y∈L.drop k,nm N i < nm N y)/\Below w1.heap.size w1 wz) (fun kk _=>(intOf kk).toNat)
    case atStart=>exact ⟨L.length,rfl,Nat.le_refl _,hown0,by simp [List.drop_length],hb2⟩
    case round =>
     obtain ⟨k,rfl,hk,hown,hall,hbz⟩:=hrel;clear hown0 hb2;have HALL:=zE hall;have c1:=zC hbz C.out;unfold zK at c1;clear hall;cases k with
     | zero =>
       have HOWN:=zE hown;clear hown;go_wp2;refine wp_region_quiet_lit (by kernel_rfl) (by kernel_rfl) (no_implicit_lambda% ?_);repeat ((with_reducible refine wpQuiet_step (fun K hK=>?_));go_simp;first | ((with_reducible refine hK _ ?_);clear hK K) | (refine hK _ (no_implicit_lambda% ?_);clear hK K) | (apply Exists.intro;(with_reducible refine ⟨fun _=>?_,hK _ ?_⟩);(fail);clear hK K))
       with_reducible refine wpQuiet_nil ?_
       intro _ hw9;obtain ⟨nq,hw8⟩:=hw9;subst hw8;go_wp2;go_roundw
       ·exact ⟨i+1,L.take 0++i :: L.drop 0,by go_num,by omega,by rw [HLM.out 0 (by omega)];exact zAC (zAJ _ _) HOWN.out,HIX.out.put hlt (by rw [HX.out];exact HS.out) (by omega) HALL.out (fun y hy=>by simp at hy),zA hbz (zAJ _ _)⟩
       ·simp [intOf];omega
     | succ k =>
       have hkl:k < L.length:=by omega
       have hmk:=(HIX.out.mem L[k]).1 (List.getElem_mem hkl);have hyN:L[k] < N.length:=hmk.2.1;have hM1:(rowN (L.take (k+1)++i :: L.drop (k+1)))[k+1]? = some (.int .i64 (i:Int)):=by rw [rowN_at _ _ (by rw [HLM.out (k+1) hk];omega)];rw [List.getElem_append_right (by rw [List.length_take];omega)];simp [List.length_take,Nat.min_eq_left hk]
       have hM0:(rowN (L.take (k+1)++i :: L.drop (k+1)))[k]? = some (.int .i64 (L[k] : Int)):=by rw [rowN_at _ _ (by rw [HLM.out (k+1) hk];omega)];rw [List.getElem_append_left (by rw [List.length_take];omega)];simp
       have e1:=hown.cells (g:=gg) rfl (k+1) _ hM1;have e0:=hown.cells (g:=gg) rfl k _ hM0;rw [zAZ] at e1 e0;obtain ⟨bn2,on2,hh2,⟨p0,_⟩,_⟩:=(zY (zJ zAN hbz hn1)).2 L[k] hyN;cases hh2;obtain ⟨bn3,on3,hh3,⟨q0,_⟩,_⟩:=(zY (zJ zAN hbz hn1)).2 i hlt;cases hh3;rw [HX.out] at q0;have hym:Hid (nm N L[k]=N[L[k]].num):=nm_at hyN;generalize hy:N[L[k]].num=yn at *;have hne:Hid (L[k] < i):=hmk.1;have hswap:=zE (swap_downG L i k hkl);have hdrop:Hid (L.drop k=L[k] :: L.drop (k+1)):=List.drop_eq_getElem_cons hkl;have htake:Hid (L.take (k+1)=L.take k++[L[k]]):=List.take_succ_eq_append_getElem hkl;have hrise:=HIX.out.rise;have hpre:Hid (∀ y∈L.take k,nm N y < nm N L[k]):=fun y hy=>by
        rw [<- List.take_append_drop k L,List.pairwise_append] at hrise;exact hrise.2.2 y hy L[k] (by rw [hdrop.out];exact List.mem_cons_self ..)
       clear hrise hM1 hM0 hy hmk;generalize L[k]=yi at *;unfold zK at p0 q0;have hi1:(k:Int)+1 < (L.length:Int)+1:=by omega
       have hi2:(k:Int) < (L.length:Int)+1:=by omega
       have hi3:0<=(k:Int)+1:=by omega
       have hi4:((k:Int)+1).toNat=k+1:=by omega
       have hi5:(0:Int) < (k:Int)+1:=by omega
       have hiN:(i:Int) < N.length:=by omega
       have hyN2:(yi:Int) < N.length:=by omega
       have hwk:IntKind.i64.wrap (k:Int)=k:=IntWalk.i64_in _ (by omega);by_cases hc:x.num < yn
       ·have f1:=zNI hown (k+1)
        have f0:=zNI hown k;have hgl:gg < wr.heap.size:=(hown.lt gg rfl).2;have HOWN:=zE hown;clear hown;go_wp2;refine wp_region_quiet_lit (by kernel_rfl) (by kernel_rfl) (no_implicit_lambda% ?_);repeat ((with_reducible refine wpQuiet_step (fun K hK=>?_));go_simp;first | ((with_reducible refine hK _ ?_);clear hK K) | (refine hK _ (no_implicit_lambda% ?_);clear hK K) | (apply Exists.intro;(with_reducible refine ⟨fun _=>?_,hK _ ?_⟩);(fail);clear hK K))
        with_reducible refine wpQuiet_nil ?_
        intro _ hw9;obtain ⟨nq,hw8⟩:=hw9;subst hw8;go_wp2;go_roundw
        case rel =>
         have h1:=zAC (zAJ wr nq) HOWN.out;have h2:=(h1.stored (k+1) (.int .i64 (yi:Int))).1;have h3:=(h2.stored k (.int .i64 (i:Int))).1;rw [rowN_set,rowN_set,hswap.out] at h3;refine ⟨k,rfl,by omega,h3,fun y hy=>?_,?_⟩
         ·rw [hdrop.out] at hy
          rcases List.mem_cons.1 hy with rfl | hy
          ·rw [hxm.out,hym.out];exact hc
          ·exact HALL.out y hy
         ·have hgw:w1.heap.size<=gg:=(HOWN.out.lt gg rfl).1;exact zI hgw (zI hgw (zA hbz (zAJ _ _)))
        case measure=>first | (simp [intOf];done) | (simp [intOf];omega)
       ·have hc':¬ (yn > x.num):=by omega
        have HOWN:=zE hown;clear hown;go_wp2;refine wp_region_quiet_lit (by kernel_rfl) (by kernel_rfl) (no_implicit_lambda% ?_);repeat ((with_reducible refine wpQuiet_step (fun K hK=>?_));go_simp;first | ((with_reducible refine hK _ ?_);clear hK K) | (refine hK _ (no_implicit_lambda% ?_);clear hK K) | (apply Exists.intro;(with_reducible refine ⟨fun _=>?_,hK _ ?_⟩);(fail);clear hK K))
        with_reducible refine wpQuiet_nil ?_
        intro _ hw9;obtain ⟨nq,hw8⟩:=hw9;subst hw8;go_wp2;go_roundw
        case rel =>
         refine ⟨i+1,L.take (k+1)++i :: L.drop (k+1),by go_num,by omega,by rw [HLM.out (k+1) hk];exact zAC (zAJ _ _) HOWN.out,HIX.out.put hlt (by rw [HX.out];exact HS.out) hk HALL.out (fun y hy=>?_),zA hbz (zAJ _ _)⟩;rw [htake.out,List.mem_append] at hy;have h9:nm N yi < nm N i:=by have h1:=hym.out;have h2:=hxm.out;have h3:=HD.out yi i hne.out hlt;omega
         rcases hy with hy | hy
         ·exact Int.lt_trans (hpre.out y hy) h9
         ·simp at hy;subst hy;exact h9
        case measure=>simp [intOf];omega
end
section
open Tryz
open Go.RowKit
attribute [local go_sem] zAE Oper.grows Oper.growUpon
def zBO (N:List Note) : List Int:=(N.filter (fun x=>x.sg == 1)).map (·.num)
theorem opens_mem (N:List Note) (y:Int) : y∈zBO N↔∃ j,∃ h:j < N.length,N[j].sg=1/\N[j].num=y:=by
 unfold zBO;rw [List.mem_map];constructor
 ·rintro ⟨x,hx,rfl⟩;obtain ⟨hx,hs⟩:=List.mem_filter.1 hx;obtain ⟨j,hj,rfl⟩:=List.getElem_of_mem hx;exact ⟨j,hj,by simpa using hs,rfl⟩
 ·rintro ⟨j,hj,hs,rfl⟩;exact ⟨N[j],List.mem_filter.2 ⟨List.getElem_mem hj,by simpa using hs⟩,rfl⟩
theorem OpenIx.nums {N:List Note} {L:List Nat} (h:OpenIx N N.length L) : (L.map (nm N)).Pairwise (· < ·)/\∀ y,y∈L.map (nm N)↔y∈zBO N:=by
 refine ⟨by rw [List.pairwise_map];exact h.rise,fun y=>?_⟩;rw [List.mem_map,opens_mem];constructor
 ·rintro ⟨j,hj,rfl⟩;obtain ⟨h1,h2,h3⟩:=(h.mem j).1 hj;exact ⟨j,h2,h3,(nm_at h2).symm⟩
 ·rintro ⟨j,hj,hs,rfl⟩;exact ⟨j,(h.mem j).2 ⟨hj,hj,hs⟩,nm_at hj⟩
theorem isT_of {O S:List Int} (h:∀ j,(hj:j < S.length)->S[j]∈O/\∀ h0:0 < j,S[j - 1] < S[j]) : IsT O S:=by
 refine ⟨?_,fun x hx=>?_⟩
 ·rw [List.pairwise_iff_getElem]
  intro i j hi hj hij;obtain ⟨d,rfl⟩ : ∃ d,j=i+1+d:=⟨j - i - 1,by omega⟩;clear hij;induction d with
  | zero=>exact (h (i+1) hj).2 (by omega)
  | succ d ih =>
    have h1:=ih (by omega);have h2:=(h (i+1+(d+1)) hj).2 (by omega);have e:i+1+(d+1) - 1=i+1+d:=by omega
    simp only [e] at h2;exact Int.lt_trans h1 h2
 ·obtain ⟨j,hj,rfl⟩:=List.getElem_of_mem hx;exact (h j hj).1
theorem isT_at {O S:List Int} (h:IsT O S) (j:Nat) (hj:j < S.length) : S[j]∈O/\∀ h0:0 < j,S[j - 1] < S[j] :=
 ⟨h.2 _ (List.getElem_mem hj),fun h0=>List.pairwise_iff_getElem.1 h.1 (j - 1) j (by omega) hj (by omega)⟩
end
end Go.Proofs.YtipaopbmklbmnaaGreatDoor
