/- Lemmas. -/
import Derived.Laws.AppendOwn
import Derived.Test.YtipaopbmklbmnaaGreatDoorT38
set_option linter.all false
set_option maxRecDepth 100000
set_option maxHeartbeats 0
namespace Go.Proofs.YtipaopbmklbmnaaGreatDoor
section
open Tryz
open Go.RowKit Go.Shelf
structure LeastTo (xs:List (List Int)) (k:Nat) (l:List Int) : Prop where
 mem:l∈xs.take k
 le:∀ y∈xs.take k,LeL l y
theorem LeastTo.keep {xs:List (List Int)} {k:Nat} {l:List Int} (h:LeastTo xs k l) (hk:k < xs.length) (hn:zFV xs[k] l=false) : LeastTo xs (k+1) l :=
 ⟨by rw [List.take_succ_eq_append_getElem hk];exact List.mem_append_left _ h.mem,fun y hy=>by
  rw [List.take_succ_eq_append_getElem hk,List.mem_append,List.mem_singleton] at hy;rcases hy with hy | rfl
  ·exact h.le y hy
  ·exact hn⟩
theorem LeastTo.turn {xs:List (List Int)} {k:Nat} {l:List Int} (h:LeastTo xs k l) (hk:k < xs.length) (hn:zFV xs[k] l=true) : LeastTo xs (k+1) xs[k] :=
 ⟨by rw [List.take_succ_eq_append_getElem hk];exact List.mem_append_right _ (List.mem_singleton.2 rfl),fun y hy=>by
  rw [List.take_succ_eq_append_getElem hk,List.mem_append,List.mem_singleton] at hy;rcases hy with hy | rfl
  ·exact leL_tr (leL_of hn) (h.le y hy)
  ·exact zKS _⟩
theorem minFunc_lists (w:World) (vl:Value) (xs:List (List Int)) (h:Sl zJU 1 w vl xs) (hne:0 < xs.length) :
  Calls prog 136 #[vl,.func (.func 91) #[] #[]] w fun e w'=>∃ u l,e = .returned u/\LeastTo xs xs.length l/\Sl zAM 1 w' u l/\Below w.heap.size w w':=by
 obtain ⟨a,cap,rfl,hm⟩:=zD h;have HS:=zE h;obtain ⟨b0,o0,rfl,v0,hc0,hs0⟩:=(zY h).2 0 hne;obtain ⟨a0,c0,rfl,_⟩:=zD hs0;have hL0:LeastTo xs 1 xs[0]:=by
  have e:xs.take 1=[xs[0]]:=by
   cases xs with
   | nil=>simp at hne
   | cons x r=>rfl
  exact ⟨by rw [e];simp,fun y hy=>by rw [e,List.mem_singleton] at hy;subst hy;exact zKS _⟩
 have HL0:=zE hL0;have HS0:=zE hs0;rw [Nat.mul_comm,Nat.mul_zero,Nat.add_zero] at hc0;generalize xs[0]=x0 at *;have h1:¬ ((xs.length:Int) < 1):=by omega
 have h00:(0:Int) < xs.length:=by omega
 have eg:=zNU;unfold Enters at eg;unfold zK at hc0;clear h hL0 hs0;go_enter func136,ntmps136;go_wp2;clear hc0;go_loopw [5,6] (fun q i wr=>∃ (k:Nat) (l:List Int),i = .int .i64 k/\0 < k/\k<=xs.length/\Hid (LeastTo xs k l)/\Hid (Sl zAM 1 wr q l)/\Hid (Below w.heap.size w wr)) (fun _ i _=>xs.length - (intOf i).toNat)
 case atStart=>exact ⟨1,x0,rfl,by omega,by omega,HL0,HS0,zE (br_)⟩
 case round =>
  clear HL0 HS0;obtain ⟨k,l,rfl,hk0,hk,HL,HQ,HB⟩:=hrel;by_cases hlt:k < xs.length
  case neg =>
   obtain rfl:k=xs.length:=by omega
   go_wp2;go_ret;exact ⟨_,l,rfl,HL.out,HQ.out,HB.out⟩
  case pos =>
   have hkl:(k:Int) < xs.length:=by omega
   obtain ⟨b1,o1,he,v1,hc1,hs1⟩:=(zY (zJ zGK HB.out HS.out)).2 k hlt;cases he;obtain ⟨a1,c1,rfl,_⟩:=zD hs1;rw [Nat.mul_one] at hc1;have hky:=zE (fun h=>HL.out.keep hlt h);have htn:=zE (fun h=>HL.out.turn hlt h);have HC1:=zE hc1;obtain ⟨aq,cq,hq,_⟩:=zD HQ.out;subst hq;have hcall:=zE ((zMX wr _ _ xs[k] l hs1 HQ.out).mono fun e w' (h:_/\_)=>(show e = .returned (.int .i64 (shortC xs[k] l))/\Below wr.heap.size wr w' from ⟨h.1,by rw [h.2];exact zB _ _⟩));have HS1:=zE hs1;have hsc:=zE (shortC_bef xs[k] l);generalize xs[k]=x at *;generalize hgs:shortC x l=sc at *;generalize wr=wq at *;unfold zK at hc1;clear hgs HL hs1;by_cases hb:sc < 0
   ·have ht:=zE (htn.out (hsc.out.1 hb))
    clear hky htn hsc;go_wp2_with (go_at_fn 91;refine hcall.out.mono ?_;rintro e w3 ⟨rfl,hb3⟩;have hc1:=zC hb3 HC1.out;unfold zK at hc1;have HQ3:=zE (zJ zN hb3 HQ.out);have HS3:=zE (zJ zN hb3 HS1.out);have HB3:=zE (zA HB.out hb3));go_wp2;go_roundw
    ·exact ⟨k+1,x,by go_num,by omega,by omega,ht,HS3,HB3⟩
    ·simp [intOf];omega
   ·have ht:=zE (hky.out (by
     cases h:zFV x l with
     | false=>rfl
     | true=>exact absurd (hsc.out.2 h) hb))
    clear hky htn hsc;go_wp2_with (go_at_fn 91;refine hcall.out.mono ?_;rintro e w3 ⟨rfl,hb3⟩;have hc1:=zC hb3 HC1.out;unfold zK at hc1;have HQ3:=zE (zJ zN hb3 HQ.out);have HS3:=zE (zJ zN hb3 HS1.out);have HB3:=zE (zA HB.out hb3));go_wp2;go_roundw
    ·exact ⟨k+1,l,by go_num,by omega,by omega,ht,HQ3,HB3⟩
    ·simp [intOf];omega
end
section
open Tryz
open Go.RowKit
section
variable {P:Program} (w:World)
end
end
section
open Tryz
open Go.RowKit
attribute [local go_sem] zAE Oper.grows Oper.growUpon
structure InsTo (l L:List Int) (j:Nat) (r:List Int) : Prop where
 rise:r.Pairwise (· < ·)
 mem:∀ x,x∈r↔x∈l\/x∈L.take j
theorem InsTo.put {l L r:List Int} {j k:Nat} (h:InsTo l L j r) (hj:j < L.length) (hk:k<=r.length) (h1:∀ y∈r.drop k,L[j] < y) (h2:∀ y∈r.take k,y < L[j]) : InsTo l L (j+1) (r.take k++L[j] :: r.drop k):=by
 have e:∀ x,x∈r↔x∈r.take k\/x∈r.drop k:=fun x=>by rw [<- List.mem_append,List.take_append_drop]
 refine ⟨?_,fun x=>?_⟩
 ·have hr:=h.rise
  rw [<- List.take_append_drop k r,List.pairwise_append] at hr;rw [List.pairwise_append,List.pairwise_cons];refine ⟨hr.1,⟨h1,hr.2.1⟩,fun a ha c hc=>?_⟩;rcases List.mem_cons.1 hc with rfl | hc
  ·exact h2 a ha
  ·exact hr.2.2 a ha c hc
 ·rw [List.mem_append,List.mem_cons,List.take_succ_eq_append_getElem hj,List.mem_append,List.mem_singleton]
  have hm:=h.mem x;have he:=e x;constructor
  ·rintro (a | a | a)
   ·rcases hm.1 (he.2 (.inl a)) with c | c
    ·exact .inl c
    ·exact .inr (.inl c)
   ·exact .inr (.inr a)
   ·rcases hm.1 (he.2 (.inr a)) with c | c
    ·exact .inl c
    ·exact .inr (.inl c)
  ·rintro (a | a | a)
   ·rcases he.1 (hm.2 (.inl a)) with c | c
    ·exact .inl c
    ·exact .inr (.inr c)
   ·rcases he.1 (hm.2 (.inr a)) with c | c
    ·exact .inl c
    ·exact .inr (.inr c)
   ·exact .inr (.inl a)
theorem IsBrk.len {b:Built} (hv:zF b=0) {S:List Int} {m:Nat} {nn:Nat->Int} {l:List Int} (h:IsBrk b S m nn l) : l.length<=10:=by
 have h1:l.length<=(zGX b).length:=rise_len h.rise (fun x hx=>by
  rcases (h.mem x).1 hx with h1 | ⟨k,hk,h1⟩
  ·exact (zFW hv S _ _).2 x h1
  ·exact (zFW hv S _ _).2 x h1)
 have h2:=(zS hv).2.2.2.2.1;unfold zGX at h1;rw [List.length_map] at h1;omega
theorem InsTo.len {b:Built} (hv:zF b=0) {S:List Int} {m:Nat} {nn:Nat->Int} {l r:List Int} {z:Int} {j:Nat} (h:IsBrk b S m nn l) (hr:InsTo l (zCW b S m z) j r) : r.length<=10:=by
 have h1:r.length<=(zGX b).length:=rise_len hr.rise (fun x hx=>by
  rcases (hr.mem x).1 hx with hx | hx
  ·rcases (h.mem x).1 hx with h1 | ⟨k,hk,h1⟩
   ·exact (zFW hv S _ _).2 x h1
   ·exact (zFW hv S _ _).2 x h1
  ·exact (zFW hv S _ _).2 x (List.mem_of_mem_take hx))
 have h2:=(zS hv).2.2.2.2.1;unfold zGX at h1;rw [List.length_map] at h1;omega
structure BestTo (b:Built) (S:List Int) (k:Nat) (lo:Int) (j:Nat) (z:Int) : Prop where
 in_:lo<=z/\z<=lo+j
 best:∀ n,lo<=n->n<=lo+j->LeL (zCW b S k z) (zCW b S k n)
theorem BestTo.keep {b:Built} {S:List Int} {k:Nat} {lo:Int} {j:Nat} {z:Int} (h:BestTo b S k lo j z) (hn:zFV (zCW b S k (lo+j+1)) (zCW b S k z)=false) : BestTo b S k lo (j+1) z :=
 ⟨by have:=h.in_;omega,fun n h1 h2=>by
  by_cases e:n=lo+j+1
  ·subst e;exact hn
  ·exact h.best n h1 (by omega)⟩
end
section
open Tryz
open Go.RowKit Go.Shelf
attribute [local go_sem] zAE Oper.grows Oper.growUpon
open Classical in
noncomputable def wdL (b:Built) : List Int:=if h:zF b=0/\∃ l,IsWd b l then h.2.choose else []
theorem wdL_is {b:Built} (hv:zF b=0) {l:List Int} (h:IsWd b l) : wdL b=l:=by
 have hh:zF b=0/\∃ l,IsWd b l:=⟨hv,l,h⟩;unfold wdL;rw [dif_pos hh];exact hh.2.choose_spec.eq h
theorem wdL_bad {b:Built} (hv:zF b≠0) : wdL b=[]:=by
 unfold wdL;rw [dif_neg (fun h=>hv h.1)]
structure WdTo (b:Built) (T:List (List Int)) (k:Nat) (l:List Int) : Prop where
 one:∃ S∈T.take k,∃ nn,IsBrk b S b.hs.length nn l
 all:∀ S∈T.take k,∃ l' nn,IsBrk b S b.hs.length nn l'/\LeL l l'
theorem WdTo.keep {b:Built} {T:List (List Int)} {k:Nat} {l x:List Int} {nn:Nat->Int} (h:WdTo b T k l) (hk:k < T.length) (hx:IsBrk b T[k] b.hs.length nn x) (hn:zFV x l=false) : WdTo b T (k+1) l:=by
 obtain ⟨⟨S,hS,hh⟩,ha⟩:=h;refine ⟨⟨S,by rw [List.take_succ_eq_append_getElem hk];exact List.mem_append_left _ hS,hh⟩,fun S' hS'=>?_⟩;rw [List.take_succ_eq_append_getElem hk,List.mem_append,List.mem_singleton] at hS';rcases hS' with h | rfl
 ·exact ha S' h
 ·exact ⟨x,nn,hx,hn⟩
end
section
open Tryz
open Go.RowKit
theorem bit10:∀ s,s < 1024->∀ i,i < 10->bits BinOp.and IntKind.i64 (((s:Nat) : Int) / 2 ^ i) 1=if s.testBit i then 1 else 0:=by decide +kernel
theorem shl11 (n:Nat) (hn:n < 11) : ∃ M:Nat,M=2 ^ n/\M<=1024/\wrap64 (2 ^ n)=(M:Int)/\IntKind.i64.wrap (2 ^ n)=(M:Int):=by
 have h:n=0\/n=1\/n=2\/n=3\/n=4\/n=5\/n=6\/n=7\/n=8\/n=9\/n=10:=by omega
 rcases h with rfl | rfl | rfl | rfl | rfl | rfl | rfl | rfl | rfl | rfl | rfl <;> exact ⟨_,rfl,by decide,IntWalk.wrap64_in _ (by omega),IntWalk.i64_in _ (by omega)⟩
def zIS (b:Built) (s j:Nat) : List Int:=zPH (zGX b) s j
def zIF (b:Built) (s j:Nat) : List Report:=(b.rs.take j).filter fun r=>decide (r.num ∉ zIS b s b.rs.length)
theorem rnums_len (b:Built) : (zGX b).length=b.rs.length:=List.length_map ..
theorem zNG {b:Built} {j:Nat} (hj:j < b.rs.length) : (zGX b)[j]? = some b.rs[j].num:=by unfold zGX;rw [List.getElem?_map,List.getElem?_eq_getElem hj];rfl
theorem out_bit {b:Built} (h:zF b=0) {s j:Nat} (hj:j < b.rs.length) : b.rs[j].num∈zIS b s b.rs.length↔s.testBit j=true:=by
 unfold zIS;rw [zJW (by rw [rnums_len];exact Nat.le_refl _)];constructor
 ·rintro ⟨i,hi,h1,h2⟩
  rw [zNG hi] at h2;have e:b.rs[i]=b.rs[j]:=rep_eq h (List.getElem_mem hi) (List.getElem_mem hj) (by simpa using h2);have:i=j:=by
   have hr:=List.pairwise_iff_getElem.1 (zFB h);unfold zGX at hr;simp only [List.length_map,List.getElem_map] at hr;rcases Nat.lt_trichotomy i j with h3 | h3 | h3
   ·have:=hr i j hi hj h3;rw [e] at this;omega
   ·exact h3
   ·have:=hr j i hj hi h3;rw [e] at this;omega
  subst this;exact h1
 ·intro hb;exact ⟨j,hj,hb,zNG hj⟩
theorem outOf_succ {b:Built} {s j:Nat} (hj:j < b.rs.length) : zIS b s (j+1)=zIS b s j++(if s.testBit j then [b.rs[j].num] else []):=by
 unfold zIS;simp only [zPH];rw [List.getD_eq_getElem?_getD,zNG hj];rfl
theorem outOf_le (b:Built) (s j:Nat) : (zIS b s j).length<=j:=selTo_le _ _ _
theorem kept_yes {b:Built} (h:zF b=0) {s j:Nat} (hj:j < b.rs.length) (hb:s.testBit j=false) : zIF b s (j+1)=zIF b s j++[b.rs[j]]:=by
 unfold zIF;rw [List.take_succ_eq_append_getElem hj,List.filter_append];have:b.rs[j].num ∉ zIS b s b.rs.length:=fun hm=>by rw [(out_bit h hj).1 hm] at hb;cases hb
 simp [this]
theorem kept_no {b:Built} (h:zF b=0) {s j:Nat} (hj:j < b.rs.length) (hb:s.testBit j=true) : zIF b s (j+1)=zIF b s j:=by
 unfold zIF;rw [List.take_succ_eq_append_getElem hj,List.filter_append];simp [(out_bit h hj).2 hb]
theorem kept_all (b:Built) (s:Nat) : { b with rs:=zIF b s b.rs.length } = b.but (zIS b s b.rs.length):=by
 unfold zIF Built.but;rw [List.take_length]
theorem kept_sub (b:Built) (s j:Nat) : (zIF b s j).Sublist b.rs:=List.filter_sublist.trans (List.take_sublist _ _)
theorem kept_le (b:Built) (s j:Nat) : (zIF b s j).length<=j:=Nat.le_trans (List.length_filter_le _ _) (by rw [List.length_take];omega)
def FitsB (b:Built) (l:List Int) : Prop:=∃ S,IsT (zBO b.ns.notes) S/\zCV (b.but l) S
open Classical in
noncomputable def zEE (b:Built) (s:Nat) : List (List Int):=((List.range s).map fun s=>zIS b s b.rs.length).filter fun l=>decide (FitsB b l)
theorem outs_yes {b:Built} {s:Nat} (h:FitsB b (zIS b s b.rs.length)) : zEE b (s+1)=zEE b s++[zIS b s b.rs.length]:=by
 unfold zEE;rw [List.range_succ,List.map_append,List.filter_append];simp [h]
theorem outs_no {b:Built} {s:Nat} (h:¬ FitsB b (zIS b s b.rs.length)) : zEE b (s+1)=zEE b s:=by
 unfold zEE;rw [List.range_succ,List.map_append,List.filter_append];simp [h]
theorem outs_le (b:Built) (s:Nat) : (zEE b s).length<=s:=by
 unfold zEE;exact Nat.le_trans (List.length_filter_le _ _) (by rw [List.length_map,List.length_range];exact Nat.le_refl _)
theorem outs_mem {b:Built} (h:zF b=0) (l:List Int) : l∈zEE b (2 ^ b.rs.length)↔Outs b l:=by
 have e:((List.range (2 ^ b.rs.length)).map fun s=>zIS b s b.rs.length)=refT (zGX b):=by unfold refT zIS;rw [rnums_len]
 unfold zEE;rw [e,List.mem_filter,refT_mem (zFB h)];simp only [decide_eq_true_eq];exact Iff.rfl
theorem outs_ne {b:Built} (h:zF b=0) : 0 < (zEE b (2 ^ b.rs.length)).length:=by
 have:zGX b∈zEE b (2 ^ b.rs.length):=(outs_mem h _).2 ⟨⟨zFB h,fun x hx=>hx⟩,[],⟨List.Pairwise.nil,fun x hx=>by simp at hx⟩,zRA.2 ⟨fun k hk=>⟨b.hs[k].lo,⟨Int.le_refl _,(zGO h hk).2.1⟩,(zFW h [] _ _).2⟩,(zFW h [] _ _).2⟩⟩;exact List.length_pos_of_mem this
theorem rep_get:∀ (L:List Report) (k:Nat) (hk:k < L.length) (j:Nat),j < 5->(L.flatMap zOG)[k*5+j]? = (zOG L[k])[j]?
 | [],k,hk,_,_=>by simp at hk
 | x :: L,0,_,j,hj=>by
   rw [List.flatMap_cons,Nat.zero_mul,Nat.zero_add,List.getElem?_append_left (by simp [zOG];omega)];rfl
 | x :: L,k+1,hk,j,hj=>by
   rw [List.flatMap_cons,List.getElem?_append_right (by simp [zOG];omega)];have e:(k+1)*5+j - (zOG x).length=k*5+j:=by simp [zOG];omega
   rw [e,rep_get L k (by simpa using hk) j hj];rfl
def RepNum (x:Report) : Prop:=I64 x.num/\I64 x.m/\I64 x.d/\I64 x.l/\U8 x.k
theorem rep_sl {w:World} {base:Nat} {v:Value} {L:List Report} (h:w.ownsRow base 49 5 v L.length (L.flatMap zOG)) (hI:∀ x∈L,RepNum x) : Sl zAT 5 w v L:=by
 have h':=h;obtain ⟨_,h2⟩:=h;rcases h2 with ⟨rfl,hn⟩ | ⟨g,cap,cur,rfl,_,_,hc,hcm,_⟩
 ·exact ⟨none,0,by rw [hn],by omega,fun k hk=>by omega⟩
 ·have hcell:∀ k (hk:k < L.length) j u,j < 5->(zOG L[k])[j]? = some u->zK w g (0+k*5+j) u:=fun k hk j u hj hu=>by
   have:=h'.cells (g:=g) rfl (k*5+j) u (by rw [rep_get L k hk j hj];exact hu);rw [zAZ] at this;rw [Nat.zero_add];exact this
  refine ⟨some ⟨g,0,none⟩,cap,rfl,by unfold maxLen at hcm;omega,fun k hk=>⟨g,0,rfl,⟨?_,?_,?_,?_,?_⟩,hI _ (List.getElem_mem hk)⟩⟩
  ·exact hcell k hk 0 _ (by decide) rfl
  ·exact hcell k hk 1 _ (by decide) rfl
  ·exact hcell k hk 2 _ (by decide) rfl
  ·exact hcell k hk 3 _ (by decide) rfl
  ·exact hcell k hk 4 _ (by decide) rfl
end
section
open Tryz
open Go.RowKit Go.Shelf
attribute [local go_sem] zAE Oper.grows Oper.growUpon
theorem rep_one (w:World) (x:Report) (h:(I64 x.num/\I64 x.m/\I64 x.d/\I64 x.l/\U8 x.k)) : Sl zAT 5 (w.alloc (.cells #[.int .i64 x.num,.int .i64 x.m,.int .i64 x.d,.int .i64 x.l,.int .u8 x.k] 49)) (.slice (some ⟨w.heap.size,0,none⟩) 1 1) [x]:=by
 have hl:=Lay.new w 49 #[.int .i64 x.num,.int .i64 x.m,.int .i64 x.d,.int .i64 x.l,.int .u8 x.k];refine ⟨_,_,rfl,by simp,fun k hk=>?_⟩;have e:k=0:=by simpa using hk
 subst e;exact ⟨_,_,rfl,⟨hl.cell 0 _ rfl,hl.cell 1 _ rfl,hl.cell 2 _ rfl,hl.cell 3 _ rfl,hl.cell 4 _ rfl⟩,h⟩
theorem clash_built (w:World) (vr vn vm vh vs:Value) (b:Built) (hA:BuiltArg w vr vn vm vh vs b) (hK:KindsAt w) :
  Calls prog 40 #[.agg #[vr,vn,.int .i64 b.of,vm,vh,vs]] w fun e w'=>∃ u,e = .returned (.tuple #[u,.int .i64 (zF b)])/\Sl zAM 1 w' u (claL b)/\Below w.heap.size w w':=by
 obtain ⟨i0,hif,iz0,iz1,iz2⟩:=info_parts zFY;obtain ⟨ar,cr,rfl,_⟩:=zD hA.at_.reg;obtain ⟨an,cn,rfl,_⟩:=zD hA.at_.notes;obtain ⟨am,cm,rfl,_⟩:=zD hA.at_.ms;obtain ⟨ah,ch,rfl,_⟩:=zD hA.at_.hs;obtain ⟨as',cs',rfl,_⟩:=zD hA.at_.rs;have hb1:=zB w (.cells #[.slice ar b.ns.reg.length cr,.slice an b.ns.notes.length cn,.int .i64 b.of,.slice am b.ms.length cm,.slice ah b.hs.length ch,.slice as' b.rs.length cs'] 32);have HBOX:=zE (Lay.new w 32 #[.slice ar b.ns.reg.length cr,.slice an b.ns.notes.length cn,.int .i64 b.of,.slice am b.ms.length cm,.slice ah b.hs.length ch,.slice as' b.rs.length cs']);have HA:=zE (hA.ext hb1);have HK:=zE (hK.ext hb1);have HBW:=zE hb1;clear hA hK hb1;have k0:=HBOX.out.cell 0 _ rfl;have k1:=HBOX.out.cell 1 _ rfl;have k2:=HBOX.out.cell 2 _ rfl;have k3:=HBOX.out.cell 3 _ rfl;have k4:=HBOX.out.cell 4 _ rfl;have k5:=HBOX.out.cell 5 _ rfl;go_enter func40,ntmps40;go_wp2_with fail;clear k0 k1 k2 k3 k4 k5;generalize w.alloc _=w1 at *;refine (zET _ _ _ _ _ _ b HA.out).mono ?_;rintro e w2 ⟨rfl,hb2⟩;have HBW:=zE (zA HBW.out hb2);have HBOX:=zE (HBOX.out.ext hb2);have HA:=zE (HA.out.ext hb2);have HK:=zE (HK.out.ext hb2);clear hb2;by_cases hv:zF b=0
 case neg =>
  have hv':(zF b != 0)=true:=by simpa using hv
  have HT:Hid (claL b=[]):=by unfold Hid claL;rw [if_neg hv]
  clear hv;go_wp2;go_ret2;exact ⟨_,rfl,by rw [HT.out];exact zIR _ _ _ _ _,HBW.out⟩
 case pos =>
  have HV:=zE hv;have hr10:b.rs.length<=10:=(zS hv).2.2.2.2.1;have HCL:Hid (claL b=zLC b b.rs.length):=by unfold Hid claL;rw [if_pos hv]
  have HC:Hid (zF b=0):=hv;have HLE:=zE (claTo_le b);have HI:=zE (claTo_I64 hv);rw [hv];clear hv;have k0:=HBOX.out.cell 0 _ rfl;have k1:=HBOX.out.cell 1 _ rfl;have k2:=HBOX.out.cell 2 _ rfl;have k3:=HBOX.out.cell 3 _ rfl;have k4:=HBOX.out.cell 4 _ rfl;have k5:=HBOX.out.cell 5 _ rfl;go_wp2_with fail;clear k0 k1 k2 k3 k4 k5;refine (sites_built _ _ _ _ _ _ b HA.out HV.out).mono ?_;rintro e w6 ⟨hb2,v,xs,rfl,hl,hT⟩;obtain ⟨al,cl,rfl,_⟩:=zD hl;have HBW:=zE (zA HBW.out hb2);have HBOX:=zE (HBOX.out.ext hb2);have HA:=zE (HA.out.ext hb2);have HK:=zE (HK.out.ext hb2);have HL:=zE hl;have HT:=zE hT;clear hb2 hl hT;have k5:=HBOX.out.cell 5 _ rfl;go_wp2;clear k5;go_loopw [6,19] (fun q i wr=>∃ k:Nat,i = .int .i64 k/\k<=b.rs.length/\Hid (wr.ownsRow w6.heap.size 3 1 q (zLC b k).length ((zLC b k).map (Value.int .i64)))/\Hid (Below w6.heap.size w6 wr)) (fun _ i _=>b.rs.length - (intOf i).toNat)
  case atStart=>exact ⟨0,rfl,by omega,zE (World.ownsRow_nil _ _ _ _),zE (br_)⟩
  case round =>
   obtain ⟨k,rfl,hk,HO,HB6⟩:=hrel;by_cases hlt:k < b.rs.length
   case neg =>
    obtain rfl:k=b.rs.length:=by omega
    go_wp2;go_ret2;refine ⟨_,by rw [HC.out];rfl,?_,zA HBW.out HB6.out⟩;rw [HCL.out];exact zBF HO.out (HI.out _)
   case pos =>
    have hkl:(k:Int) < b.rs.length:=by omega
    have hyes:=zE (fun h=>claTo_yes (b:=b) hlt h);have hno:=zE (fun h=>claTo_no (b:=b) hlt h);have hle:=HLE.out k;have hLo:Hid (Lone b b.rs[k]↔¬ ∃ S,IsT (zBO b.ns.notes) S/\zCV { b with rs:=[b.rs[k]] } S):=Iff.rfl;have hsub:Hid ([b.rs[k]].Sublist b.rs):=List.singleton_sublist.2 (List.getElem_mem hlt);obtain ⟨gz,oz,haz,⟨z0,z1,z2,z3,z4⟩,hrn⟩:=(zY (zJ zAP HB6.out HA.out.at_.rs)).2 k hlt;cases haz;generalize b.rs[k]=r at *;have hba:=zB wr (.cells #[.int .i64 r.num,.int .i64 r.m,.int .i64 r.d,.int .i64 r.l,.int .u8 r.k] 49);have hrl:=Lay.new wr 49 #[.int .i64 r.num,.int .i64 r.m,.int .i64 r.d,.int .i64 r.l,.int .u8 r.k];have hs1:(wr.alloc (.cells #[.int .i64 r.num,.int .i64 r.m,.int .i64 r.d,.int .i64 r.l,.int .u8 r.k] 49)).heap.size=wr.heap.size+1:=World.size_alloc _ _;have hq:=rep_one (wr.alloc (.cells #[.int .i64 r.num,.int .i64 r.m,.int .i64 r.d,.int .i64 r.l,.int .u8 r.k] 49)) r hrn;rw [hs1] at hq;have hbb:=zB (wr.alloc (.cells #[.int .i64 r.num,.int .i64 r.m,.int .i64 r.d,.int .i64 r.l,.int .u8 r.k] 49)) (.cells #[.int .i64 r.num,.int .i64 r.m,.int .i64 r.d,.int .i64 r.l,.int .u8 r.k] 49);have HBB:=zE (zA hba hbb);have hcall:=zE (fits_built _ _ _ _ _ _ _ _ b xs [r] (zJ (zKI _ _ _ _ _ b) (zA HB6.out HBB.out) HL.out) (HK.out.ext (zA HB6.out HBB.out)) HV.out hq hsub.out HT.out);have HRL:=zE (hrl.ext hbb);unfold zK at z0 z1 z2 z3 z4;clear hba hrl hq hbb hrn hsub hs1;go_wp2_with fail;clear z0 z1 z2 z3 z4;refine hcall.out.mono ?_;intro e w9 hr;rcases hr.both with ⟨h1,rfl,hb9⟩ | ⟨h1,rfl,hb9⟩
    ·have hf:=zE (hno.out (fun h=>hLo.out.1 h h1))
     have hb:=zE (zA HB6.out (zA HBB.out hb9));have ho:=zE (zAC (zA HBB.out hb9) HO.out);clear h1 hr hcall hno hyes hLo;go_wp2;go_roundw
     ·exact ⟨k+1,by go_num,by omega,by rw [hf.out];exact ho,hb⟩
     ·simp [intOf];omega
    ·have hf:=zE (hyes.out (hLo.out.2 h1))
     have hb:=zE (zA HB6.out (zA HBB.out hb9));have ho:=zE (zAC (zA HBB.out hb9) HO.out);have c0:=(HRL.out.ext hb9).cell 0 _ rfl;have hsz:=hb.out.size;clear h1 hr hcall hno hyes hLo;generalize r.num=x at *;go_wp2_with (at_builtin;refine wpList_append_own _ rfl _ _ 28 rfl w6.heap.size 3 i0 (.int .i64 0) 1 8 underlying28 hif iz0 iz1 iz2 rfl (by decide) _ _ _ rfl (ho.out.alloc _) ⟨w9.heap.size,0,none⟩ 1 1 [.int .i64 x] rfl rfl (cell_one_new _ _ _) (by simp [Value.oneCell']) (by unfold maxLen;omega) (by omega) (by simp;omega) ?_;intro v' w4 hown' hgrow _);have hb4:=(hb.out.alloc hb.out.size (.cells #[.int .i64 x] 3)).grown hgrow (by simp;omega) (fun k e=>(ho.out.lt k e).1);go_wp2;go_roundw
     ·exact ⟨k+1,by go_num,by omega,by rw [hf.out,List.map_append,List.length_append];exact zE hown',zE hb4⟩
     ·simp [intOf];omega
theorem wd_is {b:Built} (hv:zF b=0) {l:List Int} (h:LeastTo (zEE b (2 ^ b.rs.length)) (zEE b (2 ^ b.rs.length)).length l) : wdL b=l:=by
 obtain ⟨h1,h2⟩:=h;rw [List.take_length] at h1 h2;exact wdL_is hv ⟨(outs_mem hv l).1 h1,fun l' hl'=>h2 l' ((outs_mem hv l').2 hl')⟩
theorem first_lists (w:World) (vl:Value) (xs:List (List Int)) (h:Sl zJU 1 w vl xs) (hne:0 < xs.length) :
  Calls prog 90 #[vl,.func (.func 91) #[] #[]] w fun e w'=>∃ u l,e = .returned u/\LeastTo xs xs.length l/\Sl zAM 1 w' u l/\Below w.heap.size w w':=by
 go_enter func90,ntmps90;go_wp2_with fail;refine (minFunc_lists _ _ xs h hne).mono ?_;rintro e w2 ⟨u,l,rfl,h1,h2,hb⟩;have H:=zE (And.intro h1 (And.intro h2 hb));clear h1 h2 hb h;go_wp2;go_ret;exact ⟨_,l,rfl,H.out.1,H.out.2.1,H.out.2.2⟩
theorem withdraw_built (w:World) (vr vn vm vh vs:Value) (b:Built) (hA:BuiltArg w vr vn vm vh vs b) (hK:KindsAt w) :
  Calls prog 42 #[.agg #[vr,vn,.int .i64 b.of,vm,vh,vs]] w fun e w'=>∃ u,e = .returned (.tuple #[u,.int .i64 (zF b)])/\Sl zAM 1 w' u (wdL b)/\Below w.heap.size w w':=by
 obtain ⟨i0,hif,iz0,iz1,iz2⟩:=info_parts zFY;obtain ⟨j0,hjf,jz0,jz1,jz2⟩:=info_parts zOO;obtain ⟨l0,hlf,lz0,lz1,lz2⟩:=info_parts infoInts;obtain ⟨ar,cr,rfl,_⟩:=zD hA.at_.reg;obtain ⟨an,cn,rfl,_⟩:=zD hA.at_.notes;obtain ⟨am,cm,rfl,_⟩:=zD hA.at_.ms;obtain ⟨ah,ch,rfl,_⟩:=zD hA.at_.hs;obtain ⟨as',cs',rfl,_⟩:=zD hA.at_.rs;have hb1:=zB w (.cells #[.slice ar b.ns.reg.length cr,.slice an b.ns.notes.length cn,.int .i64 b.of,.slice am b.ms.length cm,.slice ah b.hs.length ch,.slice as' b.rs.length cs'] 32);have HBOX:=zE (Lay.new w 32 #[.slice ar b.ns.reg.length cr,.slice an b.ns.notes.length cn,.int .i64 b.of,.slice am b.ms.length cm,.slice ah b.hs.length ch,.slice as' b.rs.length cs']);have HA:=zE (hA.ext hb1);have HK:=zE (hK.ext hb1);have HBW:=zE hb1;clear hA hK hb1;have k0:=HBOX.out.cell 0 _ rfl;have k1:=HBOX.out.cell 1 _ rfl;have k2:=HBOX.out.cell 2 _ rfl;have k3:=HBOX.out.cell 3 _ rfl;have k4:=HBOX.out.cell 4 _ rfl;have k5:=HBOX.out.cell 5 _ rfl;go_enter func42,ntmps42;go_wp2_with fail;clear k0 k1 k2 k3 k4 k5;generalize w.alloc _=w1 at *;refine (zET _ _ _ _ _ _ b HA.out).mono ?_;rintro e w2 ⟨rfl,hb2⟩;have HBW:=zE (zA HBW.out hb2);have HBOX:=zE (HBOX.out.ext hb2);have HA:=zE (HA.out.ext hb2);have HK:=zE (HK.out.ext hb2);clear hb2;by_cases hv:zF b=0
 case neg =>
  have hv':(zF b != 0)=true:=by simpa using hv
  have HT:=zE (wdL_bad hv);clear hv;go_wp2;go_ret2;exact ⟨_,rfl,by rw [HT.out];exact zIR _ _ _ _ _,HBW.out⟩
 case pos =>
  have HV:=zE hv;have hr10:b.rs.length<=10:=(zS hv).2.2.2.2.1;have HC:Hid (zF b=0):=hv;rw [hv];clear hv;have k0:=HBOX.out.cell 0 _ rfl;have k1:=HBOX.out.cell 1 _ rfl;have k2:=HBOX.out.cell 2 _ rfl;have k3:=HBOX.out.cell 3 _ rfl;have k4:=HBOX.out.cell 4 _ rfl;have k5:=HBOX.out.cell 5 _ rfl;go_wp2_with fail;clear k0 k1 k2 k3 k4 k5;refine (sites_built _ _ _ _ _ _ b HA.out HV.out).mono ?_;rintro e w6 ⟨hb2,v,xs,rfl,hl,hT⟩;obtain ⟨al,cl,rfl,_⟩:=zD hl;have HBW:=zE (zA HBW.out hb2);have HBOX:=zE (HBOX.out.ext hb2);have HA:=zE (HA.out.ext hb2);have HK:=zE (HK.out.ext hb2);have HL:=zE hl;have HT:=zE hT;clear hb2 hl hT;have k5:=HBOX.out.cell 5 _ rfl;obtain ⟨M,hM,hM2,hs1,hs2⟩:=shl11 b.rs.length (by omega);have HFIN:Hid (0 < (zEE b M).length/\∀ l,LeastTo (zEE b M) (zEE b M).length l->wdL b=l):=by subst hM;exact ⟨outs_ne HV.out,fun l h=>wd_is HV.out h⟩
  have HOL:=zE (outs_le b);have HM:=zE hM;clear hM;go_wp2;clear k5 hs1 hs2;go_loopw [6,23] (fun q i wr=>∃ (s:Nat) (cs:List Value),i = .int .i64 s/\s<=M/\Hid (wr.ownsRow w6.heap.size 28 1 q (zEE b s).length cs/\zEO [3] zJC 1 wr cs (zEE b s))/\Hid (Below w6.heap.size w6 wr)) (fun _ i _=>M - (intOf i).toNat)
  case atStart=>exact ⟨0,[],rfl,by omega,zE ⟨World.ownsRow_nil _ _ _ _,rowIs_nil _ _ _ _⟩,zE (br_)⟩
  case round =>
   obtain ⟨s,cs,rfl,hs,HO,HB6⟩:=hrel;by_cases hlt:s < M
   case neg =>
    obtain rfl:s=M:=by omega
    have hsl:=(HO.out.2.sl HO.out.1 isInts_at).now;obtain ⟨aq,cq,rfl,_⟩:=zD hsl;have HSL:=zE hsl;clear hsl HO;go_wp2_with fail;refine (first_lists _ _ _ HSL.out HFIN.out.1).mono ?_;rintro e w9 ⟨u,l,rfl,hle,hu,hb9⟩;obtain ⟨au,cu,rfl,_⟩:=zD hu;have HU:=zE hu;have HWD:=zE (HFIN.out.2 l hle);have HB9:=zE (zA HB6.out hb9);clear hle hu hb9;go_wp2;go_ret2;exact ⟨_,by rw [HC.out];rfl,by rw [HWD.out];exact HU.out,zA HBW.out HB9.out⟩
   case pos =>
    have hsl:(s:Int) < M:=by omega
    generalize hwk:wr=wk at *;clear hwk;have k5:=zC HB6.out (HBOX.out.cell 5 _ rfl);unfold zK at k5;go_wp2;clear k5;go_loopw [8,9,29] (fun o q i wr=>∃ j:Nat,i = .int .i64 j/\j<=b.rs.length/\Hid (wr.ownsRow wk.heap.size 3 1 o (zIS b s j).length ((zIS b s j).map (Value.int .i64)))/\Hid (wr.ownsRow wk.heap.size 49 5 q (zIF b s j).length ((zIF b s j).flatMap zOG))/\Hid (Below wk.heap.size wk wr)) (fun _ _ i _=>b.rs.length - (intOf i).toNat)
    case atStart=>exact ⟨0,rfl,by omega,zE (World.ownsRow_nil _ _ _ _),zE (World.ownsRow_nil _ _ _ _),zE (br_)⟩
    case round =>
     obtain ⟨j,rfl,hj,HO1,HO2,HBK⟩:=hrel;by_cases hjl:j < b.rs.length
     case neg =>
      obtain rfl:j=b.rs.length:=by omega
      have hq:=rep_sl HO2.out (fun x hx=>by
       obtain ⟨k,hk,rfl⟩:=List.getElem_of_mem ((kept_sub b s b.rs.length).subset hx);obtain ⟨_,_,_,_,hr⟩:=(zY HA.out.at_.rs).2 k hk;exact hr)
      have hcall:=zE (fits_built _ _ _ _ _ _ _ _ b xs (zIF b s b.rs.length) (zJ (zKI _ _ _ _ _ b) (zA HB6.out HBK.out) HL.out) (HK.out.ext (zA HB6.out HBK.out)) HV.out hq (kept_sub b s _) HT.out);rw [kept_all] at hcall;have hoI:Hid (∀ x∈zIS b s b.rs.length,I64 x):=fun x hx=>by
       obtain ⟨k,hk,_,h2⟩:=(zJW (by rw [rnums_len];exact Nat.le_refl _)).1 hx;rw [zNG hk] at h2;cases h2;obtain ⟨_,_,_,_,hr⟩:=(zY HA.out.at_.rs).2 k hk;exact hr.1
      have hyes:=zE (fun h=>outs_yes (b:=b) (s:=s) h);have hno:=zE (fun h=>outs_no (b:=b) (s:=s) h);have hol:=HOL.out s;obtain ⟨aq,cq,rfl,_⟩:=zD hq;obtain ⟨a1,c1,rfl,_⟩:=zD (zBF HO1.out hoI.out);clear hq;go_wp2_with fail;refine hcall.out.mono ?_;intro e w9 hr;rcases hr.both with ⟨h1,rfl,hb9⟩ | ⟨h1,rfl,hb9⟩
      ·have hf:=zE (hyes.out h1)
       have hk9:=zE (zA HBK.out hb9);have ho9:=zE (zAC hk9.out HO.out.1);have hr9:=zE (HO.out.2.keep (zBM hk9.out));have ho1:=zE (zAC hb9 HO1.out);have HB9:=zE (zA HB6.out hk9.out);have hsz:=HB9.out.size;clear h1 hr hcall hyes hno hb9;generalize zIS b s b.rs.length=L at *;go_wp2_with (at_builtin;refine wpList_append_own _ rfl _ _ 37 rfl w6.heap.size 28 l0 (.slice none 0 0) 1 24 underlying37 hlf lz0 lz1 lz2 rfl (by decide) _ _ _ rfl (ho9.out.alloc _) ⟨w9.heap.size,0,none⟩ 1 1 [.slice a1 L.length c1] rfl rfl (cell_one_new _ _ _) (by simp [Value.oneCell']) (by unfold maxLen;omega) (by omega) (by simp;omega) ?_;intro v' w4 hown' hgrow _);have hba:=zB w9 (.cells #[.slice a1 L.length c1] 28);have hK1:zFL [3] w9 w4:=(zBM hba).trans (zBX hgrow (ho9.out.alloc _) (by decide));have hb4:=zE ((HB9.out.alloc HB9.out.size (.cells #[.slice a1 L.length c1] 28)).grown hgrow (by simp;omega) (fun k e=>(ho9.out.lt k e).1));have hrow:zEO [3] zJC 1 w4 (cs++[.slice a1 L.length c1]) (zEE b s++[L]):=(hr9.out.keep hK1).snoc rfl (fun w' hk=>⟨_,rfl,zBF (zCR (hK1.trans hk) (by simp) ho1.out) hoI.out⟩);have HR4:=zE (And.intro hown' hrow);clear hba hK1 hown' hgrow hrow;go_wp2;go_roundw
       ·exact ⟨s+1,_,by go_num,by omega,by rw [hf.out,List.length_append];exact HR4,hb4⟩
       ·simp [intOf];omega
      ·have hf:=zE (hno.out h1)
       have hk9:=zE (zA HBK.out hb9);have ho9:=zE (zAC hk9.out HO.out.1);have hr9:=zE (HO.out.2.keep (zBM hk9.out));have HB9:=zE (zA HB6.out hk9.out);clear h1 hr hcall hyes hno hb9;go_wp2;go_roundw
       ·exact ⟨s+1,cs,by go_num,by omega,by rw [hf.out];exact zE ⟨ho9.out,hr9.out⟩,HB9⟩
       ·simp [intOf];omega
     case pos =>
      have hjk:(j:Int) < b.rs.length:=by omega
      have hbit:=bit10 s (by omega) j (by omega);have hos:=zE (outOf_succ (b:=b) (s:=s) hjl);have hky:=zE (fun h=>kept_yes HV.out (s:=s) hjl h);have hkn:=zE (fun h=>kept_no HV.out (s:=s) hjl h);have hol:=outOf_le b s j;have hkl:=kept_le b s j;obtain ⟨gz,oz,haz,⟨z0,z1,z2,z3,z4⟩,hrn⟩:=(zY (zJ zAP (zA HB6.out HBK.out) HA.out.at_.rs)).2 j hjl;cases haz;generalize b.rs[j]=r at *;have hba:=zB wr (.cells #[.int .i64 r.num,.int .i64 r.m,.int .i64 r.d,.int .i64 r.l,.int .u8 r.k] 49);have hrl:=Lay.new wr 49 #[.int .i64 r.num,.int .i64 r.m,.int .i64 r.d,.int .i64 r.l,.int .u8 r.k];have hsz1:Hid ((wr.alloc (.cells #[.int .i64 r.num,.int .i64 r.m,.int .i64 r.d,.int .i64 r.l,.int .u8 r.k] 49)).heap.size=wr.heap.size+1):=World.size_alloc _ _;have HBA:=zE (zA HBK.out hba);have H1A:=zE (zAC hba HO1.out);have H2A:=zE (zAC hba HO2.out);have HRL:=zE hrl;have hszr:=HBK.out.size;unfold zK at z0 z1 z2 z3 z4;clear hba hrl hrn HO1 HO2 HBK;cases htb:s.testBit j with
      | true =>
        rw [htb,if_pos rfl] at hbit;have ho:=zE hos.out;rw [htb,if_pos rfl] at ho;have hk2:=zE (hkn.out htb);have hcn:=zE (cell_one_new (wr.alloc (.cells #[.int .i64 r.num,.int .i64 r.m,.int .i64 r.d,.int .i64 r.l,.int .u8 r.k] 49)) (.int .i64 r.num) 3);rw [hsz1.out] at hcn;clear htb hos hky hkn;go_wp2_with (at_builtin;refine wpList_append_own _ rfl _ _ 28 rfl wk.heap.size 3 i0 (.int .i64 0) 1 8 underlying28 hif iz0 iz1 iz2 rfl (by decide) _ _ _ rfl (H1A.out.alloc _) ⟨wr.heap.size+1,0,none⟩ 1 1 [.int .i64 r.num] rfl rfl hcn.out (by simp [Value.oneCell']) (by unfold maxLen;omega) (by omega) (by simp;omega) ?_;intro v' w4 hown' hgrow _);have hbb:=zB (wr.alloc (.cells #[.int .i64 r.num,.int .i64 r.m,.int .i64 r.d,.int .i64 r.l,.int .u8 r.k] 49)) (.cells #[.int .i64 r.num] 3);have hb4:=zE ((zA HBA.out hbb).grown hgrow (zA HBA.out hbb).size (fun k e=>(H1A.out.lt k e).1));have h24:=zE (zCR (zBX (es:=[49]) hgrow (H1A.out.alloc _) (by decide)) (by simp) (zAC hbb H2A.out));have h14:=zE hown';clear hbb hown' hgrow;go_wp2;go_roundw
        ·exact ⟨j+1,by go_num,by omega,by rw [ho.out,List.map_append,List.length_append];exact h14,by rw [hk2.out];exact h24,hb4⟩
        ·simp [intOf];omega
      | false =>
        rw [htb] at hbit;simp only [Bool.false_eq_true,if_false] at hbit;have ho:=zE hos.out;rw [htb] at ho;simp only [Bool.false_eq_true,if_false,List.append_nil] at ho;have hk2:=zE (hky.out htb);have q0:=HRL.out.cell 0 _ rfl;have q1:=HRL.out.cell 1 _ rfl;have q2:=HRL.out.cell 2 _ rfl;have q3:=HRL.out.cell 3 _ rfl;have q4:=HRL.out.cell 4 _ rfl;have hcs:∀ i u,[Value.int .i64 r.num,.int .i64 r.m,.int .i64 r.d,.int .i64 r.l,.int .u8 r.k][i]? = some u->((wr.alloc (.cells #[.int .i64 r.num,.int .i64 r.m,.int .i64 r.d,.int .i64 r.l,.int .u8 r.k] 49)).alloc (.cells #[.int .i64 r.num,.int .i64 r.m,.int .i64 r.d,.int .i64 r.l,.int .u8 r.k] 49)).cell? ((⟨wr.heap.size+1,0,none⟩ : Addr).add i)=some u:=fun i u hi=>by
         rw [zAZ,<- hsz1.out];exact zR (wr.alloc (.cells #[.int .i64 r.num,.int .i64 r.m,.int .i64 r.d,.int .i64 r.l,.int .u8 r.k] 49)) #[.int .i64 r.num,.int .i64 r.m,.int .i64 r.d,.int .i64 r.l,.int .u8 r.k] _ i u (by simpa using hi)
        have HCS:=zE hcs;clear htb hos hky hkn q0 q1 q2 q3 q4 hcs;go_wp2_with (at_builtin;refine wpList_append_own _ rfl _ _ 30 rfl wk.heap.size 49 j0 (.agg #[.int .i64 0,.int .i64 0,.int .i64 0,.int .i64 0,.int .u8 0]) 5 40 underlying30 hjf jz0 jz1 jz2 rfl (by decide) _ _ _ rfl (H2A.out.alloc _) ⟨wr.heap.size+1,0,none⟩ 1 1 [.int .i64 r.num,.int .i64 r.m,.int .i64 r.d,.int .i64 r.l,.int .u8 r.k] rfl rfl HCS.out (by intro u hu;simp at hu;rcases hu with rfl | rfl | rfl | rfl | rfl <;> rfl) (by unfold maxLen;omega) (by omega) (by simp;omega) ?_;intro v' w4 hown' hgrow _);have hbb:=zB (wr.alloc (.cells #[.int .i64 r.num,.int .i64 r.m,.int .i64 r.d,.int .i64 r.l,.int .u8 r.k] 49)) (.cells #[.int .i64 r.num,.int .i64 r.m,.int .i64 r.d,.int .i64 r.l,.int .u8 r.k] 49);have hb4:=zE ((zA HBA.out hbb).grown hgrow (zA HBA.out hbb).size (fun k e=>(H2A.out.lt k e).1));have h14:=zE (zCR (zBX (es:=[3]) hgrow (H2A.out.alloc _) (by decide)) (by simp) (zAC hbb H1A.out));have h24:=zE hown';clear hbb hown' hgrow;go_wp2;go_roundw
        ·exact ⟨j+1,by go_num,by omega,by rw [ho.out];exact h14,by rw [hk2.out,List.length_append,List.flatMap_append,List.flatMap_singleton];exact h24,hb4⟩
        ·simp [intOf];omega
end
section
open Tryz
open Go.RowKit
theorem but_ok {b:Built} (h:zF b=0) (l:List Int) : zF (b.but l)=0:=sub_ok h List.filter_sublist
theorem left_any {b:Built} (h:zF b=0) : zAQ b≠[]↔∃ S,IsT (zBO b.ns.notes) S/\zCV b S:=by
 constructor
 ·intro hl;obtain ⟨S,t,e⟩:=List.exists_cons_of_ne_nil hl;exact ⟨S,((zFQ h).2 S).1 (by rw [e];exact List.mem_cons_self ..)⟩
 ·rintro ⟨S,hS⟩;exact List.ne_nil_of_mem (((zFQ h).2 S).2 hS)
theorem one_any {b:Built} (h:zF b=0) {r:Report} (hr:r∈b.rs) : zAQ (b.one r)=[]↔Lone b r:=by
 have h1:zF (b.one r)=0:=sub_ok h (List.singleton_sublist.2 hr);have h2:=left_any h1;unfold Lone;constructor
 ·intro e h3;exact (h2.2 h3) e
 ·intro h3;exact Classical.byContradiction fun e=>h3 (h2.1 e)
end
end Go.Proofs.YtipaopbmklbmnaaGreatDoor
