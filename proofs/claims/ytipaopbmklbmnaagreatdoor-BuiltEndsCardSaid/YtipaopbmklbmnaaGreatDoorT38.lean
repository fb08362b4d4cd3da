/- Lemmas. -/
import Derived.OrdersIn
import Derived.TacticsIn
import Derived.RangeFuncCalls
import Derived.Shelf.RegionOpen
import Derived.Test.YtipaopbmklbmnaaGreatDoorT37
set_option linter.all false
set_option maxRecDepth 100000
set_option maxHeartbeats 0
namespace Go.Proofs.YtipaopbmklbmnaaGreatDoor
section
open Tryz
open Go.RowKit
attribute [local go_sem] zAE Oper.grows Oper.growUpon
def zIJ (b:Built) (S:List Int) (k:Nat) (n:Int) (i:Nat) : Bool:=decide (zCX b S k i < n) && decide (0 < (b.ms[i]?).elim 0 (zHZ b S k))
def zHR (b:Built) (S:List Int) (k:Nat) (n:Int) : Nat->Int
 | 0=>0
 | i+1=>if zIJ b S k n i then (b.ms[i]?).elim 0 id else zHR b S k n i
def zEL (b:Built) (S:List Int) (k:Nat) (n:Int) : Int:=zHR b S k n b.ms.length
theorem untilTo_yes {b:Built} {S:List Int} {k:Nat} {n:Int} {i:Nat} (h:zIJ b S k n i=true) (hi:i < b.ms.length) : zHR b S k n (i+1)=b.ms[i]:=by
 simp only [zHR,h,if_true,List.getElem?_eq_getElem hi,Option.elim,id]
theorem untilTo_no {b:Built} {S:List Int} {k:Nat} {n:Int} {i:Nat} (h:zIJ b S k n i=false) : zHR b S k n (i+1)=zHR b S k n i:=by
 simp [zHR,h]
theorem untilTo_in (b:Built) (S:List Int) (k:Nat) (n:Int) : ∀ i,i<=b.ms.length->zHR b S k n i=0\/zHR b S k n i∈b.ms:=by
 intro i;induction i with
 | zero=>intro _;exact .inl rfl
 | succ i ih =>
   intro hi;cases h:zIJ b S k n i with
   | true=>rw [untilTo_yes h (by omega)];exact .inr (List.getElem_mem _)
   | false=>rw [untilTo_no h];exact ih (by omega)
theorem untilR_bd {b:Built} (h:zF b=0) (S:List Int) (k:Nat) (n:Int) : 0<=zEL b S k n/\zEL b S k n<=999:=by
 rcases untilTo_in b S k n _ (Nat.le_refl _) with e | e
 ·unfold zEL;rw [e];omega
 ·obtain ⟨j,hj,he⟩:=List.getElem_of_mem e;have h1:In b.ms[j] 1 999:=((zS h).2.2.2.2.2.1 j hj hj).1;rw [he] at h1;have:=h1.1;have:=h1.2;unfold zEL;omega
end
section
open Tryz
noncomputable def zLY (b:Built) (S:List Int) (k:Nat) : Span:=(zEM b S k).getD ⟨0,0⟩
noncomputable def uTo (b:Built) (A:List (List Int)) (k j:Nat) : Span:=zBI ((A.take j).flatMap fun S=>[zEL b S k (zLY b S k).lo,zEL b S k (zLY b S k).hi])
open Classical in
noncomputable def untC (b:Built) (h:Int) : Int:=if zF b≠0 then zF b else if ¬ In h 0 ((b.hs.length:Int) - 1) then 2 else if zAQ b=[] then 8 else 0
noncomputable def untS (b:Built) (h:Int) : Span:=if untC b h=0 then uTo b (zAQ b) h.toNat (zAQ b).length else ⟨0,0⟩
theorem unt_ok {b:Built} {k:Nat} (hv:zF b=0) (hh:In (k:Int) 0 ((b.hs.length:Int) - 1)) (hl:zAQ b≠[]) : untC b k=0/\untS b k=uTo b (zAQ b) k (zAQ b).length:=by
 have e:untC b k=0:=by unfold untC;rw [if_neg (by simp [hv]),if_neg (by simpa using hh),if_neg hl]
 exact ⟨e,by unfold untS;rw [if_pos e];rfl⟩
end
section
open Tryz
open Go.RowKit
def AtU8 (w:World) (b o:Nat) (x:Int) : Prop:=zK w b o (.int .u8 x)/\U8 x
theorem stays_u8:zGG AtU8:=fun _ _ _ _ _ hb ⟨h0,h1⟩=>⟨zC hb h0,h1⟩
theorem infoU8:(prog.info? 5).map (fun i=>(i.zero,i.size,i.bytes))=some (some (.int .u8 0),1,1):=by kernel_rfl
theorem u8s_of_own {w:World} {base:Nat} {v:Value} {xs:List Int} (h:w.ownsRow base 5 1 v xs.length (xs.map (Value.int .u8))) (hI:∀ x∈xs,U8 x) : Sl AtU8 1 w v xs:=by
 have h':=h;obtain ⟨_,h2⟩:=h;rcases h2 with ⟨rfl,hn⟩ | ⟨g,cap,cur,rfl,_,_,hc,hcm,_⟩
 ·exact ⟨none,0,by rw [hn],by omega,fun k hk=>by omega⟩
 ·refine ⟨some ⟨g,0,none⟩,cap,rfl,by unfold maxLen at hcm;omega,fun k hk=>⟨g,0,rfl,?_,hI _ (List.getElem_mem hk)⟩⟩;have:=h'.cells (g:=g) rfl k (.int .u8 xs[k]) (by simp [hk]);rw [zAZ] at this;unfold zK;simpa using this
def cntTo (A:List (List Int)) (x:Int) (k:Nat) : Nat:=((A.take k).filter fun S=>decide (x∈S)).length
def knC (A:List (List Int)) (x:Int) : Int:=if cntTo A x A.length=0 then 0 else if cntTo A x A.length=A.length then 2 else 1
theorem knC_u8 (A:List (List Int)) (x:Int) : U8 (knC A x):=by
 unfold knC U8;split
 ·omega
 ·split <;> omega
def inC (x:Int) (S:List Int) : Int:=if x∈S then 1 else 0
theorem knC_span {A:List (List Int)} {x:Int} (hA:0 < A.length) :
  (zBI (A.flatMap fun S=>[inC x S])).lo+(zBI (A.flatMap fun S=>[inC x S])).hi=knC A x:=by
 have hmem:∀ y,y∈(A.flatMap fun S=>[inC x S])↔∃ S∈A,y=if x∈S then 1 else 0:=fun y=>by simp [List.mem_flatMap,inC]
 have hne:(A.flatMap fun S=>[inC x S])≠[]:=by intro e;have:=(hmem _).2 ⟨A[0],List.getElem_mem hA,rfl⟩;rw [e] at this;exact absurd this (by simp)
 obtain ⟨h1,h2,h3⟩:=zGS hne;have e0:cntTo A x A.length=0↔∀ S∈A,x ∉ S:=by unfold cntTo;rw [List.take_length,List.length_eq_zero_iff,List.filter_eq_nil_iff];simp
 have e1:cntTo A x A.length=A.length↔∀ S∈A,x∈S:=by unfold cntTo;rw [List.take_length,List.length_filter_eq_length_iff];simp
 generalize (A.flatMap fun S=>[inC x S])=L at *;obtain ⟨S1,g1,f1⟩:=(hmem _).1 h1;obtain ⟨S2,g2,f2⟩:=(hmem _).1 h2;unfold knC;by_cases a0:cntTo A x A.length=0
 ·have k:=e0.1 a0;rw [if_pos a0,f1,f2,if_neg (k _ g1),if_neg (k _ g2)];rfl
 ·rw [if_neg a0]
  by_cases a1:cntTo A x A.length=A.length
  ·have k:=e1.1 a1;rw [if_pos a1,f1,f2,if_pos (k _ g1),if_pos (k _ g2)];rfl
  ·rw [if_neg a1]
   have b0:∃ S∈A,x∈S:=by apply Classical.byContradiction;intro hn;exact a0 (e0.2 fun S hS hx=>hn ⟨S,hS,hx⟩)
   have b1:∃ S∈A,x ∉ S:=by apply Classical.byContradiction;intro hn;exact a1 (e1.2 fun S hS=>Classical.byContradiction fun hx=>hn ⟨S,hS,hx⟩)
   obtain ⟨S,hS,hx⟩:=b0;obtain ⟨S',hS',hx'⟩:=b1;have c1:=h3 1 ((hmem _).2 ⟨S,hS,by rw [if_pos hx]⟩);have c2:=h3 0 ((hmem _).2 ⟨S',hS',by rw [if_neg hx']⟩);unfold Span.has at c1 c2;have d1:(zBI L).lo=0\/(zBI L).lo=1:=by rw [f1];split <;> simp
   have d2:(zBI L).hi=0\/(zBI L).hi=1:=by rw [f2];split <;> simp
   omega
theorem opensTo_succ' {N:List Note} {k:Nat} (hk:k < N.length) : zAH N (k+1)=zAH N k++(if N[k].sg=1 then [N[k].num] else []):=by
 unfold zAH;rw [List.take_succ_eq_append_getElem hk,List.filter_append,List.map_append];by_cases h:N[k].sg=1 <;> simp [h]
theorem opensTo_le (N:List Note) (k:Nat) : (zAH N k).length<=k:=by
 unfold zAH;rw [List.length_map];exact Nat.le_trans (List.length_filter_le _ _) (by rw [List.length_take];omega)
open Classical in
noncomputable def setC (b:Built) : Int:=if zF b≠0 then zF b else if zAQ b=[] then 8 else 0
noncomputable def setL (b:Built) : List Int:=if setC b=0 then (zAH b.ns.notes b.ns.notes.length).map (knC (zAQ b)) else []
theorem set_ok {b:Built} (hv:zF b=0) (hl:zAQ b≠[]) : setC b=0/\setL b=(zAH b.ns.notes b.ns.notes.length).map (knC (zAQ b)):=by
 have e:setC b=0:=by unfold setC;rw [if_neg (by simp [hv]),if_neg hl]
 exact ⟨e,by unfold setL;rw [if_pos e]⟩
theorem sameKnown08 (w:World) (v v':Value) (xs:List Int) (hx:Sl AtU8 1 w v xs) (hy:Sl AtU8 1 w v' xs) :
  Calls prog 47 #[v,v'] w fun e w'=>e = .returned (.bool true)/\Below w.heap.size w w':=by
 obtain ⟨a,cap,rfl,hm⟩:=zD hx;obtain ⟨a',cap',rfl,_⟩:=zD hy;go_enter func47,ntmps47;go_wp2;go_loopw [5] (fun i wr=>∃ k:Nat,i = .int .i64 k/\k<=xs.length/\Below w.heap.size w wr) (fun i _=>xs.length - (intOf i).toNat)
 case atStart=>exact ⟨0,rfl,by omega,br_⟩
 case round =>
  obtain ⟨k,rfl,hk,hb⟩:=hrel;by_cases hlt:k < xs.length
  ·have X:=(zY (zJ stays_u8 hb hx)).2 k hlt
   have Y:=(zY (zJ stays_u8 hb hy)).2 k hlt;obtain ⟨b,off,rfl,hc,_⟩:=X;obtain ⟨b',off',rfl,hc',_⟩:=Y;unfold zK at hc hc';rw [Nat.mul_one] at hc hc';generalize xs[k]=x at *;clear hx hy;go_wp2;go_quiet (fail)
   go_wp2;go_roundw
   ·exact ⟨k+1,by go_num,by omega,zA hb (zAJ _ _)⟩
   ·simp [intOf];omega
  ·go_wp2;go_ret;exact ⟨rfl,hb⟩
end
section
open Tryz
def LeL (a b:List Int) : Prop:=zFV b a=false
theorem zKS (a:List Int) : LeL a a:=befL_irr a
theorem leL_of {a b:List Int} (h:zFV a b=true) : LeL a b:=befL_asy a b h
theorem leL_anti {a b:List Int} (h:LeL a b) (h2:LeL b a) : a=b:=zMM a b h2 h
theorem leL_tr {a b c:List Int} (h:LeL a b) (h2:LeL b c) : LeL a c:=by
 cases h3:zFV a b with
 | false=>rw [leL_anti h h3];exact h2
 | true =>
   cases h4:zFV b c with
   | false=>rw [<- leL_anti h2 h4];exact h
   | true=>exact befL_asy _ _ (befL_tr a b c h3 h4)
theorem rise_len {a b:List Int} (ha:a.Pairwise (· < ·)) (h:∀ x∈a,x∈b) : a.length<=b.length:=List.Nodup.length_le_of_subset (zGL ha) h
def Built.but (b:Built) (l:List Int) : Built:={ b with rs:=b.rs.filter fun r=>decide (r.num ∉ l) }
def zGX (b:Built) : List Int:=b.rs.map (·.num)
theorem zFB {b:Built} (h:zF b=0) : (zGX b).Pairwise (· < ·):=by
 unfold zGX;rw [List.pairwise_map,List.pairwise_iff_getElem];have key:∀ d i,(hd:i+d+1 < b.rs.length)->(b.rs[i]'(by omega)).num < b.rs[i+d+1].num:=by
  intro d;induction d with
  | zero =>intro i hd;have:=((zS h).2.2.2.2.2.2.2 (i+1) hd hd).2 (by omega);simpa using this
  | succ d ih =>
    intro i hd;have h1:=ih i (by omega);have h2:=((zS h).2.2.2.2.2.2.2 (i+d+1+1) hd hd).2 (by omega);simp only [Nat.add_sub_cancel] at h2;have h3:i+(d+1)+1=i+d+1+1:=by omega
    simp only [h3];omega
 intro i j hi hj hij;obtain ⟨d,rfl⟩ : ∃ d,j=i+d+1:=⟨j - i - 1,by omega⟩;exact key d i hj
theorem befTo_rs (b:Built) (rs:List Report) (S:List Int) (k i:Nat) : zCX { b with rs:=rs } S k i=zCX b S k i:=by
 induction i with
 | zero=>rfl
 | succ i ih=>simp only [zCX,ih];rfl
theorem befR_rs (b:Built) (rs:List Report) (S:List Int) (r:Report) : zKL { b with rs:=rs } S r=zKL b S r:=by
 unfold zKL;rw [befTo_rs];rfl
theorem fails_rs (b:Built) (rs:List Report) (S:List Int) (k n:Int) (r:Report) : zCN { b with rs:=rs } S k n r↔zCN b S k n r:=by
 unfold zCN;rw [befR_rs];exact Iff.rfl
open Classical in
noncomputable def zCW (b:Built) (S:List Int) (k n:Int) : List Int:=(b.rs.filter fun r=>decide (zCN b S k n r)).map (·.num)
theorem zFU {b:Built} {S:List Int} {k n x:Int} : x∈zCW b S k n↔∃ r∈b.rs,zCN b S k n r/\r.num=x:=by
 unfold zCW;rw [List.mem_map];simp only [List.mem_filter,decide_eq_true_eq,and_assoc]
theorem zFW {b:Built} (h:zF b=0) (S:List Int) (k n:Int) : IsT (zGX b) (zCW b S k n):=by
 refine ⟨?_,fun x hx=>?_⟩
 ·have:=zFB h;unfold zGX at this;unfold zCW;rw [List.pairwise_map] at this ⊢;exact this.filter _
 ·obtain ⟨r,hr,_,rfl⟩:=zFU.1 hx;exact List.mem_map_of_mem hr
theorem rep_eq {b:Built} (h:zF b=0) {r r':Report} (hr:r∈b.rs) (hr':r'∈b.rs) (e:r.num=r'.num) : r=r':=by
 obtain ⟨i,hi,rfl⟩:=List.getElem_of_mem hr;obtain ⟨j,hj,rfl⟩:=List.getElem_of_mem hr';have h1:=List.pairwise_iff_getElem.1 (zFB h);have:i=j:=by
  unfold zGX at h1;simp only [List.length_map,List.getElem_map] at h1;rcases Nat.lt_trichotomy i j with h2 | h2 | h2
  ·have:=h1 i j hi hj h2;omega
  ·exact h2
  ·have:=h1 j i hj hi h2;omega
 subst this;rfl
theorem zRA {b:Built} {S l:List Int} : zCV (b.but l) S↔(∀ k (hk:k < b.hs.length),∃ n,(b.hs[k].lo<=n/\n<=b.hs[k].hi)/\∀ x∈zCW b S k n,x∈l)/\∀ x∈zCW b S (-1) 0,x∈l:=by
 have key:∀ k n:Int,(∀ r∈(b.but l).rs,¬ zCN (b.but l) S k n r)↔∀ x∈zCW b S k n,x∈l:=fun k n=>by
  constructor
  ·intro hf x hx;obtain ⟨r,hr,hF,rfl⟩:=zFU.1 hx;apply Classical.byContradiction;intro hn;exact hf r (List.mem_filter.2 ⟨hr,by simpa using hn⟩) ((fails_rs b _ S k n r).2 hF)
  ·intro hf r hr hF;obtain ⟨h1,h2⟩:=List.mem_filter.1 hr;exact absurd (hf _ (zFU.2 ⟨r,h1,(fails_rs b _ S k n r).1 hF,rfl⟩)) (by simpa using h2)
 unfold zCV;refine and_congr (forall_congr' fun k=>?_) (key _ _);refine forall_congr' fun hk=>?_
 have hk':k < b.hs.length:=hk;unfold zEM;rw [show (b.but l).hs[k]? = some b.hs[k] from List.getElem?_eq_getElem hk'];simp only [Option.elim];cases hh:hull (fun n=>∀ r∈(b.but l).rs,¬ zCN (b.but l) S k n r) b.hs[k].lo (b.hs[k].hi - b.hs[k].lo+1).toNat with
 | none =>refine ⟨fun h=>absurd rfl h,fun ⟨n,hn,h⟩=>?_⟩;exact absurd ((key k n).2 h) (hull_none hh n hn.1 (by omega))
 | some s =>obtain ⟨a1,a2,a3,a4,_⟩:=zOF hh;exact ⟨fun _=>⟨s.lo,⟨a1,by omega⟩,(key k s.lo).1 a4⟩,fun _=>by simp⟩
def Outs (b:Built) (l:List Int) : Prop:=IsT (zGX b) l/\∃ S,IsT (zBO b.ns.notes) S/\zCV (b.but l) S
def IsWd (b:Built) (l:List Int) : Prop:=Outs b l/\∀ l',Outs b l'->LeL l l'
theorem IsWd.eq {b:Built} {l l':List Int} (h:IsWd b l) (h':IsWd b l') : l=l':=leL_anti (h.2 _ h'.1) (h'.2 _ h.1)
structure IsBrk (b:Built) (S:List Int) (m:Nat) (nn:Nat->Int) (l:List Int) : Prop where
 best:∀ k (hk:k < b.hs.length),k < m->(b.hs[k].lo<=nn k/\nn k<=b.hs[k].hi)/\∀ n,b.hs[k].lo<=n->n<=b.hs[k].hi->LeL (zCW b S k (nn k)) (zCW b S k n)
 rise:l.Pairwise (· < ·)
 mem:∀ x,x∈l↔x∈zCW b S (-1) 0\/∃ k,k < m/\x∈zCW b S k (nn k)
end
section
open Tryz
open Go.RowKit
theorem but_nil (b:Built) : b.but []=b:=by
 unfold Built.but;rw [List.filter_eq_self.2 (fun r _=>by simp)]
theorem left_iff {b:Built} {S:List Int} : zCV b S↔(∀ k (hk:k < b.hs.length),∃ n,(b.hs[k].lo<=n/\n<=b.hs[k].hi)/\∀ r∈b.rs,¬ zCN b S k n r)/\∀ r∈b.rs,¬ zCN b S (-1) 0 r:=by
 have e:=but_nil b;have h:=zRA (b:=b) (S:=S) (l:=[]);rw [e] at h;rw [h];have hf:∀ k n:Int,(∀ x∈zCW b S k n,x∈([] : List Int))↔∀ r∈b.rs,¬ zCN b S k n r:=fun k n=>by
  constructor
  ·intro h1 r hr hF;exact absurd (h1 _ (zFU.2 ⟨r,hr,hF,rfl⟩)) (by simp)
  ·intro h1 x hx;obtain ⟨r,hr,hF,_⟩:=zFU.1 hx;exact absurd hF (h1 r hr)
 simp only [hf]
structure Less (x b:Built) : Prop where
 eq : { x with rs:=b.rs } = b
 sub:∀ r∈b.rs,r∈x.rs
theorem Less.fails {x b:Built} (h:Less x b) (S:List Int) (k n:Int) (r:Report) : zCN x S k n r↔zCN b S k n r:=by
 rw [<- h.eq];exact (fails_rs x b.rs S k n r).symm
theorem Less.hs {x b:Built} (h:Less x b) : x.hs=b.hs:=by rw [<- h.eq]
theorem Less.ms {x b:Built} (h:Less x b) : x.ms=b.ms:=by rw [<- h.eq]
theorem Less.ns {x b:Built} (h:Less x b) : x.ns=b.ns:=by rw [<- h.eq]
theorem Less.has {x b:Built} (h:Less x b) (S:List Int) (m n:Int) : zZ x S m n=zZ b S m n:=by rw [<- h.eq];rfl
theorem Less.left {x b:Built} (h:Less x b) {S:List Int} (hL:zCV x S) : zCV b S:=by
 rw [left_iff] at hL ⊢;refine ⟨fun k hk=>?_,fun r hr hF=>hL.2 r (h.sub r hr) ((h.fails _ _ _ _).2 hF)⟩;obtain ⟨n,hn,hF⟩:=hL.1 k (by rw [h.hs];exact hk);have e:∀ (l l':List Heap),l=l'->∀ (hk:k < l.length) (hk':k < l'.length),l[k]=l'[k]:=by rintro l _ rfl _ _;rfl
 rw [e _ _ h.hs _ hk] at hn;exact ⟨n,hn,fun r hr hf=>hF r (h.sub r hr) ((h.fails _ _ _ _).2 hf)⟩
theorem cnt_hull {b:Built} {S:List Int} {k:Nat} (hk:k < b.hs.length) (hL:zCV b S) :
  b.hs[k].lo<=(zLY b S k).lo/\(zLY b S k).lo<=(zLY b S k).hi/\(zLY b S k).hi<=b.hs[k].hi/\(∀ r∈b.rs,¬ zCN b S k (zLY b S k).lo r)/\(∀ r∈b.rs,¬ zCN b S k (zLY b S k).hi r) /\
  ∀ n,b.hs[k].lo<=n->n<=b.hs[k].hi->(∀ r∈b.rs,¬ zCN b S k n r)->(zLY b S k).lo<=n/\n<=(zLY b S k).hi:=by
 have hc:=hL.1 k hk;unfold zLY;cases e:zEM b S k with
 | none=>exact absurd e hc
 | some s =>
   unfold zEM at e;rw [List.getElem?_eq_getElem hk] at e;obtain ⟨h1,h2,h3,h4,h5,h6⟩:=zOF e;have hle:b.hs[k].lo<=b.hs[k].hi:=by omega
   exact ⟨h1,h2,by show s.hi<=_;omega,h4,h5,fun n h7 h8 h9=>h6 n h7 (by omega) h9⟩
theorem Less.cnt {x b:Built} (h:Less x b) {S:List Int} (hL:zCV x S) {k:Nat} (hk:k < b.hs.length) : (zLY b S k).lo<=(zLY x S k).lo/\(zLY x S k).lo<=(zLY x S k).hi/\(zLY x S k).hi<=(zLY b S k).hi:=by
 have hkx:k < x.hs.length:=by rw [h.hs];exact hk
 have e:∀ (l l':List Heap),l=l'->∀ (hk:k < l.length) (hk':k < l'.length),l[k]=l'[k]:=by rintro l _ rfl _ _;rfl
 obtain ⟨h1,h2,h3,h4,h5,_⟩:=cnt_hull hkx hL;obtain ⟨_,_,_,_,_,h6⟩:=cnt_hull hk (h.left hL);rw [e _ _ h.hs hkx hk] at h1 h3;exact ⟨(h6 _ h1 (by omega) (fun r hr hf=>h4 r (h.sub r hr) ((h.fails _ _ _ _).2 hf))).1,h2,(h6 _ (by omega) h3 (fun r hr hf=>h5 r (h.sub r hr) ((h.fails _ _ _ _).2 hf))).2⟩
end
section
open Tryz
open Go.RowKit
attribute [local go_sem] zAE Oper.grows Oper.growUpon
def OwnL (w:World) (base:Nat) (v:Value) (L:List Int) : Prop:=w.ownsRow base 3 1 v L.length (L.map (Value.int .i64))/\∀ x∈L,I64 x
theorem OwnL.ext {w w':World} {base:Nat} {v:Value} {L:List Int} (hb:Below w.heap.size w w') (h:OwnL w base v L) : OwnL w' base v L:=⟨zAC hb h.1,h.2⟩
def Built.one (b:Built) (r:Report) : Built:={ b with rs:=[r] }
end
section
open Tryz
open Go.RowKit Go.Shelf
attribute [local go_sem] zAE Oper.grows Oper.growUpon
def Lone (b:Built) (r:Report) : Prop:=¬ ∃ S,IsT (zBO b.ns.notes) S/\zCV (b.one r) S
open Classical in
noncomputable def zLC (b:Built) (k:Nat) : List Int:=((b.rs.take k).filter fun r=>decide (Lone b r)).map (·.num)
theorem claTo_yes {b:Built} {k:Nat} (hk:k < b.rs.length) (h:Lone b b.rs[k]) : zLC b (k+1)=zLC b k++[b.rs[k].num]:=by
 unfold zLC;rw [List.take_succ_eq_append_getElem hk,List.filter_append,List.map_append];simp [h]
theorem claTo_no {b:Built} {k:Nat} (hk:k < b.rs.length) (h:¬ Lone b b.rs[k]) : zLC b (k+1)=zLC b k:=by
 unfold zLC;rw [List.take_succ_eq_append_getElem hk,List.filter_append,List.map_append];simp [h]
theorem claTo_le (b:Built) (k:Nat) : (zLC b k).length<=k:=by
 unfold zLC;rw [List.length_map];exact Nat.le_trans (List.length_filter_le _ _) (by rw [List.length_take];omega)
theorem claTo_I64 {b:Built} (h:zF b=0) (k:Nat) : ∀ x∈zLC b k,I64 x:=fun x hx=>by
 unfold zLC at hx;obtain ⟨r,hr,rfl⟩:=List.mem_map.1 hx;have:=(zGQ h (List.mem_of_mem_take (List.mem_filter.1 hr).1)).1;unfold In at this;unfold I64;omega
noncomputable def claL (b:Built) : List Int:=if zF b=0 then zLC b b.rs.length else []
end
section
open Tryz
open Go.RowKit
section
variable {P:Program} {Q:Exit->Act->World->Prop}
theorem zQO {l n:Nat} {f:FuncId} {args:Array Value} {w:World} {R:Ending->World->Prop} (h:Calls P f args w R) : CallsIn (Fence.wide.inRound l) n P f args w R:=CallsIn.inRound l (callsIn_wide.2 h)
theorem wpOpIn_of {ops:Array Oper} {l n i:Nat} {a:Act} {w:World} {K K':Act->World->Prop} (hQ:¬ LetsOut Q) (hr:∀ o∈ops,∀ c,o.op ≠ .defer c) (hK:∀ a w,K a w->K' a w) (h:wpOp P ops Q i K a w) :
  wpOpIn (Fence.wide.inRound l) n P ops Q i K' a w:=by
 unfold wpOp at h;unfold wpOpIn;cases ho:ops[i]? with
 | none=>rw [ho] at h;exact hK _ _ h
 | some o =>
   rw [ho] at h;simp only at h ⊢;have hm:=hr o (Array.mem_of_getElem? ho);by_cases hw:Region.wanted o (yielded ops a.tmps)=true
   ·rw [if_pos hw] at h ⊢
    rcases h with h | h
    ·refine ⟨fun _ _=>trivial,?_⟩
     rw [show (Fence.wide.inRound l).round=some l from rfl,Oper.semAt_some l _ o hm];unfold Oper.wp at h;generalize (execOp a.eval o).run P w=r at *;cases r with
     | ok x w' =>
       cases x <;> simp only [Oper.upon,Oper.uponIn] at h ⊢ <;>
        first
         | exact hK _ _ h
         | exact ⟨(fun hd=>by cases hd),zQO (Calls.mono h (fun e w'' he=>by cases e <;> first | exact hK _ _ he | exact he))⟩
         | exact ⟨(fun hd=>by cases hd),fun c cs _=>let ⟨v,w',r,s⟩:=h c cs;⟨v,w',hK _ _ r,stepsIn_wide.2 s⟩⟩
     | halt x w'=>cases x <;> simp only [Oper.upon,Oper.uponIn] at h ⊢ <;> exact h
    ·exact absurd h.2 hQ
   ·rw [if_neg hw] at h ⊢;exact ⟨fun _ _=>trivial,hK _ _ h⟩
theorem anyIn_of {ops:Array Oper} {l n:Nat} {md:Region.Mode} (hQ:¬ LetsOut Q) (hr:∀ o∈ops,∀ c,o.op ≠ .defer c) : ∀ (fuel:Nat) (L:Array Bool) (a:Act) (w:World),wpAny P md ops Q fuel L a w->wpAnyIn (Fence.wide.inRound l) n P md ops Q fuel L a w:=by
 intro fuel;induction fuel with
 | zero=>exact fun L a w h=>h
 | succ fuel ih=>exact fun L a w h=>⟨h.1,fun i hi=>wpOpIn_of hQ hr (ih _) (h.2 i hi)⟩
theorem zKY {ops:List Oper} {l n id:Nat} {a0:Act} {w0:World} (m:Nat) (hQ:¬ LetsOut Q) (hr:ops.all (fun o=>match o.op with | .defer _=>false | _=>true)=true) (hm:P.follows .mixedOrders=true) (hB:zJK ops m=true)
  (h:zFC P ops.toArray (ops.take m) a0 w0 (fun Hs=>∀ vs w,Below w0.heap.size w0 w->(∀ i,i < m->zAI Hs i (vs i) w)->wpList P ops.toArray Q (ops.drop m) (zAB vs (ops.take m) 0 a0) w) (ops.take m) []) :
  (Code.region id ops.toArray true).wpIn (Fence.wide.inRound l) n P Q a0 w0:=by
 refine wpIn_region_any hm (anyIn_of hQ (fun o ho c hc=>by have:=List.all_eq_true.1 hr o (by simpa using ho);rw [hc] at this;cases this) _ _ _ _ ?_);have hml:=zMT hB;obtain ⟨Hs,hH,hst,_,hstep⟩:=zMJ (fun i o ho=>zEN hB ho) (ops.take m) [] (fun R hR=>by simp at hR) (fun i=>by simp) (by simp;omega) h;simp only [List.nil_append] at hH hst hstep;obtain ⟨vs,hvs⟩:=zNX (ops.take m) 0 a0;refine grow_any hB (zAI Hs) (fun i=>?_) (fun i o hi ho=>hstep i o (Nat.zero_le _) hi ho) hH _ _ _ _ (by simp) ?_ (fun j _=>?_) ?_ ⟨vs,hvs.symm,⟨rfl,rfl,rfl,Nat.le_refl _,fun _ _=>rfl⟩,fun i hi hli=>?_⟩
 ·unfold zAI
  cases hh:Hs[i]? with
  | none=>exact fun _ _ _ _ h=>h
  | some R=>exact hst R (List.mem_of_getElem? hh)
 ·intro i o hi;rw [zDV] at hi;cases hi
 ·exact zDV _ _
 ·simpa using zKQ ops.length ops.length
 ·rw [zDV] at hli
  cases hli
end
end
section
open Tryz
open Go.RowKit Go.Shelf
attribute [local go_sem] zAE Oper.grows Oper.growUpon Oper.semAt_some
def AtSite (vr vn vm vh vs:Value) (b:Built) (w:World) (g o:Nat) (x:Nat×List Int) : Prop:=zK w g o (.pointer (some ⟨x.1,0,none⟩))/\∃ vz,SiteAt w x.1 vr vn vm vh vs vz b x.2
theorem zKI (vr vn vm vh vs:Value) (b:Built) : zGG (AtSite vr vn vm vh vs b):=fun _ _ _ _ _ hb ⟨h0,vz,h1⟩=>⟨zC hb h0,vz,h1.ext hb⟩
def ptrV (p:Nat) : Value:=.pointer (some ⟨p,0,none⟩)
def SiteIn (w:World) (vr vn vm vh vs:Value) (b:Built) (p:Nat) (S:List Int) : Prop:=∃ vz,zGR w p vr vn vm vh vs vz b S/\OnT [3] (fun w=>Sl zAM 1 w vz S) w
theorem SiteIn.keepM {w w':World} {vr vn vm vh vs:Value} {b:Built} {p:Nat} {S:List Int} (hk:KeepM esF w w') (h:SiteIn w vr vn vm vh vs b p S) : SiteIn w' vr vn vm vh vs b p S:=by
 obtain ⟨vz,h1,h2⟩:=h;exact ⟨vz,h1.keepM hk,h2.keep (hk.cells.sub (by simp))⟩
structure SitesF (w:World) (n1:Nat) (v:Value) (vr vn vm vh vs:Value) (b:Built) (xs:List (Nat×List Int)) : Prop where
 row:w.ownsRow n1 123 1 v xs.length (xs.map fun x=>ptrV x.1)
 at_:∀ x∈xs,SiteIn w vr vn vm vh vs b x.1 x.2
theorem SitesF.keepM {w w':World} {n1:Nat} {v:Value} {vr vn vm vh vs:Value} {b:Built} {xs:List (Nat×List Int)} (hk:KeepM (123 :: esF) w w') (h:SitesF w n1 v vr vn vm vh vs b xs) : SitesF w' n1 v vr vn vm vh vs b xs :=
 ⟨zCR hk.cells (by simp) h.row,fun x hx=>(h.at_ x hx).keepM ⟨hk.cells.sub (fun e he=>List.mem_cons_of_mem _ he),hk.maps⟩⟩
theorem SitesF.sl {w:World} {n1:Nat} {v:Value} {vr vn vm vh vs:Value} {b:Built} {xs:List (Nat×List Int)} (h:SitesF w n1 v vr vn vm vh vs b xs) (hB:BuiltAt w vr vn vm vh vs b) : Sl (AtSite vr vn vm vh vs b) 1 w v xs:=by
 have h':=h.row;obtain ⟨_,h2⟩:=h.row;rcases h2 with ⟨rfl,hn⟩ | ⟨g,cap,cur,rfl,_,_,hc,hcm,_⟩
 ·exact ⟨none,0,by rw [hn],by omega,fun k hk=>by omega⟩
 ·refine ⟨some ⟨g,0,none⟩,cap,rfl,by unfold maxLen at hcm;omega,fun k hk=>⟨g,0,rfl,?_,?_⟩⟩
  ·have:=h'.cells (g:=g) rfl k (ptrV xs[k].1) (by simp [hk]);rw [zAZ] at this;unfold zK;simpa [ptrV] using this
  ·obtain ⟨vz,h1,h3⟩:=h.at_ _ (List.getElem_mem hk);exact ⟨vz,h1.row,hB,h3.now⟩
def VisAt (w:World) (vr vn vm vh vs vt:Value) (b:Built) (t:List Int) (v:Value) : Prop:=∃ p,v=ptrV p/\zGR w p vr vn vm vh vs vt b t
def SlVis (w:World) (vr vn vm vh vs vt:Value) (b:Built) (t:List Int) (v:Value) : Prop:=∃ g p,v = .slice (some ⟨g,0,none⟩) 1 1/\zK w g 0 (ptrV p)/\zGR w p vr vn vm vh vs vt b t
theorem infoPtr:(prog.info? 123).map (fun i=>(i.zero,i.size,i.bytes))=some (some (.pointer none),1,8):=by kernel_rfl
structure SitesO (w W:World) (B5 n1:Nat) (vr vn vm vh vs:Value) (b:Built) (T:List (List Int)) : Prop where
 below:Below w.heap.size w W
 box:Lay W w.heap.size #[vr,vn,.int .i64 b.of,vm,vh,vs] 32
 row:∃ v xs,Lay W B5 #[v] 169/\SitesF W n1 v vr vn vm vh vs b xs/\xs.map (·.2)=T
theorem SitesO.grow {w W W':World} {B5 n1:Nat} {vr vn vm vh vs:Value} {b:Built} {T:List (List Int)} (hb:Below W.heap.size W W') (h:SitesO w W B5 n1 vr vn vm vh vs b T) : SitesO w W' B5 n1 vr vn vm vh vs b T:=by
 obtain ⟨h1,hx,v,xs,h2,h3,h4⟩:=h;exact ⟨zA h1 hb,hx.ext hb,v,xs,h2.ext hb,h3.keepM (zBW hb),h4⟩
theorem sites_built (w:World) (vr vn vm vh vs:Value) (b:Built) (hA:BuiltArg w vr vn vm vh vs b) (hv:zF b=0) :
  Calls prog 88 #[.agg #[vr,vn,.int .i64 b.of,vm,vh,vs]] w fun e w'=>Below w.heap.size w w'/\∃ v xs,e = .returned v/\Sl (AtSite vr vn vm vh vs b) 1 w' v xs/\∀ S,(∃ x∈xs,x.2=S)↔IsT (zBO b.ns.notes) S:=by
 obtain ⟨f0,hff,fz0,fz1,fz2⟩:=info_parts infoPtr;obtain ⟨ar,cr,rfl,_⟩:=zD hA.at_.reg;obtain ⟨an,cn,rfl,_⟩:=zD hA.at_.notes;obtain ⟨am,cm,rfl,_⟩:=zD hA.at_.ms;obtain ⟨ah,ch,rfl,_⟩:=zD hA.at_.hs;obtain ⟨as',cs',rfl,_⟩:=zD hA.at_.rs;have hb1:=zB w (.cells #[.slice ar b.ns.reg.length cr,.slice an b.ns.notes.length cn,.int .i64 b.of,.slice am b.ms.length cm,.slice ah b.hs.length ch,.slice as' b.rs.length cs'] 32);have hbox:=Lay.new w 32 #[.slice ar b.ns.reg.length cr,.slice an b.ns.notes.length cn,.int .i64 b.of,.slice am b.ms.length cm,.slice ah b.hs.length ch,.slice as' b.rs.length cs'];have hz1:(w.alloc (.cells #[.slice ar b.ns.reg.length cr,.slice an b.ns.notes.length cn,.int .i64 b.of,.slice am b.ms.length cm,.slice ah b.hs.length ch,.slice as' b.rs.length cs'] 32)).heap.size=w.heap.size+1:=World.size_alloc _ _;have HA0:=zE hA;have HA:=zE (hA.ext hb1);have HB1:=zE hb1;have HBOX:=zE hbox;have HV:=zE hv;have hmx:prog.follows .mixedOrders=true:=by kernel_rfl
 clear hA hb1 hbox hv;refine (callsIn_wide (n:=3)).1 ?_;refine callsIn_of_wp_marks func88 rfl trivial ?_ rfl;simp only [ntmps88,List.size_toArray,List.length_cons,List.length_nil,Nat.reduceAdd,Nat.reduceSub,Array.replicate_succ,Array.replicate_zero,List.push_toArray,List.append_toArray,List.nil_append,List.cons_append];have hl2:=HBOX.out.alloc (.cells #[.slice none 0 0] 169);have k0:=hl2.cell 0 _ rfl;have k1:=hl2.cell 1 _ rfl;gi_wp2_with (refine ⟨trivial,?_⟩;gi_at_call 107;refine (callsIn_wide.2 (truths_val _ _ _ _ _ _ _)).mono ?_;rintro e w3 ⟨rfl,rfl⟩)
 clear k0 k1 hl2;generalize hw2:w.alloc _=w2 at *;have hbn:=zB w2 (.cells #[.slice none 0 0] 169);have hbm:=zB (w2.alloc (.cells #[.slice none 0 0] 169)) (.cells #[.slice ar b.ns.reg.length cr,.slice an b.ns.notes.length cn] 27);have hL5:=(Lay.new w2 169 #[.slice none 0 0]).alloc (.cells #[.slice ar b.ns.reg.length cr,.slice an b.ns.notes.length cn] 27);have hsz:(w2.alloc (.cells #[.slice none 0 0] 169)).heap.size=w2.heap.size+1:=World.size_alloc _ _;have hLn:=Lay.new (w2.alloc (.cells #[.slice none 0 0] 169)) 27 #[.slice ar b.ns.reg.length cr,.slice an b.ns.notes.length cn];rw [hsz] at hLn;have hbW:=zA hbn hbm;rw [hz1] at hL5 hLn;have HA2:=zE (HA.out.ext hbW);have HBOX2:=zE (HBOX.out.ext hbW);have HBW:=zE (zA HB1.out hbW);have hl5:=hL5.lt;have hw52:w.heap.size < w.heap.size+1:=by omega
 clear hbn hbm hbW hsz;generalize (w2.alloc _).alloc _=W0 at *;have hO0:SitesO w W0 (w.heap.size+1) (w.heap.size+1) (.slice ar b.ns.reg.length cr) (.slice an b.ns.notes.length cn) (.slice am b.ms.length cm) (.slice ah b.hs.length ch) (.slice as' b.rs.length cs') b [] :=
  ⟨HBW.out,HBOX2.out,.slice none 0 0,[],hL5,⟨World.ownsRow_nil _ _ _ _,fun x hx=>by simp at hx⟩,rfl⟩
 have hvp:=zS HV.out;have hok:=(zBJ hvp.1).2;refine zJH (α:=List Int×Value) (n:=3) rfl (by decide) (gf:=149) (lb:=#[.pointer (some ⟨w.heap.size+1+1,0,none⟩)]) rfl trivial (enters_of func149 (by kernel_rfl) rfl)
  (zPZ 2 (by decide) W0 (w.heap.size+1+1) _ b.ns.reg b.ns.notes (hLn.cell 1 _ rfl) HA2.out.at_.notes hok)
  (fun x W l o o' h1 h2 hg=>⟨hg.1.keep (zOD o' h1 h2),hg.2⟩) kpT_t (fun W l o o' _ h hc _=>kpT_b W l o o' h hc) (br_) (fun _=>rfl)
  (fun (pre:List (List Int×Value)) W=>SitesO w W (w.heap.size+1) (w.heap.size+1) (.slice ar b.ns.reg.length cr) (.slice an b.ns.notes.length cn) (.slice am b.ms.length cm) (.slice ah b.hs.length ch) (.slice as' b.rs.length cs') b (pre.map (fun t:List Int×Value=>t.1)))
  (fun _ _ _=>False)
  ⟨fun _ _ _ h hb=>SitesO.grow hb h,fun _ W l o o' h hB hl ho hw=>by
   obtain ⟨h1,hx,v,xs,h2,h3,h4⟩:=h;exact ⟨h1.trans (belowK_b (w:=w) (Nat.le_refl _) W l o o' (by have:=HBW.out.size;omega) hl ho hw),(zFM o' hl ho hw (es:=[32])).cells _ _ _ _ (by simp) hx,v,xs,(zFM o' hl ho hw (es:=[169])).cells _ _ _ _ (by simp) h2,h3.keepM (zFM o' hl ho hw),h4⟩⟩
  (fun _=>⟨fun _ _ _ h _=>h,fun _ _ _ _ _ h _ _ _ _=>h⟩)
  hO0
  (fun x=>{ tmps:=#[.agg #[.slice ar b.ns.reg.length cr,.slice an b.ns.notes.length cn,.int .i64 b.of,.slice am b.ms.length cm,.slice ah b.hs.length ch,.slice as' b.rs.length cs'],.pointer (some ⟨w.heap.size,0,none⟩),.slice none 0 0,.pointer (some ⟨w.heap.size+1,0,none⟩),x.2,.pointer (some ⟨w.heap.size,0,none⟩),.agg #[.slice ar b.ns.reg.length cr,.slice an b.ns.notes.length cn],.func (.func 149) #[] #[.pointer (some ⟨w.heap.size+1+1,0,none⟩)],x.2,undef,undef,undef,undef,undef,undef,undef],defers:=[] }) ?assign ?body ?done ?stop
 case assign =>intro l x W K hK;simp [List.zip_toArray];gi_wp2;exact hK
 case body =>
  rintro l0 pre ⟨t,vt⟩ W hO hG hlen;obtain ⟨hbW,hbx,v,xs,hl5W,hF,hT⟩:=hO;obtain ⟨hont,hIsT⟩:=hG;simp only at hont hIsT ⊢;have HAW:=zE (HA0.out.ext hbW);have HBX:=zE hbx;have HL5:=zE hl5W;have HF:=zE hF;have HBWW:=zE hbW;have HON:=zE hont;have HIT:=zE hIsT;have HXL:Hid (xs.length=pre.length):=zE <| by have:=congrArg List.length hT;simpa using this
  have HT:=zE hT;obtain ⟨a0,c0,rfl⟩:=zDC HF.out.row;have hsite:=zE (fun W' (hb:Below W.heap.size W W')=>zIU W' _ _ _ _ _ vt b t (HAW.out.ext hb) (HON.out.ext hb).now HV.out HIT.out);have k0:=hbx.cell 0 _ rfl;have k1:=hbx.cell 1 _ rfl;have k2:=hbx.cell 2 _ rfl;have k3:=hbx.cell 3 _ rfl;have k4:=hbx.cell 4 _ rfl;have k5:=hbx.cell 5 _ rfl;have k6:=hl5W.cell 0 _ rfl;clear hbx hl5W hF hbW hont hIsT hO0;have c0:=zH k0;have c1:=zH k1;have c2:=zH k2;have c3:=zH k3;have c4:=zH k4;have c5:=zH k5;have c6:=zH k6;gi_wp2
  clear k0 k1 k2 k3 k4 k5 k6;refine zKY 5 (fun ⟨_,_,h⟩=>h) (by kernel_rfl) (by kernel_rfl) (by kernel_rfl) ?_;simp only [tk_];iterate 3 (apply gx_;focus (intro vs xq hd;(try simp [hq_] at hd);simp only [pf_];go_simp;exact ⟨br_,rfl⟩))
  refine zL (fun v w'=>Hid (VisAt w' (.slice ar b.ns.reg.length cr) (.slice an b.ns.notes.length cn) (.slice am b.ms.length cm) (.slice ah b.hs.length ch) (.slice as' b.rs.length cs') vt b t v)) (fun v w1 w' hb ⟨p,e,h⟩=>zE ⟨p,e,h.keepM (zBW hb)⟩) ?_ ?_
  ·intro vs xq hd
   (try simp [hq_] at hd)
   simp only [pf_];go_simp;refine (hsite.out (W.later xq) (zG W xq)).mono ?_;rintro e w9 ⟨p,rfl,hm,hb9⟩;exact ⟨_,rfl,hb9,zE ⟨p,rfl,hm⟩⟩
  refine zL (fun v w'=>Hid (SlVis w' (.slice ar b.ns.reg.length cr) (.slice an b.ns.notes.length cn) (.slice am b.ms.length cm) (.slice ah b.hs.length ch) (.slice as' b.rs.length cs') vt b t v)) (fun v w1 w' hb ⟨g,p,e,hc,h⟩=>zE ⟨g,p,e,zC hb hc,h.keepM (zBW hb)⟩) ?_ ?_
  ·intro vs xq hd
   (try simp [hq_] at hd)
   simp only [pf_];go_simp;obtain ⟨p,e,hm⟩:=hd.out;rw [e];exact ⟨zB _ _,zE ⟨_,p,rfl,zR _ _ _ 0 _ rfl,hm.keepM (zBW (zB _ _))⟩⟩
  refine zQ (by simp only [List.length_append,List.length_cons,List.length_nil]) (fun vs xq hd=>?_);simp [zW,zAI,List.range,List.range.loop] at hd;simp only [pf_];obtain ⟨e0,e1,e2,h3,h4⟩:=hd;simp only [Nat.zero_add,Nat.reduceAdd] at e0 e1 e2 ⊢;simp only [e0,e1,e2];clear e0 e1 e2 c0 c1 c2 c3 c4 c5 c6 h3;obtain ⟨g,p,e4,hcg,hm⟩:=h4.out;rw [e4];generalize vs 3=v3 at *;clear e4 h4;have hbl:=zG W xq;have hl5:=HL5.out.ext hbl;have c5:=hl5.cell 0 _ rfl;have HL5':=zE hl5;have HF2:=zE (HF.out.keepM (zBW hbl));have HM:=zE hm;have HBL:=zE hbl;have HC:Hid (∀ j u,[ptrV p][j]? = some u->(W.later xq).cell? ((⟨g,0,none⟩ : Addr).add j)=some u):=zE (fun j u hj=>by rw [zAZ];cases j with | zero=>cases hj;exact hcg | succ j=>simp at hj);clear hcg hm hl5 hbl;generalize W.later xq=W2 at *;go_wp2_with (
   at_builtin
   refine wpList_append_own _ rfl _ _ 169 rfl (w.heap.size+1) 123 f0 (.pointer none) 1 8 underlying169 hff fz0 fz1 fz2 rfl (by decide) _ _ _ rfl HF2.out.row ⟨g,0,none⟩ 1 1 [ptrV p] rfl rfl HC.out (by intro u hu;rw [List.mem_singleton] at hu;subst hu;rfl) (by unfold maxLen;have:=HXL.out;omega) (by have:=HXL.out;omega) (Nat.le_of_lt HL5'.out.lt) ?_;intro v' W4 hown' hgrow _;obtain ⟨a9,c9,rfl⟩:=zDC hown';have hl4:Lay W4 (w.heap.size+1) _ _:=zBX (es:=[169]) hgrow HF2.out.row (by decide) _ _ _ _ (by simp) HL5'.out;have c6:=hl4.cell 0 _ rfl;have cf:=hl4.frozen 0;have cl:=hl4.lt;have HL4:=zE hl4;have HOW:=zE (And.intro hown' hgrow);clear hl4 hown' hgrow)
  have hown4:=HOW.out.1;have hgrow:=HOW.out.2;have hkG:KeepM esF W2 W4:=keepM_grown hgrow HF2.out.row (by decide);have hkS:KeepM (123 :: esF) W4 (W4.setCell ⟨w.heap.size+1,0,none⟩ (.slice a9 (xs.length+1) c9)):=keepM_set HL4.out (by decide);have hkF:KeepM esF W2 (W4.setCell ⟨w.heap.size+1,0,none⟩ (.slice a9 (xs.length+1) c9)):=hkG.trans ⟨hkS.cells.sub (fun e he=>List.mem_cons_of_mem _ he),hkS.maps⟩;have hbx5:=HBX.out.ext HBL.out;have hE:SitesO w (W4.setCell ⟨w.heap.size+1,0,none⟩ (.slice a9 (xs.length+1) c9)) (w.heap.size+1) (w.heap.size+1) (.slice ar b.ns.reg.length cr) (.slice an b.ns.notes.length cn) (.slice am b.ms.length cm) (.slice ah b.hs.length ch) (.slice as' b.rs.length cs') b (pre.map (fun t:List Int×Value=>t.1)++[t]):=by
   have hb2:=zA HBWW.out HBL.out;refine ⟨zI (Nat.le_succ _) (hb2.grown hgrow hb2.size (fun r e=>Nat.le_trans (Nat.le_succ _) (HF2.out.row.lt r e).1)),?_,.slice a9 (xs.length+1) c9,xs++[(p,t)],zCF HL4.out 0 _,⟨?_,?_⟩,?_⟩
   ·have h4:Lay W4 w.heap.size _ _:=zBX (es:=[32]) hgrow HF2.out.row (by decide) _ _ _ _ (by simp) hbx5;exact zFX h4 (by omega) 0 _
   ·rw [List.map_append,List.length_append];exact zCR hkS.cells (by simp) hown4
   ·intro x hx
    rcases List.mem_append.1 hx with h | h
    ·exact (HF2.out.at_ x h).keepM hkF
    ·rw [List.mem_singleton] at h;subst h;exact ⟨vt,HM.out.keepM hkF,(HON.out.ext HBL.out).keep (hkF.cells.sub (by simp))⟩
   ·rw [List.map_append,HT.out];rfl
  rw [show pre.map (fun t:List Int×Value=>t.1)++[t]=(pre++[(t,vt)]).map (fun t:List Int×Value=>t.1) by rw [List.map_append];rfl] at hE;exact ⟨((zDD HBL.out).trans ((keeps_own hgrow HF2.out.row).trans (KeepsOthers.setCell _ _ _))).from _,((zBM HBL.out).trans (zBX hgrow HF2.out.row (by decide))).trans (keepT_set HL4.out (by decide)),hE⟩
 case done =>rintro D ys W hD ⟨⟨hS1,hS2⟩,hlen⟩ hO hKD;obtain ⟨hbW,hbx,v,xs,hl5W,hF,hT⟩:=hO;obtain ⟨a0,c0,rfl⟩:=zDC hF.row;have c5:=hl5W.cell 0 _ rfl;have hBA:=(HA0.out.ext hbW).at_;have hsl:=hF.sl hBA;have HF:=zE hF;have HT:=zE hT;have HS2:=zE hS2;clear hF hbx hO0 hsl hBA hS1 hS2 hT;gi_wp2;refine ⟨by simp,.inl ⟨_,_,rfl,run_takeDeferred hKD,?_⟩⟩;have hbW':=hbW.trans (belowK_b (w:=w) (Nat.le_refl _) W D _ (.deferred none) (by have:=HBW.out.size;omega) hKD rfl rfl);refine ⟨.slice a0 xs.length c0,by simp [results,results88,go_sem],hbW',_,xs,rfl,(HF.out.keepM (zFM _ hKD rfl rfl)).sl (HA0.out.ext hbW').at_,fun S=>?_⟩;rw [<- HS2.out S,<- HT.out];simp only [List.mem_map]
 case stop =>rintro D c pre W _ _ h _;exact h.elim
theorem sub_ok {b:Built} (h:zF b=0) {rs:List Report} (hs:rs.Sublist b.rs) : zF { b with rs:=rs } = 0:=by
 obtain ⟨h1,h2⟩:=zS h;have hr:(rs.map (·.num)).Pairwise (· < ·):=(zFB h).sublist (hs.map _);have h3:zCA { b with rs:=rs }:=⟨h2.1,h2.2.1,h2.2.2.1,Nat.le_trans hs.length_le h2.2.2.2.1,h2.2.2.2.2.1,h2.2.2.2.2.2.1,fun i hi hi2=>⟨zGQ h (hs.subset (List.getElem_mem hi2)),fun h0=>by
  have hi3:i < rs.length:=hi2;have:=List.pairwise_iff_getElem.1 hr (i - 1) i (by rw [List.length_map];omega) (by rw [List.length_map];exact hi2) (by omega);simpa using this⟩⟩
 unfold zF;rw [if_neg (by simpa using h1),if_pos h3]
theorem left_sub {b:Built} (h:zF b=0) {rs:List Report} (hs:rs.Sublist b.rs) (S:List Int) : zCD b S (zDP b) rs≠none↔zCV { b with rs:=rs } S:=by
 have hv:=sub_ok h hs;have e:zJO { b with rs:=rs } S=zCD b S (zDP b) rs:=by unfold zJO zCD zDP;rw [show zKL { b with rs:=rs } S=zKL b S from funext (befR_rs b rs S)];rfl
 rw [<- e];cases hL:zJO { b with rs:=rs } S with
 | none=>exact ⟨fun h=>absurd rfl h,fun h=>absurd h (zMR hv hL)⟩
 | some L=>exact ⟨fun _=>(zFK hv hL).1,fun _=>by simp⟩
theorem fits1_built (w:World) (p gq:Nat) (vr vn vm vh vs vz vq:Value) (b:Built) (S:List Int) (rs:List Report) (hS:SiteAt w p vr vn vm vh vs vz b S) (hK:KindsAt w) (hv:zF b=0) (hq:Sl zAT 5 w vq rs) (hr:∀ r∈rs,zCE b.ns.reg b.ms r) (hg:zK w gq 0 vq) :
  Calls prog 135 (#[.pointer (some ⟨p,0,none⟩)] ++ #[.pointer (some ⟨gq,0,none⟩)]) w (zAK (zCD b S (zDP b) rs≠none) w):=by
 obtain ⟨aq,cq,rfl,_⟩:=zD hq;have hleft:=left_site w p vr vn vm vh vs vz _ b S rs hS hK hv hq hr;unfold zK at hg;clear hS hK hq hr hv;cases hL:zCD b S (zDP b) rs with
 | none =>rw [hL] at hleft;have HL:=zE hleft;clear hleft hL;go_enter func135,ntmps135;go_wp2_with (go_at_call 109;refine HL.out.mono ?_;rintro e w2 ⟨hb2,rfl⟩);go_ret;exact zAK.f (fun h=>h rfl) hb2
 | some L =>rw [hL] at hleft;have HL:=zE hleft;clear hleft hL;go_enter func135,ntmps135;go_wp2_with (go_at_call 109;refine HL.out.mono ?_;rintro e w2 ⟨hb2,v,base,rfl,hown,hnum,a,c,rfl⟩);go_ret;exact zAK.t (by simp) hb2
theorem enter_fits1:Enters prog 135:=enters_of func135 (by kernel_rfl) rfl
theorem indexFunc_site (vr vn vm vh vs:Value) (b:Built) (w:World) (v:Value) (xs:List (Nat×List Int)) (h:Sl (AtSite vr vn vm vh vs b) 1 w v xs) (g:FuncId) (caps:Array Value) (eg:∀ args w,(callFunc g args).run prog w = .ok (.enter g args) w) (p:Nat×List Int->Prop)
  (hp:∀ x∈xs,∀ w',Below w.heap.size w w'->Calls prog g (#[.pointer (some ⟨x.1,0,none⟩)]++caps) w' (zAK (p x) w')) :
  Calls prog 171 #[v,.func (.func g) #[] caps] w fun e w'=>∃ i:Int,e = .returned (.int .i64 i)/\(0<=i↔∃ x∈xs,p x)/\Below w.heap.size w w':=by
 obtain ⟨a,cap,rfl,hm⟩:=zD h;go_enter func171,ntmps171;go_wp2;go_loopw [8] (fun i wr=>∃ k:Nat,i = .int .i64 k/\k<=xs.length/\Hid (Below w.heap.size w wr)/\Hid (∀ j,j < k->(hj:j < xs.length)->¬ p xs[j])) (fun i _=>xs.length - (intOf i).toNat)
 case atStart=>exact ⟨0,rfl,by omega,br_,fun j hj=>absurd hj (by omega)⟩
 case round =>
  obtain ⟨k,rfl,hk,hb,hall⟩:=hrel;by_cases hlt:k < xs.length
  ·have hcall:=hp xs[k] (List.getElem_mem hlt) wr hb.out
   have HM:=zE (List.getElem_mem hlt);obtain ⟨b,off,rfl,⟨h0,_⟩⟩:=(zY (zJ (zKI vr vn vm vh vs b) hb.out h)).2 k hlt;generalize hx:xs[k]=x at *;have HX:=zE hx;clear hx hp h;have hlt3:=zAD h0;unfold zK at h0;rw [Nat.mul_one] at h0;go_wp2_with (go_at_fn g;refine hcall.mono ?_;intro e w' hr;rcases hr.both with ⟨h1,rfl,hb'⟩ | ⟨h1,rfl,hb'⟩ <;> clear hr)
   ·have h1':=zE h1;clear h1;go_wp2;go_ret;exact ⟨k,rfl,⟨fun _=>⟨x,HM.out,h1'.out⟩,fun _=>by omega⟩,zA hb.out hb'⟩
   ·have h1':=zE h1
    clear h1;go_wp2;go_roundw
    ·exact ⟨k+1,by go_num,by omega,zA hb.out hb',zAO _ k hall.out (fun _=>by rw [HX.out];exact h1'.out)⟩
    ·simp [intOf];omega
  ·clear hp h;go_wp2;go_ret;refine ⟨-1,rfl,⟨fun h=>by omega,fun ⟨x,hx,hpx⟩=>?_⟩,hb.out⟩;obtain ⟨j,hj,rfl⟩:=List.getElem_of_mem hx;exact (hall.out j (by omega) hj hpx).elim
theorem fits_built (w:World) (vl vq vr vn vm vh vs:Value) (b:Built) (xs:List (Nat×List Int)) (rs:List Report) (hl:Sl (AtSite vr vn vm vh vs b) 1 w vl xs) (hK:KindsAt w) (hv:zF b=0) (hq:Sl zAT 5 w vq rs) (hs:rs.Sublist b.rs) (hT:∀ S,(∃ x∈xs,x.2=S)↔IsT (zBO b.ns.notes) S) :
  Calls prog 89 #[vl,vq] w (zAK (∃ S,IsT (zBO b.ns.notes) S/\zCV { b with rs:=rs } S) w):=by
 have hb1:=zB w (.cells #[vq] 30);have hq1:=zJ zAP hb1 hq;have hl1:=zJ (zKI vr vn vm vh vs b) hb1 hl;have hK1:=hK.ext hb1;have hc:=(Lay.new w 30 #[vq]).cell 0 _ rfl;have hsite:∀ x∈xs,∃ vz,SiteAt (w.alloc (.cells #[vq] 30)) x.1 vr vn vm vh vs vz b x.2:=fun x hx=>by
  obtain ⟨k,hk,rfl⟩:=List.getElem_of_mem hx;obtain ⟨a,c,rfl,_⟩:=zD hl1;obtain ⟨_,_,_,_,h⟩:=(zY hl1).2 k hk;exact h
 have hcall:=zE (indexFunc_site vr vn vm vh vs b _ vl xs hl1 135 #[.pointer (some ⟨w.heap.size,0,none⟩)] enter_fits1 (fun x=>zCD b x.2 (zDP b) rs≠none) (fun x hx w' hb=>by
  obtain ⟨vz,h⟩:=hsite x hx;exact fits1_built w' x.1 w.heap.size vr vn vm vh vs vz vq b x.2 rs (h.ext hb) (hK1.ext hb) hv (zJ zAP hb hq1) (fun r hr=>zGQ hv (hs.subset hr)) (zC hb hc)))
 have hiff:Hid ((∃ x∈xs,zCD b x.2 (zDP b) rs≠none)↔∃ S,IsT (zBO b.ns.notes) S/\zCV { b with rs:=rs } S):=by
  constructor
  ·rintro ⟨x,hx,h⟩;exact ⟨x.2,(hT x.2).1 ⟨x,hx,rfl⟩,(left_sub hv hs x.2).1 h⟩
  ·rintro ⟨S,hS,h⟩;obtain ⟨x,hx,rfl⟩:=(hT S).2 hS;exact ⟨x,hx,(left_sub hv hs x.2).2 h⟩
 obtain ⟨aq,cq,hvq,_⟩:=zD hq;subst hvq;clear hq1 hl1 hK1 hc hsite hl hq hK;go_enter func89,ntmps89;go_wp2_with fail;generalize w.alloc _=w1 at *;go_enter func134,ntmps134;go_wp2_with fail;refine hcall.out.mono ?_;rintro e w2 ⟨i,rfl,hi,hb2⟩;have HI:=zE (hi.trans hiff.out);clear hi hcall hiff;go_wp2;go_ret;exact ⟨decide (0<=i),rfl,by rw [decide_eq_true_eq];exact HI.out,zA hb1 hb2⟩
end
end Go.Proofs.YtipaopbmklbmnaaGreatDoor
