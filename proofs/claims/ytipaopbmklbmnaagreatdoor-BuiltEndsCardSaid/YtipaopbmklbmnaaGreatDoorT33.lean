/- Lemmas. -/
import Derived.Test.YtipaopbmklbmnaaGreatDoorT32
set_option linter.all false
set_option maxRecDepth 100000
set_option maxHeartbeats 0
namespace Go.Proofs.YtipaopbmklbmnaaGreatDoor
section
open Tryz
open Go.RowKit Go.Shelf
attribute [local go_sem] zAE Oper.grows Oper.growUpon
theorem builtCode_8 (b:Built) : zF b≠8/\zF b≠2:=by
 have h1:zX b.ns.reg=20\/zX b.ns.reg=21\/zX b.ns.reg=0:=by
  unfold zX;split
  ·split
   ·exact .inr (.inl rfl)
   ·split
    ·exact .inl rfl
    ·exact .inr (.inr rfl)
  ·exact .inl rfl
 have h2:zP b.ns.reg b.ns.notes=20\/zP b.ns.reg b.ns.notes=21\/zP b.ns.reg b.ns.notes=0\/zP b.ns.reg b.ns.notes=30:=by
  unfold zP;split
  ·rcases h1 with h | h | h
   ·exact .inl h
   ·exact .inr (.inl h)
   ·exact absurd h (by assumption)
  ·split
   ·exact .inr (.inr (.inl rfl))
   ·exact .inr (.inr (.inr rfl))
 unfold zF;split
 ·rcases h2 with h | h | h | h <;> rw [h] <;> constructor <;> decide
 ·split <;> constructor <;> decide
theorem ask_ok {b:Built} {m:Int} (h:zBK b m=0\/zBK b m=8) : zF b=0/\m∈b.ms:=by
 have h8:=builtCode_8 b;unfold zBK at h;by_cases hv:zF b=0
 ·refine ⟨hv,?_⟩
  rw [if_neg (by simp [hv])] at h;by_cases hm:m∈b.ms
  ·exact hm
  ·rw [if_pos hm] at h;rcases h with h | h <;> cases h
 ·rw [if_pos hv] at h
  rcases h with h | h
  ·exact absurd h hv
  ·exact absurd h h8.1
open Classical in
noncomputable def zAS (b:Built) (m d l:Int) : Int:=if (zBK b m=0\/zBK b m=8)/\¬ zFO b.ns.reg d l then 6 else zBK b m
noncomputable def zBE (b:Built) (m d l:Int) : Span:=if zAS b m d l=0 then zAU b (zAQ b) m d l else ⟨0,0⟩
end
section
open Tryz
open Go.RowKit Go.Shelf
def zHD (s:Span) (e:Int) : Int:=if e≠0 then 0 else if 0 < s.lo then 2 else if s.hi=0 then 0 else 1
theorem infoHold:(prog.info? 94).map (fun i=>(i.zero,i.size,i.bytes))=some (some (.agg #[.int .i64 0,.int .i64 0,.int .i64 0,.int .i64 0]),4,32):=by kernel_rfl
def encHold (x:Hold) : List Value:=[.int .i64 x.d,.int .i64 x.l,.int .i64 x.lo,.int .i64 x.hi]
theorem cellsN_new (w:World) (vs:List Value) (t:TypeId) (cs:Array Value) (h:cs=vs.toArray) : ∀ j u,vs[j]? = some u->(w.alloc (.cells cs t)).cell? ((⟨w.heap.size,0,none⟩ : Addr).add j)=some u:=by
 subst h;intro j u hj;rw [zAZ];exact zR w vs.toArray t j u (by simpa using hj)
theorem sl_none {α:Type} (E:World->Nat->Nat->α->Prop) (sz:Nat) (w:World) : Sl E sz w (.slice none 0 0) []:=⟨none,0,rfl,by simp,fun k hk=>by simp at hk⟩
open Classical in
noncomputable def zBQ (b:Built) (m:Int) (x:Issue) : List Hold :=
 if zFO b.ns.reg x.d x.l/\0 < (zAU b (zAQ b) m x.d x.l).hi then [⟨x.d,x.l,(zAU b (zAQ b) m x.d x.l).lo,(zAU b (zAQ b) m x.d x.l).hi⟩] else []
noncomputable def zES (b:Built) (m:Int) (k:Nat) : List Hold:=(b.ns.reg.take k).flatMap (zBQ b m)
noncomputable def zBA (b:Built) (m:Int) : List Hold:=if zBK b m=0 then b.ns.reg.flatMap (zBQ b m) else []
theorem zQC (b:Built) (m:Int) {k:Nat} (hk:k < b.ns.reg.length) : zES b m (k+1)=zES b m k++zBQ b m b.ns.reg[k]:=by
 unfold zES;rw [List.take_succ_eq_append_getElem hk,List.flatMap_append,List.flatMap_singleton]
theorem holdOf_le (b:Built) (m:Int) (x:Issue) : (zBQ b m x).length<=1:=by unfold zBQ;split <;> simp
theorem holdsTo_le (b:Built) (m:Int) : ∀ k,k<=b.ns.reg.length->(zES b m k).length<=k
 | 0,_=>by simp [zES]
 | k+1,h=>by
   have h1:=holdsTo_le b m k (by omega);have h2:=holdOf_le b m (b.ns.reg[k]'(by omega));rw [zQC b m (show k < b.ns.reg.length by omega),List.length_append];omega
theorem refOf02 (w:World) (d l:Int) (k vi vd:Value) :
  Calls prog 54 #[.agg #[.int .i64 d,.int .i64 l,k,vi,vd]] w fun e w'=>e = .returned (.agg #[.int .i64 d,.int .i64 l])/\Below w.heap.size w w':=by
 obtain ⟨hb1,B1⟩:=zBY w #[.int .i64 d,.int .i64 l,k,vi,vd] 118;have c0:=B1 0 _ rfl;have c1:=B1 1 _ rfl;clear B1;unfold zK at c0 c1;go_enter func54,ntmps54;go_wp2;clear c0 c1;have hsz:(w.alloc (.cells #[.int .i64 d,.int .i64 l,k,vi,vd] 118)).heap.size=w.heap.size+1:=World.size_alloc _ _;generalize w.alloc _=w1 at *;have hL:=Lay.new w1 45 #[.int .i64 d,.int .i64 l];rw [hsz] at hL;have z0:=hL.cell 0 _ rfl;have z1:=hL.cell 1 _ rfl;have zl:=hL.lt;refine bodyPost_ret (v:=.agg #[.int .i64 d,.int .i64 l]) (by simp [results,results54,go_sem,z0,z1,zl]) rfl ?_;exact ⟨rfl,zA hb1 (zB _ _)⟩
theorem zPB {b:Built} (h:zF b=0) {m:Int} (hm:m∈b.ms) (A:List (List Int)) (d l:Int) : I64 (zAU b A m d l).lo/\I64 (zAU b A m d l).hi:=by
 unfold zAU;have key:∀ y∈A.flatMap (fun S=>zOP b S m d l),I64 y:=by intro y hy;obtain ⟨S,_,hy⟩:=List.mem_flatMap.1 hy;rw [ends_is hm] at hy;have h1:=heldN_bd h (S:=S) hm d l (spanS b S m d).lo;have h2:=heldN_bd h (S:=S) hm d l (spanS b S m d).hi;simp only [List.mem_cons,List.not_mem_nil,or_false] at hy;unfold I64;rcases hy with rfl | rfl <;> omega
 generalize A.flatMap (fun S=>zOP b S m d l)=xs at *;by_cases he:xs=[]
 ·subst he;exact ⟨by unfold I64;decide,by unfold I64;decide⟩
 ·obtain ⟨h1,h2,_⟩:=zGS he;exact ⟨key _ h1,key _ h2⟩
theorem holdsTo_all (b:Built) (m:Int) : zES b m b.ns.reg.length=b.ns.reg.flatMap (zBQ b m):=by unfold zES;rw [List.take_length]
theorem holds_bd {b:Built} (h:zF b=0) {m:Int} (hm:m∈b.ms) (hR:∀ x∈b.ns.reg,I64 x.d/\I64 x.l) : ∀ y∈b.ns.reg.flatMap (zBQ b m),I64 y.d/\I64 y.l/\I64 y.lo/\I64 y.hi:=by
 intro y hy;obtain ⟨x,hx,hy⟩:=List.mem_flatMap.1 hy;unfold zBQ at hy;split at hy
 ·simp only [List.mem_cons,List.not_mem_nil,or_false] at hy;subst hy;exact ⟨(hR x hx).1,(hR x hx).2,zPB h hm _ _ _⟩
 ·simp at hy
end
section
open Go.RowKit
theorem zRE (w:World) (x:Int) (h:I64 x) : Sl zAM 1 (w.alloc (.cells #[.int .i64 x] 3)) (.slice (some ⟨w.heap.size,0,none⟩) 1 1) [x] :=
 zBF (xs:=[x]) (base:=w.heap.size) (World.ownsRow_lit w #[.int .i64 x] 1 (Nat.le_refl _) (by decide) rfl) (fun y hy=>by simp at hy;subst hy;exact h)
theorem zNS (w:World) (x y:Int) (h:I64 x) (h2:I64 y) : Sl zAM 1 (w.alloc (.cells #[.int .i64 x,.int .i64 y] 3)) (.slice (some ⟨w.heap.size,0,none⟩) 2 2) [x,y] :=
 zBF (xs:=[x,y]) (base:=w.heap.size) (World.ownsRow_lit w #[.int .i64 x,.int .i64 y] 2 (Nat.le_refl _) (by decide) rfl) (fun z hz=>by simp at hz;rcases hz with rfl | rfl <;> first | exact h | exact h2)
theorem zON {A:List (List Int)} (f:List Int->List Int) : (List.range A.length).flatMap (fun k=>f (A.getD k []))=A.flatMap f:=by
 have key:∀ k,k<=A.length->(List.range k).flatMap (fun k=>f (A.getD k []))=(A.take k).flatMap f:=by
  intro k;induction k with
  | zero=>intro _;simp
  | succ k ih =>
    intro hk;have hlt:k < A.length:=by omega
    rw [List.range_succ,List.flatMap_append,List.flatMap_singleton,ih (by omega),List.take_succ_eq_append_getElem hlt,List.flatMap_append,List.flatMap_singleton,List.getD_eq_getElem?_getD,List.getElem?_eq_getElem hlt];rfl
 have:=key A.length (Nat.le_refl _);rwa [List.take_length] at this
end
end Go.Proofs.YtipaopbmklbmnaaGreatDoor
