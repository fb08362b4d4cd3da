/- The longest chains of a book's drawings. -/
import Derived.Maps.OwnIn
import Derived.Maps.RangeWalk
import Derived.Test.YtpolpdegpbahiaaGreatDoorProg
import Derived.Shelf.RegionOpen
import Derived.Test.YtpolpdegpbahiaaGreatDoorM01
import Derived.Test.YtpolpdegpbahiaaGreatDoorM02
import Derived.Test.YtpolpdegpbahiaaGreatDoorM04
import Derived.Test.YtpolpdegpbahiaaGreatDoorM08
import Derived.Test.YtpolpdegpbahiaaGreatDoorM09
import Derived.Test.YtpolpdegpbahiaaGreatDoorM11
import Derived.Test.YtpolpdegpbahiaaGreatDoorM53
import Derived.Test.YtpolpdegpbahiaaGreatDoorM54
set_option linter.all false
set_option maxRecDepth 100000
set_option maxHeartbeats 12800000

namespace Go.Proofs.YtpolpdegpbahiaaGreatDoor
open Tryz
section
open Go.RowKit
noncomputable def zHL (ms:List Int) (hs:List Heap) (rs:List Report) (X:List Has) (T:List (List Int)) (k:Nat) : Option Span:=(hs[k]?).elim none fun h=>zBL ms rs X T k h.lo (h.hi - h.lo+1).toNat
theorem countsV_at {ms:List Int} {hs:List Heap} {rs:List Report} {X:List Has} {T:List (List Int)} {k:Nat} (hk:k < hs.length) : zHL ms hs rs X T k=zBL ms rs X T k hs[k].lo (hs[k].hi - hs[k].lo+1).toNat:=by
 unfold zHL
 rw [List.getElem?_eq_getElem hk]
 rfl
def leftV (ms:List Int) (hs:List Heap) (rs:List Report) (X:List Has) (T:List (List Int)) : Prop:=(∀ k,k < hs.length→zHL ms hs rs X T k≠none)∧zKP ms rs X T (-1) 0
theorem left08 (w:World) (vr vn vm vh vs vp vt:Value) (o:Int) (ms:List Int) (hs:List Heap) (rs:List Report) (X:List Has) (T:List (List Int)) (hms:Sl zAJ 1 w vm ms) (hhs:Sl zHA 4 w vh hs) (hrs:Sl zDD 5 w vs rs) (hV:ViewAt w vp vt X T) (hO:ViewOk ms rs X T) (hr10:rs.length≤10)
  (hb:∀ k (hk:k < hs.length),0≤hs[k].lo∧hs[k].lo≤hs[k].hi∧hs[k].hi≤200) :
  Calls prog 61 #[.agg #[vr,vn,.int .i64 o,vm,vh,vs],.agg #[vp,vt],.int .i64 (2 ^ rs.length - 1)] w (zAK (leftV ms hs rs X T) w):=by
 obtain ⟨hb1,B1,B2⟩:=zDY w #[vr,vn,.int .i64 o,vm,vh,vs] #[vp,vt] 32 130
 have hb0:=B1 0 vr rfl
 have hb1':=B1 1 vn rfl
 have hb2:=B1 2 (.int .i64 o) rfl
 have hb3:=B1 3 vm rfl
 have hb4:=B1 4 vh rfl
 have hb5:=B1 5 vs rfl
 have d0:=B2 0 vp rfl
 have d1:=B2 1 vt rfl
 clear B1 B2
 have CA:=zF (And.intro hb0 (And.intro hb1' (And.intro hb2 (And.intro hb3 (And.intro hb4 (And.intro hb5 (And.intro d0 d1)))))))
 obtain ⟨ah,caph,rfl,hmh⟩:=zD hhs
 have hms1:=zF (zI zN hb1 hms)
 have hrs1:=zF (zI zAV hb1 hrs)
 have hhs1:=zF (zI zCL hb1 hhs)
 have hV1:=zF (hV.ext hb1)
 have HO:=zF hO
 have HLO:=zF hb
 clear hms hrs hV hO hhs hb0 hb1' hb2 hb3 hb4 hb5 d0 d1 hb
 have hwl:w.heap.size+1 < ((w.alloc (.cells #[vr,vn,.int .i64 o,vm,.slice ah hs.length caph,vs] 32)).alloc (.cells #[vp,vt] 130)).heap.size:=by simp
 go_enter func61,ntmps61
 go_wp2
 generalize (w.alloc _).alloc _=w1 at *
 have HB1:=zF hb1
 clear hb1
 go_loopw [7] (fun i wr=>∃ j:Nat,i = .int .i64 j∧j≤hs.length∧Hid (∀ k,k < j→zHL ms hs rs X T k≠none)∧Below w1.heap.size w1 wr) (fun i _=>hs.length - (intOf i).toNat)
 case atStart=>exact ⟨0,rfl,by omega,fun k hk=>absurd hk (by omega),br_⟩
 case round =>
  obtain ⟨j,rfl,hj,HALL,hb⟩:=hrel
  have HB:=zF hb
  have c0:=zC HB.out CA.out.1
  have c1:=zC HB.out CA.out.2.1
  have c2:=zC HB.out CA.out.2.2.1
  have c3:=zC HB.out CA.out.2.2.2.1
  have c4:=zC HB.out CA.out.2.2.2.2.1
  have c5:=zC HB.out CA.out.2.2.2.2.2.1
  have d0:=zC HB.out CA.out.2.2.2.2.2.2.1
  have d1:=zC HB.out CA.out.2.2.2.2.2.2.2
  unfold zJ at c0 c1 c2 c3 c4 c5 d0 d1
  by_cases hlt:j < hs.length
  ·have hcall:=zF (counts08 wr vr vn vm (.slice ah hs.length caph) vs vp vt o ms hs rs X T (zI zN HB.out hms1.out) (zI zCL HB.out hhs1.out) (zI zAV HB.out hrs1.out) (hV1.out.ext HB.out) HO.out hr10 j hlt (HLO.out j hlt))
   rw [← countsV_at hlt] at hcall
   have hsnoc:Hid (zHL ms hs rs X T j≠none→∀ k,k < j+1→zHL ms hs rs X T k≠none):=fun h k hk=>by
    by_cases e:k=j
    ·subst e;exact h
    ·exact HALL.out k (by omega)
   have hout:Hid (zHL ms hs rs X T j=none→¬ leftV ms hs rs X T):=fun h hl=>hl.1 j hlt h
   generalize zHL ms hs rs X T j=C at *
   go_wp2_with fail
   clear c0 c1 c2 c3 c4 c5 d0 d1
   refine hcall.out.mono ?_
   rintro e w2 ⟨rfl,hb2⟩
   have HB2:=zF (zA HB.out hb2)
   clear hb hb2 hcall
   cases C with
   | none =>
     have hn:=zF (hout.out rfl)
     clear hout hsnoc
     go_wp2
     go_ret
     refine zAK.f hn.out (zA HB1.out (zA HB2.out ?_))
     exact zB _ _
   | some s =>
     have hn:=zF (hsnoc.out (by simp))
     clear hout hsnoc
     simp only [Option.getD_some,Option.isSome_some]
     go_wp2
     go_roundw
     ·exact ⟨j+1,by go_num,by omega,hn,zA HB2.out (zB _ _)⟩
     ·simp [intOf];omega
  ·obtain rfl:j=hs.length:=by omega
   have hcall:=zF (fails08 wr vr vn vm (.slice ah hs.length caph) vs vp vt o ms rs X T (zI zN HB.out hms1.out) (zI zAV HB.out hrs1.out) (hV1.out.ext HB.out) HO.out hr10 (-1) 0 (by omega))
   have hnil:Hid (zCR (zET ms rs X T (-1) 0) rs rs.length=[]↔leftV ms hs rs X T):=zRC.trans ⟨fun h=>⟨HALL.out,h⟩,fun h=>h.2⟩
   generalize zCR (zET ms rs X T (-1) 0) rs rs.length=F at *
   go_wp2_with fail
   clear c0 c1 c2 c3 c4 c5 d0 d1
   refine hcall.out.mono ?_
   rintro e w2 ⟨u,rfl,hu,hb2⟩
   obtain ⟨au,cu,rfl,hmu⟩:=zD hu
   have hbb:=zF (zA HB1.out (zA HB.out hb2))
   clear hu hb2 hcall hb
   have hF:Hid (F=[]↔F.length=0):=List.length_eq_zero_iff.symm
   go_wp2
   go_ret
   exact ⟨_,rfl,by rw [← hnil.out,hF.out];simp,hbb.out⟩
end
section
open Go.RowKit
attribute [local go_sem] zAN Oper.grows Oper.growUpon
def rowL (f:Int→Int) (D:List Int) (k:Nat) : List Value:=((D.take k).map f).map (Value.int .i64)
theorem rowL_zero (f:Int→Int) (D:List Int) : rowL f D 0=[]:=by simp [rowL]
theorem rowL_all (f:Int→Int) (D:List Int) : rowL f D D.length=(D.map f).map (Value.int .i64):=by unfold rowL;rw [List.take_length]
theorem nums_take (D:List Int) (f:Int→Int) (k:Nat) (hk:k < D.length) : rowL f D (k+1)=rowL f D k++[.int .i64 (f D[k])]:=by
 unfold rowL
 rw [List.take_succ_eq_append_getElem hk,List.map_append,List.map_append]
 rfl
theorem letter03_by (w:World) (vr vn vb:Value) (N:List Note) (S:List Int) (m d:Int) (hn:Sl zBM 10 w vn N) (hB:Sl zJQ 1 w vb (frc S m N)) :
  Calls prog 194 #[.agg #[vr,vn],vb,.int .i64 d] w fun e w'=>e = .returned (.int .i64 (zQ S m N d))∧Below w.heap.size w w':=letter03 w vr vn vb N (frc S m N) d hn hB (zNV S m N)
theorem zJR {w:World} {v:Value} {N:List Note} (h:Sl zBM 10 w v N) {S:List Int} {m:Int} (d:Int) : I64 (zQ S m N d):=by
 unfold zQ zGX
 cases hh:zFU N (fAt S m N) d N.length with
 | none=>exact ⟨by decide,by decide⟩
 | some x =>
   obtain ⟨hx,_⟩:=noteTo_mem hh
   obtain ⟨k,hk,rfl⟩:=List.getElem_of_mem hx
   obtain ⟨a,cap,rfl,_⟩:=zD h
   obtain ⟨_,_,_,_,hr⟩:=(zZ h).2 k hk
   exact hr.2.2.2.2.1
theorem letters03 (w:World) (vr vn vs:Value) (R:List Issue) (N:List Note) (S:List Int) (m:Int) (hr:Sl zAU 5 w vr R) (hn:Sl zBM 10 w vn N) (hs:Sl zAJ 1 w vs S) (hN:N.length≤1000) (hR:R.length≤1000) :
  Calls prog 164 #[.agg #[vr,vn],vs,.int .i64 m] w fun e w'=>∃ u,e = .returned u∧Sl zAJ 1 w' u ((nums R).map (zQ S m N))∧Below w.heap.size w w':=by
 obtain ⟨i0,hif,iz0,iz1,iz2⟩:=info_parts zDM
 obtain ⟨hb1,B1⟩:=zAZ w #[vr,vn] 27
 have c0:=B1 0 vr rfl
 have c1:=B1 1 vn rfl
 clear B1
 obtain ⟨an,capn,rfl,hmn⟩:=zD hn
 obtain ⟨ar,capr,rfl,hmr⟩:=zD hr
 obtain ⟨az,capz,rfl,hms⟩:=zD hs
 have hn1:=zI zS hb1 hn
 have hr1:=zI zP hb1 hr
 have hs1:=zI zN hb1 hs
 have C:=zF (And.intro c0 c1)
 clear hn hs hr
 unfold zJ at c0 c1
 go_enter func164,ntmps164
 go_wp2_with fail
 clear c0 c1
 generalize w.alloc _=w1 at *
 refine (force03 _ _ _ _ N S m hn1 hs1 hN).mono ?_
 rintro e w2 ⟨vb,rfl,hvb,hb2⟩
 obtain ⟨ab,capb,rfl,hmb⟩:=zD hvb
 replace C:=zF (And.intro (zC hb2 C.out.1) (zC hb2 C.out.2))
 have hr2:=zI zP hb2 hr1
 have hn2:=zI zS hb2 hn1
 have hbb:=zA hb1 hb2
 clear hr1 hn1 hs1 hb1 hb2
 obtain ⟨c0,c1⟩:=C.out
 unfold zJ at c0 c1
 go_wp2_with fail
 clear c0 c1
 refine (zFK _ _ R hr2 hR).mono ?_
 rintro e w5 ⟨vd,rfl,hvd,hb5⟩
 obtain ⟨ad,capd,rfl,hmd⟩:=zD hvd
 have C:=zF (And.intro (zC hb5 C.out.1) (zC hb5 C.out.2))
 have hn5:=zF (zI zS hb5 hn2)
 have hvb5:=zF (zI zID hb5 hvb)
 have hvd5:=zF hvd
 replace hbb:=zF (zA hbb hb5)
 clear hr2 hn2 hvb hvd hb5
 have hcl:=zAF C.out.1
 have hD1:(nums R).length≤1000:=by have:=zMR R R.length;unfold nums;omega
 have hI:Hid (∀ x∈(nums R).map (zQ S m N),I64 x):=fun x hx=>by
  obtain ⟨d,_,rfl⟩:=List.mem_map.1 hx
  exact zJR hn5.out d
 generalize hD:nums R=D at *
 have HD:=zF hD
 clear hD
 go_wp2
 go_loopw [8,10] (fun o i wr=>∃ (k:Nat),i = .int .i64 k∧k≤D.length∧wr.ownsRow w5.heap.size 3 1 o k (rowL (zQ S m N) D k)∧Below w5.heap.size w5 wr) (fun _ i _=>D.length - (intOf i).toNat)
 case atStart=>exact ⟨0,rfl,by omega,by rw [rowL_zero];exact World.ownsRow_nil _ _ _ _,br_⟩
 case round =>
  obtain ⟨k,rfl,hk,hown,hb⟩:=hrel
  by_cases hlt:k < D.length
  case pos =>
   obtain ⟨bd,od,rfl,hcx,_⟩:=(zZ hvd5.out).2 k hlt
   have hnew:=zF (nums_take D (zQ S m N) k hlt)
   generalize D[k]=x at *
   have HCX:=zF hcx
   have HOWN:=zF hown
   have HB:=zF hb
   clear hcx hown hb
   go_wp2
   refine zBI 10 9 [8] (fun a c=>a.grownBy c u8.ownBlock) (fun c=>wr.grownBy c u8.ownBlock) (fun _ _ hb h=>zCJ hb h) (zAX _ _ _ rfl rfl rfl rfl)
    (fun c=>c.ownsRow w5.heap.size 3 1 u8 k (rowL (zQ S m N) D k)∧w5.heap.size≤c.heap.size) (fun _ _ hb h=>⟨zAA hb h.1,Nat.le_trans h.2 hb.size⟩) ⟨zAA ⟨rfl,rfl,rfl,Nat.le_refl _,fun _ _=>rfl⟩ HOWN.out,HB.out.size⟩ (by kernel_rfl) (by kernel_rfl) ?_
   simp only [tk_]
   apply gw_ (by rfl)
   ·intro vs w2 hw hd
    (try simp [hq_] at hd)
    simp only [pf_]
    go_simp
    exact ⟨br_,rfl⟩
   apply gw_ (by rfl)
   ·intro vs w2 hw hd
    (try simp [hq_] at hd)
    have hB2:=zAI HOWN.out hw HB.out (Nat.le_refl _);have k0:=zC hB2 C.out.1;have k1:=zC hB2 C.out.2;unfold zJ at k0 k1
    simp only [pf_]
    go_simp
    exact ⟨br_,rfl⟩
   apply gw_ (by rfl)
   ·intro vs w2 hw hd
    (try simp [hq_] at hd)
    simp only [pf_]
    go_simp
    exact ⟨br_,rfl⟩
   apply gw_ (by rfl)
   ·intro vs w2 hw hd
    (try simp [hq_] at hd)
    simp only [pf_]
    go_simp
    exact ⟨br_,rfl⟩
   apply gw_ (by rfl)
   ·intro vs w2 hw hd
    (try simp [hq_] at hd)
    simp only [pf_]
    go_simp
    exact ⟨br_,rfl⟩
   apply gw_ (by rfl)
   ·intro vs w2 hw hd
    (try simp [hq_] at hd)
    simp only [pf_]
    go_simp
    exact ⟨br_,rfl⟩
   apply gw_ (by rfl)
   ·intro vs w2 hw hd
    (try simp [hq_] at hd)
    have hB2:=zAI HOWN.out hw HB.out (Nat.le_refl _);have k0:=zC hB2 HCX.out;unfold zJ at k0;rw [Nat.mul_one] at k0
    simp only [pf_]
    go_simp
    exact ⟨br_,rfl⟩
   apply gw_ (by rfl)
   ·intro vs w2 hw hd
    (try simp [hq_] at hd)
    have hB2:=zAI HOWN.out hw HB.out (Nat.le_refl _)
    simp only [pf_]
    go_simp
    refine (letter03_by _ _ _ _ N S m x (zI zS hB2 hn5.out) (zI zID hB2 hvb5.out)).mono ?_
    rintro e w9 ⟨rfl,hb9⟩
    exact ⟨rfl,hb9⟩
   refine zCW (zGT (zQ S m N x)) (zCN (zQ S m N x)) (by rfl) (.inl (by rfl)) ?_ ?_
   ·intro vs w2 hw hd
    (try simp [hq_] at hd)
    simp only [pf_]
    go_simp
    exact ⟨zB _ _,_,rfl,zU _ _ _ 0 _ rfl⟩
   refine zDJ (fun v w'=>Hid (w'.ownsRow w5.heap.size 3 1 v (k+1) ((rowL (zQ S m N) D k)++[.int .i64 (zQ S m N x)]))) (fun _ _ _ hb h=>zF (zAA hb h.out)) (by rfl) ?_ ?_
   ·intro vs w2 hw hi hd
    (try simp [hq_] at hd)
    simp only [pf_]
    obtain ⟨e3,⟨bb,e5,hbb⟩,_⟩:=hd
    refine zBQ (.tmp 24) (.tmp 32) 28 (by rfl) w5.heap.size 3 i0 _ 1 8 underlying28 hif iz0 iz1 iz2 rfl (by decide) u8 _ _ (by exact e3) hi.1 (vs 8) ⟨bb,0,none⟩ 1 1 e5 [.int .i64 (zQ S m N x)] (by rfl) rfl (fun j u hj=>by
     cases j with
     | zero=>simp at hj;subst hj;exact hbb
     | succ j=>simp at hj) (fun u hu=>by simp at hu;subst hu;rfl) (by unfold maxLen;omega) (by omega) hi.2 (fun v' w' h1 h2=>⟨zAH hw h2,h2,h1⟩)
   refine zDI rfl (fun vs w7 hw hd=>?_)
   simp [zV,zAD,List.range,List.range.loop,List.filter_cons,List.filter_nil] at hd
   simp only [pf_]
   obtain ⟨e0,e1,e2,e3,e4,e5,e6,e7,h9⟩:=hd
   have hb7:=zF (zAI HOWN.out hw HB.out (Nat.le_refl _))
   simp only [Nat.zero_add,Nat.reduceAdd] at e0 e1 e2 e3 e4 e5 e6 e7 ⊢
   simp only [e0,e1,e2,e3,e4,e5,e6,e7]
   clear hw e0 e1 e2 e3 e4 e5 e6 e7
   generalize vs 9=u9 at *
   generalize vs 8=v8 at *
   go_wp2
   go_roundw
   ·exact ⟨k+1,by go_num,by omega,by rw [hnew.out];exact h9.out,hb7.out⟩
   ·simp [intOf];omega
  case neg =>
   obtain rfl:k=D.length:=by omega
   rw [rowL_all] at hown
   have HSL:Hid (Sl zAJ 1 wr u8 (D.map (zQ S m N))):=zBG (by rw [List.length_map];exact hown) hI.out
   clear hown
   go_wp2
   go_ret
   exact ⟨u8,rfl,by rw [HD.out];exact HSL.out,zA hbb.out hb⟩
end
section
open Go.RowKit
attribute [local go_sem] zAN Oper.grows Oper.growUpon
def TupF (x:Issue) (W:World) (v:Value) : Prop:=∃ vi vd,v = .tuple #[.agg #[.int .i64 x.d,.int .i64 x.l,.int .u8 x.k,vi,vd],.bool true]∧IssueAt W vi vd x
def AggF (x:Issue) (W:World) (v:Value) : Prop:=∃ vi vd,v = .agg #[.int .i64 x.d,.int .i64 x.l,.int .u8 x.k,vi,vd]∧IssueAt W vi vd x
def NewIss (base:Nat) (v:Value) (w:World) : Prop:=∃ b,v = .pointer (some ⟨b,0,none⟩)∧base≤b∧Lay w b #[.int .i64 0,.int .i64 0,.int .u8 0,.slice none 0 0,.slice none 0 0] 107
theorem lay_set5 {W:World} {B:Nat} {x0 x1 x2 x3 x4:Value} {t:TypeId} (h:Lay W B #[x0,x1,x2,x3,x4] t) (u0 u1 u2 u3 u4:Value) :
  Lay (((((W.setCell ⟨B,0,none⟩ u0).setCell ⟨B,1,none⟩ u1).setCell ⟨B,2,none⟩ u2).setCell ⟨B,3,none⟩ u3).setCell ⟨B,4,none⟩ u4) B #[u0,u1,u2,u3,u4] t:=by
 have s:∀ (W:World) (cs:Array Value) (j:Nat) (u:Value),Lay W B cs t→Lay (W.setCell ⟨B,j,none⟩ u) B (cs.setIfInBounds j u) t:=fun W cs j u h=>heap_setCell_same W B j cs t u h
 exact s _ _ 4 u4 (s _ _ 3 u3 (s _ _ 2 u2 (s _ _ 1 u1 (s _ _ 0 u0 h))))
theorem lay_other5 {W:World} {B G:Nat} {cs:Array Value} {t:TypeId} (h:Lay W B cs t) (hne:B≠G) (u0 u1 u2 u3 u4:Value) :
  Lay (((((W.setCell ⟨G,0,none⟩ u0).setCell ⟨G,1,none⟩ u1).setCell ⟨G,2,none⟩ u2).setCell ⟨G,3,none⟩ u3).setCell ⟨G,4,none⟩ u4) B cs t:=by
 have s:∀ (W:World) (j:Nat) (u:Value),Lay W B cs t→Lay (W.setCell ⟨G,j,none⟩ u) B cs t:=fun W j u h=>(Below.heap_setCell W ⟨G,j,none⟩ u B (by simpa using hne)).trans h
 exact s _ _ _ (s _ _ _ (s _ _ _ (s _ _ _ (s _ _ _ h))))
theorem index02_at (w:World) (v:Value) (l:List Int) (n:Int) (h:Sl zAJ 1 w v l) (hn:n∈l) :
  Calls prog 80 #[v,.int .i64 n] w fun e w'=>e = .returned (.int .i64 (l.idxOf n:Nat))∧Below w.heap.size w w':=by
 refine (zLY w v l n h).mono ?_
 rintro e w' ⟨rfl,rfl⟩
 exact ⟨by rw [zPY l n hn],br_⟩
theorem taken02 (w0 w:World) (vr vl:Value) (R:List Issue) (lt:Int→Int) (d:Int) (x:Issue) (hr0:Sl zAU 5 w0 vr R) (hb0:Below w0.heap.size w0 w) (hl:Sl zAJ 1 w vl ((nums R).map lt)) (hR:R.length≤1000) (hd:d∈nums R) (hx:zDB R d (lt d)=some x) :
  Calls prog 195 #[.agg #[vr],vl,.int .i64 d] w fun e w'=>∃ vi vd,e = .returned (.agg #[.int .i64 x.d,.int .i64 x.l,.int .u8 x.k,vi,vd])∧IssueAt w0 vi vd x∧Below w.heap.size w w':=by
 have hr:=zI zP hb0 hr0
 obtain ⟨hb1,B1,B2⟩:=zDY w #[vr] #[.int .i64 0,.int .i64 0,.int .u8 0,.slice none 0 0,.slice none 0 0] 24 107
 have c0:=B1 0 vr rfl
 have L0:=Lay.new (w.alloc (.cells #[vr] 24)) 107 #[.int .i64 0,.int .i64 0,.int .u8 0,.slice none 0 0,.slice none 0 0]
 rw [World.size_alloc] at L0
 clear B1 B2
 obtain ⟨ar,capr,rfl,hmr⟩:=zD hr
 obtain ⟨al,capl,rfl,hml⟩:=zD hl
 have hix:(nums R).idxOf d < (nums R).length:=List.idxOf_lt_length_of_mem hd
 have hixm:(nums R).idxOf d < ((nums R).map lt).length:=by rw [List.length_map];exact hix
 obtain ⟨bl,ol,rfl,hcl,_⟩:=(zZ hl).2 _ hixm
 have hval:((nums R).map lt)[(nums R).idxOf d]=lt d:=by rw [List.getElem_map];congr 1;exact List.getElem_idxOf hix
 rw [hval] at hcl
 have hr1:=zF (zI zP hb1 hr)
 have HR0:=zF hr0
 have HB0:=zF hb0
 have hc1:=zC hb1 hcl
 have HX:=zF hx
 have HD:=zF hd
 have HB1:=zF hb1
 have C0:=zF c0
 have HL0:=zF L0
 clear hr hr0 hb0 hl hcl hval hx hd c0 hb1 L0
 rw [List.length_map] at *
 generalize hixe:(nums R).idxOf d=ix at *
 have HIX:=zF hixe
 clear hixe
 go_enter func195,ntmps195
 go_wp2
 generalize (w.alloc _).alloc _=w1 at *
 have c0:∀ xq,(w1.later xq).cell? ⟨w.heap.size,0,none⟩=some (.slice ar R.length capr):=fun xq=>zC (zE w1 xq) C0.out
 have c1:∀ xq,(w1.later xq).cell? ⟨bl,ol+ix,none⟩=some (.int .i64 (lt d)):=fun xq=>by
  have:=zC (zE w1 xq) hc1
  rw [Nat.mul_one] at this
  exact this
 have hixl:(ix:Int) < (nums R).length:=by omega
 refine zGC 15 13 (by kernel_rfl) (by kernel_rfl) rfl rfl (fun v=>v = .bool true) ?_
 simp only [tk_]
 iterate 4 (apply gx_;focus (intro vs xq hd;(try simp [hq_] at hd);simp only [pf_];go_simp;exact ⟨br_,rfl⟩))
 refine zL (fun v w'=>Hid (Sl zAJ 1 w' v (nums R))) (fun v w w' hb h=>zF (zI zN hb h.out)) ?_ ?_
 ·intro vs xq hd
  (try simp [hq_] at hd)
  simp only [pf_]
  go_simp
  refine (zFK _ _ R (zI zP (zE w1 xq) hr1.out) hR).mono ?_
  rintro e w9 ⟨u,rfl,hu,hb⟩
  exact ⟨u,rfl,hb,zF hu⟩
 apply gx_;focus (intro vs xq hd;(try simp [hq_] at hd);simp only [pf_];go_simp;exact ⟨br_,rfl⟩)
 refine zAE ?_
 apply Exists.intro
 refine ⟨fun vs xq hd=>?_,?_⟩
 ·(try simp [hq_] at hd)
  have k4:=hd.1
  simp only [pf_]
  go_simp
  refine (index02_at _ _ (nums R) d k4.out HD.out).mono ?_
  rintro e w9 ⟨rfl,hb9⟩
  rw [HIX.out]
  exact ⟨rfl,hb9⟩
 iterate 3 (apply gx_;focus (intro vs xq hd;(try simp [hq_] at hd);simp only [pf_];go_simp;exact ⟨br_,rfl⟩))
 refine zL (fun v _=>TupF x w0 v) (fun v w w' hb h=>h) ?_ ?_
 ·intro vs xq hd
  (try simp [hq_] at hd)
  simp only [pf_]
  go_simp
  refine (find02w w0 _ _ R d (lt d) HR0.out (zA HB0.out (zA HB1.out (zE w1 xq)))).mono ?_
  rintro e w9 ⟨hb9,hf⟩
  rcases hf with ⟨y,vi,vd,h1,rfl,h3⟩ | ⟨h1,_⟩
  ·have hyx:y=x:=by rw [HX.out] at h1;cases h1;rfl
   subst hyx
   exact ⟨_,rfl,hb9,vi,vd,rfl,h3⟩
  ·rw [HX.out] at h1;cases h1
 refine zL (fun v _=>TupF x w0 v) (fun v w w' hb h=>h) ?_ ?_
 ·intro vs xq hd
  (try simp [hq_] at hd)
  simp only [pf_]
  go_simp
  exact br_
 refine zL (fun v _=>AggF x w0 v) (fun v w w' hb h=>h) ?_ ?_
 ·intro vs xq hd
  (try simp [hq_] at hd)
  simp only [pf_]
  obtain ⟨vi,vd,e,hI⟩:=hd
  rw [e]
  go_simp
  exact ⟨br_,vi,vd,rfl,hI⟩
 refine zL (fun v _=>v = .bool true) (fun v w w' hb h=>h) ?_ ?_
 ·intro vs xq hd
  (try simp [hq_] at hd)
  simp only [pf_]
  obtain ⟨vi,vd,e,hI⟩:=hd
  rw [e]
  go_simp
  exact br_
 refine zL (NewIss w1.heap.size) (fun v w w' hb h=>by obtain ⟨b,e,h1,h2⟩:=h;exact ⟨b,e,h1,h2.ext hb⟩) ?_ ?_
 ·intro vs xq hd
  (try simp [hq_] at hd)
  simp only [pf_]
  go_simp
  exact ⟨zB _ _,_,rfl,(zE w1 xq).size,Lay.new _ _ _⟩
 refine ⟨fun v w h=>h,fun vs w8 w9 hd=>?_,fun vs w8 hb8 hf=>?_⟩
 ·simp [Oper.waitsOn,Region.binds,List.filter_cons,List.filter_nil,zAD] at hd
  obtain ⟨vi,vd,e,hI⟩:=hd
  refine ⟨.bool true,?_,rfl⟩
  simp only [pf_]
  rw [e]
  go_simp
 ·have h12:=hf 12 (by decide) (by decide)
  have h14:=hf 14 (by decide) (by decide)
  simp [zAD] at h12 h14
  clear hf
  obtain ⟨vi,vd,e12,hI⟩:=h12
  obtain ⟨gb,e14,hgb,hLb⟩:=h14
  obtain ⟨ai,capi,rfl,_⟩:=zD hI.items
  obtain ⟨ad,capd,rfl,_⟩:=zD hI.dims
  have HI:=zF hI
  have HLB:=zF hLb
  have q0:=hLb.cell 0 _ rfl
  have q1:=hLb.cell 1 _ rfl
  have q2:=hLb.cell 2 _ rfl
  have q3:=hLb.cell 3 _ rfl
  have q4:=hLb.cell 4 _ rfl
  have f0:=hLb.frozen 0
  have f1:=hLb.frozen 1
  have f2:=hLb.frozen 2
  have f3:=hLb.frozen 3
  have f4:=hLb.frozen 4
  have hl:=hLb.lt
  clear hLb hI c0 c1
  simp only [pf_]
  rw [e12,e14]
  go_simp
  (try simp only [List.drop_succ_cons,List.drop_zero])
  have hL5:=lay_set5 HLB.out (.int .i64 x.d) (.int .i64 x.l) (.int .u8 x.k) (.slice ai x.items.length capi) (.slice ad x.dims.length capd)
  have hg1:=HL0.out.lt
  have hL1:=lay_other5 (G:=gb) (HL0.out.ext hb8) (by omega) (.int .i64 x.d) (.int .i64 x.l) (.int .u8 x.k) (.slice ai x.items.length capi) (.slice ad x.dims.length capd)
  have hbw:Below w1.heap.size w1 (((((w8.setCell ⟨gb,0,none⟩ (.int .i64 x.d)).setCell ⟨gb,1,none⟩ (.int .i64 x.l)).setCell ⟨gb,2,none⟩ (.int .u8 x.k)).setCell ⟨gb,3,none⟩ (.slice ai x.items.length capi)).setCell ⟨gb,4,none⟩ (.slice ad x.dims.length capd)) :=
   zH hgb (zH hgb (zH hgb (zH hgb (zH hgb hb8))))
  clear q0 q1 q2 q3 q4 f0 f1 f2 f3 f4 hl
  generalize ((((w8.setCell ⟨gb,0,none⟩ (.int .i64 x.d)).setCell ⟨gb,1,none⟩ (.int .i64 x.l)).setCell ⟨gb,2,none⟩ (.int .u8 x.k)).setCell ⟨gb,3,none⟩ (.slice ai x.items.length capi)).setCell ⟨gb,4,none⟩ (.slice ad x.dims.length capd)=w5 at *
  have q0:=hL5.cell 0 _ rfl
  have q1:=hL5.cell 1 _ rfl
  have q2:=hL5.cell 2 _ rfl
  have q3:=hL5.cell 3 _ rfl
  have q4:=hL5.cell 4 _ rfl
  have s0:=hL1.cell 0 _ rfl
  have s1:=hL1.cell 1 _ rfl
  have s2:=hL1.cell 2 _ rfl
  have s3:=hL1.cell 3 _ rfl
  have s4:=hL1.cell 4 _ rfl
  have h0:=hL1.frozen 0
  have h1:=hL1.frozen 1
  have h2:=hL1.frozen 2
  have h3:=hL1.frozen 3
  have h4:=hL1.frozen 4
  have hl1:=hL1.lt
  have hwb:=zF (zA HB1.out hbw)
  clear hL5 hL1 hbw hb8
  go_wp2
  have hle:w.heap.size≤w.heap.size+1:=Nat.le_succ _
  have hW:=zH (j:=4) (u:=.slice ad x.dims.length capd) hle (zH (j:=3) (u:=.slice ai x.items.length capi) hle (zH (j:=2) (u:=.int .u8 x.k) hle (zH (j:=1) (u:=.int .i64 x.l) hle (zH (j:=0) (u:=.int .i64 x.d) hle hwb.out))))
  refine bodyPost_ret (v:=.agg #[.int .i64 x.d,.int .i64 x.l,.int .u8 x.k,.slice ai x.items.length capi,.slice ad x.dims.length capd]) ?_ rfl ⟨_,_,rfl,HI.out,hW⟩
  simp [results,results195,go_sem,s0,s1,s2,s3,s4,hl1]
end
end Go.Proofs.YtpolpdegpbahiaaGreatDoor
namespace Go.Proofs.YtpolpdegpbahiaaGreatDoor
theorem issFold_acc (f:Int→Int) (x:Issue) (m:Nat) (acc:Int) : acc≤zDT f x m acc:=by
 induction m with
 | zero=>exact Int.le_refl _
 | succ m ih =>
   simp only [zDT]
   split
   ·exact ih
   ·omega
theorem issFold_ge (f:Int→Int) (x:Issue) (m:Nat) (acc:Int) (j:Nat) (hj:j < m) (y:Item) (hy:x.items[j]? = some y) : 1+f y.d≤zDT f x m acc:=by
 induction m with
 | zero=>omega
 | succ m ih =>
   simp only [zDT]
   by_cases e:j=m
   ·subst e
    rw [hy]
    simp only
    omega
   ·have:=ih (by omega)
    split
    ·exact this
    ·omega
theorem accTo_step (R:List Issue) (f:Int→Int) (k:Nat) (n:Int) : zDU R f k n≤zDU R f (k+1) n:=by
 simp only [zDU]
 split
 ·exact Int.le_refl _
 ·rename_i x _
  split
  ·rename_i h
   subst h
   have:=issFold_acc f x x.items.length (max (zDU R f k x.d) 1)
   omega
  ·exact Int.le_refl _
theorem accTo_mono (R:List Issue) (f:Int→Int) (k m:Nat) (h:k≤m) (n:Int) : zDU R f k n≤zDU R f m n:=by
 induction m with
 | zero =>
   obtain rfl:k=0:=by omega
   exact Int.le_refl _
 | succ m ih =>
   by_cases e:k=m+1
   ·subst e;exact Int.le_refl _
   ·exact Int.le_trans (ih (by omega)) (accTo_step R f m n)
theorem zJJ {R:List Issue} {x:Issue} (hx:x∈R) {y:Item} (hy:y∈x.items) (f:Nat) : 1+dep R f y.d≤dep R (f+1) x.d:=by
 obtain ⟨k,hk,rfl⟩:=List.getElem_of_mem hx
 obtain ⟨j,hj,hy'⟩:=List.getElem_of_mem hy
 have h1:=accTo_mono R (dep R f) (k+1) R.length (by omega) R[k].d
 simp only [dep]
 refine Int.le_trans ?_ h1
 rw [zOB R (dep R f) k hk,mid_at]
 exact issFold_ge _ _ _ _ j hj y (by rw [List.getElem?_eq_getElem hj,hy'])
theorem dep_pos {R:List Issue} {x:Issue} (hx:x∈R) (f:Nat) : 1≤dep R (f+1) x.d:=by
 obtain ⟨k,hk,rfl⟩:=List.getElem_of_mem hx
 have h1:=accTo_mono R (dep R f) (k+1) R.length (by omega) R[k].d
 simp only [dep]
 refine Int.le_trans ?_ h1
 rw [zOB R (dep R f) k hk,mid_at]
 have:=issFold_acc (dep R f) R[k] R[k].items.length (max (zDU R (dep R f) k R[k].d) 1)
 omega
def zCS (R:List Issue) (lt:Int→Int) : Nat→Int→Int→List (Int×Int)
 | 0,_,_=>[]
 | f+1,d,m=>match zDB R d (lt d) with
   | none=>[]
   | some x=>(if x.k=1 then [] else [(d,m)])++x.items.flatMap (fun y=>zCS R lt f y.d (m*y.c))
def tot (n:Int) : List (Int×Int)→Int
 | []=>0
 | p :: L=>(if p.1=n then p.2 else 0)+tot n L
theorem zOI (n:Int) (L M:List (Int×Int)) : tot n (L++M)=tot n L+tot n M:=by
 induction L with
 | nil=>simp [tot]
 | cons p L ih=>simp only [List.cons_append,tot,ih];omega
theorem tot_flat (n:Int) {α:Type} (g:α→List (Int×Int)) (C:Int) (ys:List α) (h:∀ y∈ys,0≤tot n (g y)∧tot n (g y)≤C) : 0≤tot n (ys.flatMap g)∧tot n (ys.flatMap g)≤(ys.length:Int)*C:=by
 induction ys with
 | nil=>simp [tot]
 | cons y ys ih =>
   have h1:=ih (fun z hz=>h z (List.mem_cons_of_mem _ hz))
   have h2:=h y (List.mem_cons_self ..)
   rw [List.flatMap_cons,zOI,List.length_cons]
   have:((ys.length+1:Nat) : Int)*C=(ys.length:Int)*C+C:=by rw [Int.natCast_add,Int.add_mul];simp
   omega
theorem zGN {R:List Issue} {d l:Int} {x:Issue} (h:zDB R d l=some x) : x∈R∧x.d=d∧x.l=l:=by
 unfold zDB at h
 refine ⟨List.mem_of_find?_eq_some h,?_⟩
 have:=List.find?_some h
 simpa [zEZ] using this
theorem zPV {R:List Issue} {lt:Int→Int} (hR:∀ x∈R,zHI x) (n:Int) : ∀ (f:Nat) (e:Nat) (d m:Int),1≤m→dep R f d < f→dep R f d≤e→0≤tot n (zCS R lt f d m)∧tot n (zCS R lt f d m)≤m*160 ^ e
 | 0,_,d,_,_,h,_=>by simp [dep] at h
 | f+1,e,d,m,hm,h,he=>by
   have hpow:∀ k:Nat,(1:Int)≤160 ^ k:=fun k=>by
    induction k with
    | zero=>simp
    | succ k ih=>rw [Int.pow_succ];omega
   have hmul:∀ k:Nat,m≤m*160 ^ k:=fun k=>by
    have:=Int.mul_le_mul_of_nonneg_left (hpow k) (show (0:Int)≤m by omega)
    omega
   simp only [zCS]
   split
   ·have:=hmul e
    simp [tot]
    omega
   ·rename_i x hx
    obtain ⟨hxR,hxd,_⟩:=zGN hx
    obtain ⟨hH,hItems,_⟩:=hR x hxR
    have hp:=dep_pos hxR f
    rw [hxd] at hp
    obtain ⟨e',rfl⟩ : ∃ e',e=e'+1:=⟨e - 1,by omega⟩
    rw [zOI]
    by_cases hk:x.k=1
    ·rw [if_pos hk]
     have hl:(x.items.length:Int)≤8:=(hH.2.2.2.1 hk).1.2
     have h2:=tot_flat n (fun y:Item=>zCS R lt f y.d (m*y.c)) (m*20*160 ^ e') x.items (fun y hy=>by
      obtain ⟨j,hj,hyj⟩:=List.getElem_of_mem hy
      have hI:=(hItems j hj hj).2.1
      rw [hyj] at hI
      have hc:=zJJ hxR hy f
      rw [hxd] at hc
      have h20:m*y.c≤m*20:=Int.mul_le_mul_of_nonneg_left hI.2 (by omega)
      have h1:1≤m*y.c:=by
       have:=Int.mul_le_mul_of_nonneg_left hI.1 (show (0:Int)≤m by omega)
       omega
      have:=zPV (lt:=lt) hR n f e' y.d (m*y.c) h1 (by omega) (by omega)
      refine ⟨this.1,Int.le_trans this.2 (Int.mul_le_mul_of_nonneg_right h20 (by have:=hpow e';omega))⟩)
     have hC:0≤m*20*160 ^ e':=Int.mul_nonneg (by omega) (by have:=hpow e';omega)
     have h3:=Int.mul_le_mul_of_nonneg_right hl hC
     have h4:8*(m*20*160 ^ e')=m*160 ^ (e'+1):=by rw [Int.pow_succ];generalize (160:Int) ^ e'=q;rw [Int.mul_assoc m,Int.mul_left_comm 8 m,show (8:Int)*(20*q)=q*160 by omega]
     simp only [tot]
     omega
    ·rw [if_neg hk]
     have hk3:1 < x.k:=by have:=hH.2.2.1.1;omega
     have hl0:x.items=[]:=List.eq_nil_of_length_eq_zero (hH.2.2.2.2 hk3).2
     rw [hl0]
     have:=hmul (e'+1)
     simp only [List.flatMap_nil,tot]
     split <;> omega
def zEJ (R:List Issue) (lt:Int→Int) (d n:Int) : Int:=tot n (zCS R lt ((nums R).length+1) d 1)
theorem cnt_bd {R:List Issue} (h:zAC R=0) (lt:Int→Int) {d:Int} (hd:d∈nums R) (n:Int) : 0≤zEJ R lt d n∧zEJ R lt d n≤16777216000000:=by
 unfold zAC at h
 split at h
 ·rename_i hL
  split at h
  ·cases h
  ·rename_i h1
   split at h
   ·cases h
   ·rename_i h2
    have hd1:dep R ((nums R).length+1) d≤(nums R).length:=Int.not_lt.1 fun hh=>h1 ⟨d,hd,hh⟩
    have hd2:dep R ((nums R).length+1) d≤6:=Int.not_lt.1 fun hh=>h2 ⟨d,hd,hh⟩
    have:=zPV (lt:=lt) (fun x hx=>by
     obtain ⟨k,hk,rfl⟩:=List.getElem_of_mem hx
     exact (hL.2.1 k hk).1 hk) n ((nums R).length+1) 6 d 1 (by omega) (by omega) (by omega)
    unfold zEJ
    have h6:(1:Int)*160 ^ 6=16777216000000:=by decide
    omega
 ·cases h
end Go.Proofs.YtpolpdegpbahiaaGreatDoor
namespace Go.Proofs.YtpolpdegpbahiaaGreatDoor
open Tryz
section
open Go.RowKit
def insS (rs:List Report) (r:Report) : List Report:=rs.takeWhile (fun x=>decide (x.num≤r.num))++r :: rs.dropWhile (fun x=>decide (x.num≤r.num))
def Rise (rs:List Report) : Prop:=∀ i,(h:i+1 < rs.length)→rs[i].num < rs[i+1].num
theorem zHR {w0 w:World} {g a:Nat} {u:Value} (h:w0.grownBy w (some g)) : w0.grownBy (w.setCell ⟨g,a,none⟩ u) (some g) :=
 ⟨Eq.trans rfl h.os,Eq.trans rfl h.tape,Eq.trans rfl h.output,by simpa using h.size,fun k hk hne=>by
  have hg:k≠g:=fun e=>hne (by rw [e])
  rw [Below.heap_setCell _ ⟨g,a,none⟩ u k hg]
  exact h.block k hk hne⟩
end
section
open Go.RowKit
theorem contr_part {R:List Issue} {lt:Int→Int} {f:Nat} {d m:Int} {x:Issue} (hx:zDB R d (lt d)=some x) (hk:x.k≠1) (hi:x.items=[]) : zCS R lt (f+1) d m=[(d,m)]:=by
 simp only [zCS,hx,if_neg hk,hi,List.flatMap_nil,List.append_nil]
theorem contr_asm {R:List Issue} {lt:Int→Int} {f:Nat} {d m:Int} {x:Issue} (hx:zDB R d (lt d)=some x) (hk:x.k=1) : zCS R lt (f+1) d m=x.items.flatMap (fun y=>zCS R lt f y.d (m*y.c)):=by
 simp only [zCS,hx,if_pos hk,List.nil_append]
def zCH (R:List Issue) (lt:Int→Int) (f:Nat) (m:Int) (x:Issue) (j:Nat) (n:Int) : Int:=tot n ((x.items.take j).flatMap (fun y=>zCS R lt f y.d (m*y.c)))
theorem zHE (R:List Issue) (lt:Int→Int) (f:Nat) (m:Int) (x:Issue) (n:Int) : zCH R lt f m x 0 n=0:=by simp [zCH,tot]
theorem zJV (R:List Issue) (lt:Int→Int) (f:Nat) (m:Int) (x:Issue) (j:Nat) (hj:j < x.items.length) (n:Int) : zCH R lt f m x (j+1) n=zCH R lt f m x j n+tot n (zCS R lt f x.items[j].d (m*x.items[j].c)):=by
 unfold zCH
 rw [List.take_succ_eq_append_getElem hj,List.flatMap_append,zOI]
 simp
theorem zIO (R:List Issue) (lt:Int→Int) (f:Nat) (m:Int) (x:Issue) (n:Int) : zCH R lt f m x x.items.length n=tot n (x.items.flatMap (fun y=>zCS R lt f y.d (m*y.c))):=by
 unfold zCH
 rw [List.take_length]
theorem zHB {R:List Issue} {lt:Int→Int} {f:Nat} {m:Int} {x:Issue} (h:∀ y∈x.items,∀ n,0≤tot n (zCS R lt f y.d (m*y.c))) (n:Int) (i j:Nat) (hij:i≤j) (hj:j≤x.items.length) : zCH R lt f m x i n≤zCH R lt f m x j n:=by
 induction j with
 | zero =>
   obtain rfl:i=0:=by omega
   exact Int.le_refl _
 | succ j ih =>
   by_cases e:i=j+1
   ·subst e;exact Int.le_refl _
   ·have h1:=ih (by omega) (by omega)
    rw [zJV R lt f m x j (by omega)]
    have:=h _ (List.getElem_mem (show j < x.items.length by omega)) n
    omega
theorem parts02 (R:List Issue) (lt:Int→Int) (hL:zEM R) (hall:∀ d∈nums R,∃ x,zDB R d (lt d)=some x) (w0:World) (vr vl:Value) (hr:Sl zAU 5 w0 vr R) (hl:Sl zAJ 1 w0 vl ((nums R).map lt)) (gc cap N:Nat) (hN:(nums R).length=N) :
  ∀ (f e:Nat) (w:World) (d m:Int) (g:Int→Int),Below w0.heap.size w0 w→d∈nums R→dep R f d < f→dep R f d≤e→1≤m→m*160 ^ e≤16777216000000 →
   (∀ n,0≤g n∧g n+tot n (zCS R lt f d m)≤4611686018427387904)→w.ownsRow w0.heap.size 3 1 (.slice (some ⟨gc,0,none⟩) N cap) N (row R g) →
   Calls prog 165 #[.agg #[vr],vl,.int .i64 d,.int .i64 m,.slice (some ⟨gc,0,none⟩) N cap] w fun e' w' =>
    e' = .returned (.tuple #[])∧w'.ownsRow w0.heap.size 3 1 (.slice (some ⟨gc,0,none⟩) N cap) N (row R (fun n=>g n+tot n (zCS R lt f d m)))∧Below w0.heap.size w0 w'∧w.grownBy w' (some gc):=by
 obtain ⟨ar,capr,rfl,hmr⟩:=zD hr
 obtain ⟨al,capl,rfl,hml⟩:=zD hl
 simp only [List.length_map] at hl hml ⊢
 intro f
 induction f with
 | zero =>
   intro e w d m g _ _ h
   simp [dep] at h
 | succ f ih =>
   intro e w d m g hb0 hd hdep hde hm hme hg hown
   obtain ⟨x,hx⟩:=hall d hd
   obtain ⟨hxR,hxd,hxl⟩:=zGN hx
   have hR60:R.length≤60:=by have:=hL.1.2;omega
   have hok:zHI x:=by
    obtain ⟨k,hk,rfl⟩:=List.getElem_of_mem hxR
    exact (hL.2.1 k hk).1 hk
   obtain ⟨hb1,B1⟩:=zAZ w #[.slice ar R.length capr] 24
   have c0:=B1 0 (.slice ar R.length capr) rfl
   clear B1
   have HN:=zF hN
   have HXD:=zF (And.intro hxd hxl)
   clear hN hxd hxl
   have hbw1:=zA hb0 hb1
   have HOWN:=zF (zAA hb1 hown)
   have C0:=zF c0
   have HX:=zF hx
   have HB0:=zF hb0
   have HG:=zF hg
   have HDEP:=zF (And.intro hdep (And.intro hde hme))
   have HR:=zF (And.intro hr hl)
   have HD:=zF hd
   have HOK:=zF hok
   have hwc:w.heap.size < (w.alloc (.cells #[.slice ar R.length capr] 24)).heap.size:=by simp
   have hgcw:w0.heap.size≤gc∧gc < w.heap.size:=hown.lt gc rfl
   have HGC:=zF hgcw
   clear hx hb0 hg hdep hde hme hr hl hok hown hd
   unfold zJ at c0
   go_enter func165,ntmps165
   go_wp2_with fail
   clear c0
   generalize w.alloc _=w1 at *
   refine (taken02 w0 _ _ _ R lt d x HR.out.1 hbw1 (zI zN hbw1 HR.out.2) (by omega) HD.out HX.out).mono ?_
   rintro ee w2 ⟨vi,vd,rfl,hI,hb2⟩
   obtain ⟨ai,capi,rfl,_⟩:=zD hI.items
   obtain ⟨ad,capd,rfl,_⟩:=zD hI.dims
   have hbw2:=zA hbw1 hb2
   have HOWN:=zF (zAA hb2 HOWN.out)
   have C0:=zF (zC hb2 C0.out)
   have HI:=zF hI
   clear hI
   have hcl:=zAF C0.out
   have hb12:=zF (zA hb1 hb2)
   clear hb1 hb2 hbw1 hwc
   by_cases hk:1 < x.k
   ·have hi0:Hid (x.items=[]):=List.eq_nil_of_length_eq_zero (HOK.out.1.2.2.2.2 hk).2
    have hcon:Hid (zCS R lt (f+1) d m=[(d,m)]):=contr_part HX.out (by omega) hi0.out
    have c0:=C0.out
    unfold zJ at c0
    go_wp2_with fail
    clear c0
    have hb3:=zB w2 (.cells #[.int .i64 x.d,.int .i64 x.l,.int .u8 x.k,.slice ai x.items.length capi,.slice ad x.dims.length capd] 107)
    generalize w2.alloc _=w3 at *
    refine (zFK _ _ R (zI zP (zA hbw2 hb3) HR.out.1) (by omega)).mono ?_
    rintro ee w4 ⟨vn,rfl,hvn,hb4⟩
    have hb24:=zA hb3 hb4
    clear hb3 hb4
    go_wp2_with fail
    refine (index02_at _ _ (nums R) d hvn HD.out).mono ?_
    rintro ee w5 ⟨rfl,hb5⟩
    have hb25:=zA hb24 hb5
    clear hb24 hb5 hvn
    have hown:=zAA hb25 HOWN.out
    have hix:(nums R).idxOf d < N:=by rw [← HN.out];exact List.idxOf_lt_length_of_mem HD.out
    have q0:=hown.cells (g:=gc) rfl ((nums R).idxOf d) _ (row_at R g d HD.out)
    rw [zBP] at q0
    have f0:=zFE hown ((nums R).idxOf d)
    have hsum:IntKind.i64.wrap (g d+m)=g d+m:=IntWalk.i64_in _ (by
     have h1:=HG.out d
     rw [hcon.out] at h1
     simp [tot] at h1
     omega)
    have hset:Hid ((row R g).set ((nums R).idxOf d) (.int .i64 (g d+m))=row R (fun n=>g n+tot n (zCS R lt (f+1) d m))):=row_set R g _ d HD.out (zNN R (fun j hj=>(hL.2.1 j hj).2)) _ (fun n=>by
     rw [hcon.out]
     by_cases e:n=d
     ·subst e;simp [tot]
     ·simp [tot,e,Ne.symm e])
    have hst:=(hown.stored ((nums R).idxOf d) (.int .i64 (g d+m))).1
    rw [hset.out] at hst
    have HST:=zF hst
    have hgl:gc < w5.heap.size:=(hown.lt gc rfl).2
    clear hst hown
    generalize (nums R).idxOf d=ix at *
    have hixi:(ix:Int) < N:=by omega
    have hbw5:=zA hbw2 hb25
    have hgr:Hid (w.grownBy w5 (some gc)):=⟨(zA hb12.out hb25).os,(zA hb12.out hb25).tape,(zA hb12.out hb25).output,(zA hb12.out hb25).size,fun k hk _=>(zA hb12.out hb25).block k hk⟩
    go_wp2
    refine bodyPost_ret (v:=.tuple #[]) (by simp [results,results165,go_sem]) rfl ?_
    exact ⟨rfl,HST.out,zH HGC.out.1 hbw5,zHR hgr.out⟩
   ·have hk1:x.k=1:=by have:=HOK.out.1.2.2.1.1;omega
    have hcon:Hid (zCS R lt (f+1) d m=x.items.flatMap (fun y=>zCS R lt f y.d (m*y.c))):=contr_asm HX.out hk1
    have hItems:=zF HOK.out.2.1
    have c0:=C0.out
    unfold zJ at c0
    clear hk1
    go_wp2
    obtain ⟨hb3,B3⟩:=zAZ w2 #[.int .i64 x.d,.int .i64 x.l,.int .u8 x.k,.slice ai x.items.length capi,.slice ad x.dims.length capd] 107
    have D3:=zF (B3 3 (.slice ai x.items.length capi) rfl)
    have HOWN:=zF (zAA hb3 HOWN.out)
    have C3:=zF (zC hb3 C0.out)
    have hb13:=zF (zA hb12.out hb3)
    have hbw3:=zF (zA hbw2 hb3)
    have hg2:gc < w2.heap.size:=by have:=HGC.out.2;have:=hb12.out.size;omega
    clear B3 hb3 c0
    generalize w2.alloc _=w3 at *
    go_loopw [11] (fun i wz=>∃ j:Nat,i = .int .i64 j∧j≤x.items.length∧wz.ownsRow w0.heap.size 3 1 (.slice (some ⟨gc,0,none⟩) N cap) N (row R (fun n=>g n+zCH R lt f m x j n))∧Below w0.heap.size w0 wz∧w3.grownBy wz (some gc)) (fun i _=>x.items.length - (intOf i).toNat)
    case atStart=>exact ⟨0,rfl,by omega,by simp only [zHE,Int.add_zero];exact HOWN.out,hbw3.out,zAX _ _ _ rfl rfl rfl rfl⟩
    case round =>
     obtain ⟨j,rfl,hj,hown,hbz,hgz⟩:=hrel
     have HOWN:=zF hown
     have HGZ:=zF hgz
     have HBZ:=zF hbz
     clear hown hgz hbz
     have c0:=zMN HGZ.out (show w.heap.size≠gc by have:=HGC.out.2;omega) C3.out
     have d3:=zMN HGZ.out (show w2.heap.size≠gc by omega) D3.out
     unfold zJ at c0 d3
     by_cases hlt:j < x.items.length
     case pos =>
      obtain ⟨bi,oi,rfl,⟨p0,p1⟩,hn0,hn1⟩:=(zZ HI.out.items).2 j hlt
      have p0:=zC HBZ.out p0
      have p1:=zC HBZ.out p1
      have hyx:x.items[j]∈x.items:=List.getElem_mem hlt
      have hIt:=hItems.out j hlt hlt
      have hdc:=zJJ hxR hyx f
      rw [HXD.out.1] at hdc
      have hdy:x.items[j].d∈nums R:=by
       obtain ⟨k,hk2,hkx⟩:=List.getElem_of_mem hxR
       have:=hL.2.2.1 k hk2 hk2 j (by rw [hkx];exact hlt)
       simp only [hkx] at this
       exact this
      have hstep:=zF (fun n=>zJV R lt f m x j hlt n)
      have hnn:∀ y∈x.items,∀ n,0≤tot n (zCS R lt f y.d (m*y.c)):=fun y hy n=>by
       obtain ⟨i,hi,rfl⟩:=List.getElem_of_mem hy
       have h1:=(hItems.out i hi hi).2.1.1
       have h2:=zJJ hxR hy f
       rw [HXD.out.1] at h2
       have h3:=Int.mul_le_mul_of_nonneg_left h1 (show (0:Int)≤m by omega)
       exact (zPV (lt:=lt) (fun z hz=>by
        obtain ⟨k,hk9,rfl⟩:=List.getElem_of_mem hz
        exact (hL.2.1 k hk9).1 hk9) n f f _ _ (by omega) (by have:=HDEP.out.1;omega) (zJP R f _).2).1
      have hbnd:Hid (∀ n,0≤g n+zCH R lt f m x j n∧(g n+zCH R lt f m x j n)+tot n (zCS R lt f x.items[j].d (m*x.items[j].c))≤4611686018427387904):=fun n=>by
       have h1:=HG.out n
       rw [hcon.out,← zIO] at h1
       have h2:=zHB hnn n 0 j (by omega) (by omega)
       have h3:=zHB hnn n (j+1) x.items.length (by omega) (Nat.le_refl _)
       rw [zHE] at h2
       rw [hstep.out n] at h3
       omega
      clear hnn
      generalize x.items[j]=y at *
      unfold zJ at p0 p1
      obtain ⟨hdep,hde,hme⟩:=HDEP.out
      obtain ⟨e',rfl⟩ : ∃ e',e=e'+1:=⟨e - 1,by have:=(zJP R f y.d).1;omega⟩
      have hpow:(1:Int)≤160 ^ e':=by
       have:(0:Int) < 160 ^ e':=Int.pow_pos (by decide)
       omega
      have hm1:m*160 ^ (e'+1)=m*160 ^ e'*160:=by rw [Int.pow_succ,Int.mul_assoc]
      have hm2:m≤m*160 ^ e':=by
       have:=Int.mul_le_mul_of_nonneg_left hpow (show (0:Int)≤m by omega)
       omega
      have hc1:m*y.c≤m*20:=Int.mul_le_mul_of_nonneg_left hIt.2.1.2 (by omega)
      have hc0:1≤m*y.c:=by
       have:=Int.mul_le_mul_of_nonneg_left hIt.2.1.1 (show (0:Int)≤m by omega)
       omega
      have hc2:m*y.c*160 ^ e'≤16777216000000:=by
       have h1:=Int.mul_le_mul_of_nonneg_right hc1 (show (0:Int)≤160 ^ e' by omega)
       have h2:m*20*160 ^ e'=m*160 ^ e'*20:=by rw [Int.mul_assoc,Int.mul_comm 20,← Int.mul_assoc]
       omega
      have hwm:IntKind.i64.wrap (m*y.c)=m*y.c:=IntWalk.i64_in _ (by omega)
      have HC:=zF (And.intro hc0 (And.intro hc2 (And.intro hdc hdy)))
      clear hm1 hm2 hc0 hc1 hc2 hpow hdep hde hme hIt hdc hdy
      go_wp2
      go_still_tail 17,(by kernel_rfl)
      go_wp2_with fail
      refine (ih e' wr.drew y.d (m*y.c) (fun n=>g n+zCH R lt f m x j n) (zA HBZ.out (zR wr)) HC.out.2.2.2 (by have:=HC.out.2.2.1;have:=HDEP.out.1;omega) (by have:=HC.out.2.2.1;have:=HDEP.out.2.1;omega) HC.out.1 HC.out.2.1 hbnd.out (zAA (zR wr) HOWN.out)).mono ?_
      rintro e9 w9 ⟨rfl,hown9,hb9,hg9⟩
      have HO9:=zF hown9
      have HG9:=zF (zAH HGZ.out (zAH (zAX wr wr.drew (some gc) rfl rfl rfl rfl) hg9))
      have HB9:=zF hb9
      clear hown9 hg9 hb9
      go_wp2
      go_roundw
      case rel =>
       refine ⟨j+1,by go_num,by omega,?_,HB9.out,HG9.out⟩
       have e1:(fun n=>g n+zCH R lt f m x (j+1) n)=fun n=>g n+zCH R lt f m x j n+tot n (zCS R lt f y.d (m*y.c)):=funext fun n=>by rw [hstep.out n];omega
       rw [e1]
       exact HO9.out
      case measure=>simp [intOf];omega
     case neg =>
      obtain rfl:j=x.items.length:=by omega
      have e1:(fun n=>g n+zCH R lt f m x x.items.length n)=fun n=>g n+tot n (zCS R lt (f+1) d m):=funext fun n=>by rw [zIO,hcon.out]
      have h1:=HOWN.out
      rw [e1] at h1
      have H1:=zF h1
      have HGW:Hid (w.grownBy wr (some gc)):=zAH ⟨hb13.out.os,hb13.out.tape,hb13.out.output,hb13.out.size,fun k hk _=>hb13.out.block k hk⟩ HGZ.out
      clear h1 e1
      go_wp2
      refine bodyPost_end (v:=.tuple #[]) (by simp [results,results165,go_sem]) rfl ?_
      exact ⟨rfl,H1.out,HBZ.out,HGW.out⟩
end
end Go.Proofs.YtpolpdegpbahiaaGreatDoor
namespace Go.Proofs.YtpolpdegpbahiaaGreatDoor
open Go.RowKit
theorem wf_i64 {x:Int} (h:I64 x) : (Lit.int .i64 x).wf=true:=by
 obtain ⟨h1,h2⟩:=h
 show (decide (_≤x) && decide (x≤_))=true
 rw [Bool.and_eq_true,decide_eq_true_iff,decide_eq_true_iff]
 exact ⟨h1,h2⟩
theorem zJN {x:Int} (h:I64 x) : keyOf Tryz.prog 3 (.int .i64 x)=some (.int .i64 x):=Maps.keyOf_int_mk Tryz.underlying3 (wf_i64 h)
theorem zDG:Maps.Keyed Tryz.prog 3:=Maps.int_keyed Tryz.underlying3
def MapB (w:World) (b n:Nat) (L:List Int) : Prop :=
 ∃ D:DataW Unit,w.ownsMap Tryz.prog 3 (plainElem Tryz.prog 4) b n D∧L.Nodup∧Maps.size D=L.length ∧
  ∀ x,I64 x→Maps.has D (.int .i64 x)=decide (x∈L)∧D.atKey (.int .i64 x) (.lit (.bool false)) = .lit (.bool (decide (x∈L)))
def MapI (w:World) (b n:Nat) (f:Int→Option Int) : Prop :=
 ∃ D:DataW Unit,w.ownsMap Tryz.prog 3 (plainElem Tryz.prog 3) b n D ∧
  ∀ x,I64 x→Maps.has D (.int .i64 x)=(f x).isSome∧∀ z,D.atKey (.int .i64 x) z=match f x with | some c=>.lit (.int .i64 c) | none=>z
theorem zPM {H:Type} {P:Program} {k:TypeId} {R:Value→Option (DataW H×List MemPlace)} {w w':World} {b n:Nat} {D:DataW H} (h:w.ownsMap P k R b n D) (e:w'.heap[b]? = w.heap[b]?) : w'.ownsMap P k R b n D:=by
 obtain ⟨es,clock,hb,F,hs,hD⟩:=h
 exact ⟨es,clock,e.trans hb,F,hs,hD⟩
theorem MapB.same {w w':World} {b n:Nat} {L:List Int} (h:MapB w b n L) (e:w'.heap[b]? = w.heap[b]?) : MapB w' b n L:=by
 obtain ⟨D,h1,h2⟩:=h
 exact ⟨D,zPM h1 e,h2⟩
theorem MapI.same {w w':World} {b n:Nat} {f:Int→Option Int} (h:MapI w b n f) (e:w'.heap[b]? = w.heap[b]?) : MapI w' b n f:=by
 obtain ⟨D,h1,h2⟩:=h
 exact ⟨D,zPM h1 e,h2⟩
theorem MapB.lt {w:World} {b n:Nat} {L:List Int} (h:MapB w b n L) : b < w.heap.size:=by obtain ⟨D,h1,h2⟩:=h;exact h1.lt
theorem MapI.lt {w:World} {b n:Nat} {f:Int→Option Int} (h:MapI w b n f) : b < w.heap.size:=by obtain ⟨D,h1,h2⟩:=h;exact h1.lt
theorem mapB_made (w:World) : MapB (w.alloc (.map #[] 0)) w.heap.size 0 [] :=
 ⟨.map [],World.ownsMap_made w _ _ _,List.nodup_nil,rfl,fun x _=>⟨by simp [Maps.has],by simp [DataW.atKey]⟩⟩
theorem mapI_made (w:World) : MapI (w.alloc (.map #[] 0)) w.heap.size 0 (fun _=>none) :=
 ⟨.map [],World.ownsMap_made w _ _ _,fun x _=>⟨by simp [Maps.has],fun z=>by simp [DataW.atKey]⟩⟩
theorem zMD {v:Value} {z:DataW Unit×List MemPlace} (h:plainElem Tryz.prog 4 v=some z) : ∃ x,v = .bool x∧z=(.lit (.bool x),[]):=by
 unfold plainElem at h
 have hu:=Tryz.underlying4
 generalize Tryz.prog.underlying 4=u at hu h
 subst hu
 cases v <;> simp at h
 subst h
 exact ⟨_,rfl,rfl⟩
theorem mapB_look {w:World} {b n:Nat} {L:List Int} (h:MapB w b n L) {x:Int} (hx:I64 x) : (Instr.lookup 275 (.map (some b)) (.int .i64 x) false).run Tryz.prog w = .ok (.bool (decide (x∈L))) w:=by
 obtain ⟨D,ho,-,-,hD⟩:=h
 obtain ⟨v,ps,hr,hv⟩:=ho.lookup zDG Tryz.underlying275 (Tryz.zeroValue4 w) (plainElem_bool Tryz.underlying4 false) (zJN hx)
 obtain ⟨y,rfl,e⟩:=zMD hv
 rw [(hD x hx).2] at e
 simp at e
 rw [hr,← e.1]
theorem mapI_look {w:World} {b n:Nat} {f:Int→Option Int} (h:MapI w b n f) {x:Int} (hx:I64 x) : (Instr.lookup 246 (.map (some b)) (.int .i64 x) false).run Tryz.prog w = .ok (.int .i64 ((f x).getD 0)) w:=by
 obtain ⟨D,ho,hD⟩:=h
 obtain ⟨c,hr,hc,-⟩:=ho.lookup_int zDG Tryz.underlying246 Tryz.underlying3 (Tryz.zeroValue3 w) (zJN hx)
 rw [(hD x hx).2] at hc
 rw [hr]
 cases hf:f x with
 | none=>rw [hf] at hc;simp at hc;simp [hc]
 | some y=>rw [hf] at hc;simp at hc;simp [hc]
theorem mapB_len {w:World} {b n:Nat} {L:List Int} (h:MapB w b n L) : ∀ ty,(Builtin.len_ #[275] ty #[.map (some b)]).run Tryz.prog w = .ok (.int .i64 L.length) w:=by
 obtain ⟨D,ho,-,hs,hD⟩:=h
 intro ty
 rw [ho.len Tryz.underlying275,hs]
theorem zFY (x:Int) : WideAt.IsKeyLit (.int .i64 x):=by simp [WideAt.IsKeyLit]
theorem zMP {x y:Int} (h:x≠y) : (Lit.int .i64 x) ≠ .int .i64 y:=by intro e;cases e;exact h rfl
theorem mapB_put {w:World} {b n:Nat} {L:List Int} (h:MapB w b n L) {x:Int} (hx:I64 x) (hL:x ∉ L) (hn:n < maxLen) :
  ∃ w',(Instr.mapUpdate 275 (.map (some b)) (.int .i64 x) (.bool true)).run Tryz.prog w = .ok () w'∧MapB w' b (n+1) (L++[x])∧w.grownBy w' (some b):=by
 obtain ⟨D,ho,hd,hs,hD⟩:=h
 obtain ⟨w',hr,ho',hg⟩:=ho.update zDG Tryz.underlying275 hn (zJN hx) (plainElem_bool Tryz.underlying4 true)
 refine ⟨w',hr,⟨_,ho',?_,?_,fun y hy=>?_⟩,hg⟩
 ·rw [List.nodup_append]
  exact ⟨hd,by simp,fun a ha b hb=>by simp at hb;subst hb;intro e;subst e;exact hL ha⟩
 ·rw [Maps.size_put (ho.tidy zDG),(hD x hx).1,hs]
  simp [hL]
 ·by_cases e:y=x
  ·subst e
   exact ⟨by rw [Maps.has_put_same ho.isMap (zFY _)];simp,by rw [Maps.atKey_put_same ho.isMap (zFY _)];simp⟩
  ·exact ⟨by rw [Maps.has_put_other (zMP e),(hD y hy).1];simp [e],by rw [Maps.atKey_put_other (zMP e),(hD y hy).2];simp [e]⟩
theorem mapI_put {w:World} {b n:Nat} {f:Int→Option Int} (h:MapI w b n f) {x c:Int} (hx:I64 x) (hc:I64 c) (hn:n < maxLen) :
  ∃ w',(Instr.mapUpdate 246 (.map (some b)) (.int .i64 x) (.int .i64 c)).run Tryz.prog w = .ok () w'∧MapI w' b (n+1) (fun y=>if y=x then some c else f y)∧w.grownBy w' (some b):=by
 obtain ⟨D,ho,hD⟩:=h
 obtain ⟨w',hr,ho',hg⟩:=ho.update zDG Tryz.underlying246 hn (zJN hx) (plainElem_int Tryz.underlying3 (wf_i64 hc))
 refine ⟨w',hr,⟨_,ho',fun y hy=>?_⟩,hg⟩
 by_cases e:y=x
 ·subst e
  exact ⟨by rw [Maps.has_put_same ho.isMap (zFY _)];simp,fun z=>by rw [Maps.atKey_put_same ho.isMap (zFY _)];simp⟩
 ·exact ⟨by rw [Maps.has_put_other (zMP e),(hD y hy).1];simp [e],fun z=>by rw [Maps.atKey_put_other (zMP e),(hD y hy).2];simp [e]⟩
theorem mapB_del {w:World} {b n:Nat} {L:List Int} (h:MapB w b n L) {x:Int} (hx:I64 x) (hL:x∈L) (ty:TypeId) :
  ∃ w',(Builtin.delete_ #[275,3] ty #[.map (some b),.int .i64 x]).run Tryz.prog w = .ok (.tuple #[]) w'∧MapB w' b n (L.erase x)∧w.grownBy w' (some b):=by
 obtain ⟨D,ho,hd,hs,hD⟩:=h
 obtain ⟨w',hr,ho',hg⟩:=ho.drop zDG Tryz.underlying275 (zJN hx) ty
 refine ⟨w',hr,⟨_,ho',hd.erase _,?_,fun y hy=>?_⟩,hg.grown⟩
 ·have:=Maps.size_del (ho.tidy zDG) (k:=.int .i64 x)
  rw [(hD x hx).1,hs] at this
  simp [hL] at this
  rw [List.length_erase_of_mem hL]
  omega
 ·by_cases e:y=x
  ·subst e
   have hn:¬ y∈L.erase y:=fun h=>(hd.mem_erase_iff.1 h).1 rfl
   exact ⟨by rw [Maps.has_del_same];simp [hn],by rw [Maps.atKey_del_same];simp [hn]⟩
  ·have hm:y∈L.erase x↔y∈L:=by rw [hd.mem_erase_iff];simp [e]
   exact ⟨by rw [Maps.has_del_other (zMP e),(hD y hy).1];simp [hm],by rw [Maps.atKey_del_other (zMP e),(hD y hy).2];simp [hm]⟩
end Go.Proofs.YtpolpdegpbahiaaGreatDoor
namespace Go.Proofs.YtpolpdegpbahiaaGreatDoor
open Tryz
section
def zBJ (xs:List Issue) : List Int:=xs.flatMap (fun x=>x.items.map (·.d))
def zFV (f:Int→Option Int) (l:List Int) : Int:=l.foldl (fun m y=>max m ((f y).getD 0)) 0
def zDE (L:List Int) (n:Int) (l:List Int) : Bool:=decide (n∈L) && l.all (fun y=>!decide (y∈L))
def zER (R:List Issue) (s:List Int×(Int→Option Int)) (n:Int) : List Int×(Int→Option Int) :=
 if zDE s.1 n (zBJ (zAM R n))=true then (s.1.erase n,fun y=>if y=n then some (zFV s.2 (zBJ (zAM R n))+1) else s.2 y) else s
def stD (R:List Issue) (D:List Int) : Nat→List Int×(Int→Option Int)
 | 0=>(D,fun _=>none)
 | r+1=>D.foldl (zER R) (stD R D r)
theorem mostOf_snoc (f:Int→Option Int) (l:List Int) (y:Int) : zFV f (l++[y])=max (zFV f l) ((f y).getD 0):=by simp [zFV,List.foldl_append]
theorem readyOf_snoc (L:List Int) (n:Int) (l:List Int) (y:Int) : zDE L n (l++[y])=(zDE L n l && !decide (y∈L)):=by
 unfold zDE
 rw [List.all_append]
 simp [Bool.and_assoc]
theorem mostOf_bd (f:Int→Option Int) (B:Int) (hB:0≤B) (hf:∀ y c,f y=some c→0≤c∧c≤B) (l:List Int) : 0≤zFV f l∧zFV f l≤B:=by
 unfold zFV
 have key:∀ (l:List Int) (a:Int),0≤a→a≤B→0≤l.foldl (fun m y=>max m ((f y).getD 0)) a∧l.foldl (fun m y=>max m ((f y).getD 0)) a≤B:=by
  intro l
  induction l with
  | nil=>intro a h0 h1;exact ⟨h0,h1⟩
  | cons y l ih =>
    intro a h0 h1
    rw [List.foldl_cons]
    have:0≤(f y).getD 0∧(f y).getD 0≤B:=by
     cases h:f y with
     | none=>simp;omega
     | some c=>simpa using hf y c h
    exact ih _ (by omega) (by omega)
 exact key l 0 (Int.le_refl _) hB
structure Sane (D:List Int) (s:List Int×(Int→Option Int)) : Prop where
 nodup:s.1.Nodup
 sub:∀ y∈s.1,y∈D
 len:s.1.length≤D.length
 bd:∀ y c,s.2 y=some c→1≤c∧c≤(D.length:Int) - s.1.length
theorem sane_start (D:List Int) (hD:D.Nodup) : Sane D (D,fun _=>none):=⟨hD,fun _ h=>h,Nat.le_refl _,fun _ _ h=>by cases h⟩
theorem sane_step (R:List Issue) (D:List Int) (s:List Int×(Int→Option Int)) (n:Int) (h:Sane D s) : Sane D (zER R s n):=by
 unfold zER
 split
 case isFalse=>exact h
 case isTrue hr =>
  have hn:n∈s.1:=by unfold zDE at hr;rw [Bool.and_eq_true] at hr;exact of_decide_eq_true hr.1
  have hl:=List.length_erase_of_mem hn
  have hpos:0 < s.1.length:=List.length_pos_of_mem hn
  have:=h.len
  refine ⟨h.nodup.erase _,fun y hy=>h.sub y (List.mem_of_mem_erase hy),(show (s.1.erase n).length≤D.length by omega),fun y c hy=>?_⟩
  simp only at hy ⊢
  split at hy
  ·cases hy
   have:=mostOf_bd s.2 ((D.length:Int) - s.1.length) (by omega) (fun y c hc=>by have:=h.bd y c hc;omega) (zBJ (zAM R n))
   omega
  ·have:=h.bd y c hy
   omega
theorem sane_fold (R:List Issue) (D l:List Int) (s:List Int×(Int→Option Int)) (h:Sane D s) : Sane D (l.foldl (zER R) s):=by
 induction l generalizing s with
 | nil=>exact h
 | cons n l ih=>exact ih _ (sane_step R D s n h)
theorem sane_st (R:List Issue) (D:List Int) (hD:D.Nodup) (r:Nat) : Sane D (stD R D r):=by
 induction r with
 | zero=>exact sane_start D hD
 | succ r ih=>exact sane_fold R D D _ ih
def stI (R:List Issue) (D:List Int) (r i:Nat) : List Int×(Int→Option Int):=(D.take i).foldl (zER R) (stD R D r)
theorem stI_all (R:List Issue) (D:List Int) (r i:Nat) (h:D.length≤i) : stI R D r i=stD R D (r+1):=by unfold stI;rw [List.take_of_length_le h];rfl
theorem stI_succ (R:List Issue) (D:List Int) (r i:Nat) (h:i < D.length) : stI R D r (i+1)=zER R (stI R D r i) D[i]:=by
 unfold stI
 rw [List.take_succ_eq_append_getElem h,List.foldl_append]
 rfl
theorem sane_stI (R:List Issue) (D:List Int) (hD:D.Nodup) (r i:Nat) : Sane D (stI R D r i):=sane_fold R D _ _ (sane_st R D hD r)
end
section
open Go.RowKit Go.Shelf
attribute [local go_sem] zAN Oper.grows Oper.growUpon Oper.semAt_some
structure St (w0 wr:World) (k:Nat) (s:List Int×(Int→Option Int)) : Prop where
 below:Below w0.heap.size w0 wr
 dbox:Boxed wr (w0.heap.size+1) 246 (.map (some w0.heap.size))
 lbox:Boxed wr (w0.heap.size+1+1+1) 275 (.map (some (w0.heap.size+1+1)))
 dm:∃ m,m≤k∧MapI wr w0.heap.size m s.2
 lm:∃ m,m≤k∧MapB wr (w0.heap.size+1+1) m s.1
theorem Boxed.same2 {W W':World} {B:Nat} {t:TypeId} {v:Value} (h:Boxed W B t v) (e:W'.heap[B]? = W.heap[B]?) : Boxed W' B t v:=e.trans h
theorem St.same {w0 wr wr':World} {k:Nat} {s:List Int×(Int→Option Int)} (h:St w0 wr k s) (hb:Below w0.heap.size w0 wr') (e:∀ b,b < w0.heap.size+4→wr'.heap[b]? = wr.heap[b]?) : St w0 wr' k s:=by
 obtain ⟨h1,h2,h3,⟨m,hm,h4⟩,⟨m',hm',h5⟩⟩:=h
 exact ⟨hb,Boxed.same2 h2 (e _ (by omega)),Boxed.same2 h3 (e _ (by omega)),⟨m,hm,h4.same (e _ (by omega))⟩,⟨m',hm',h5.same (e _ (by omega))⟩⟩
theorem MapI.alloc {w:World} {b n:Nat} {f:Int→Option Int} (h:MapI w b n f) (o:Obj) : MapI (w.alloc o) b n f:=h.same (Below.block (zB w o) b h.lt)
theorem MapB.alloc {w:World} {b n:Nat} {f:List Int} (h:MapB w b n f) (o:Obj) : MapB (w.alloc o) b n f:=h.same (Below.block (zB w o) b h.lt)
theorem St.lt {w0 wr:World} {k:Nat} {s:List Int×(Int→Option Int)} (h:St w0 wr k s) : w0.heap.size+4≤wr.heap.size:=by have:=h.lbox.lt;omega
theorem St.ext {w0 wr wr':World} {k:Nat} {s:List Int×(Int→Option Int)} (h:St w0 wr k s) (hb:Below wr.heap.size wr wr') : St w0 wr' k s :=
 h.same (zA h.below hb) (fun b hlt=>hb.block b (by have:=h.lt;omega))
theorem St.kept {w0 wr wr':World} {k:Nat} {s:List Int×(Int→Option Int)} {row:Option Nat} (h:St w0 wr k s) (hg:wr.grownBy wr' row) (hr:∀ r,row=some r→w0.heap.size+4≤r) : St w0 wr' k s :=
 h.same (h.below.grown hg h.below.size (fun r e=>by have:=hr r e;omega)) (fun b hlt=>hg.block b (by have:=h.lt;omega) (fun e=>by have:=hr b e.symm;omega))
theorem St.set {w0 wr:World} {k:Nat} {s:List Int×(Int→Option Int)} (h:St w0 wr k s) {g j:Nat} (hg:w0.heap.size+4≤g) (v:Value) : St w0 (wr.setCell ⟨g,j,none⟩ v) k s :=
 h.same (h.below.setCell (p:=⟨g,j,none⟩) (by show w0.heap.size≤g;omega) v) (fun b hlt=>Below.heap_setCell wr ⟨g,j,none⟩ v b (by show b≠g;omega))
def marks (ds:List Nat) : List Deferred:=ds.map (fun d=>{ target:=.collected d,args:=#[] })
def zBW (n:Nat) (w:World) (ds:List Nat) : Prop:=ds.Nodup∧∀ d∈ds,n≤d∧w.heap[d]? = some (.deferred (some []))
theorem zBW.ext {n:Nat} {w w':World} {ds:List Nat} (h:zBW n w ds) (hb:Below w.heap.size w w') : zBW n w' ds :=
 ⟨h.1,fun d hd=>⟨(h.2 d hd).1,(hb.block d (Array.getElem?_eq_some_iff.1 (h.2 d hd).2).1).trans (h.2 d hd).2⟩⟩
theorem zBW.keeps {n:Nat} {w w':World} {ds:List Nat} (h:zBW n w ds) (hk:KeepsFrom n w w') : zBW n w' ds :=
 ⟨h.1,fun d hd=>⟨(h.2 d hd).1,hk.same d _ (h.2 d hd).1 (h.2 d hd).2 rfl⟩⟩
theorem zBW.cons {n:Nat} {w:World} {ds:List Nat} {d:Nat} (h:zBW n w ds) (hn:n≤d) (hd:w.heap[d]? = some (.deferred (some []))) (hf:d ∉ ds) : zBW n w (d :: ds) :=
 ⟨List.nodup_cons.2 ⟨hf,h.1⟩,fun e he=>by
  rcases List.mem_cons.1 he with rfl | h'
  ·exact ⟨hn,hd⟩
  ·exact h.2 e h'⟩
theorem zBW.kept {n:Nat} {w w':World} {ds:List Nat} {row:Option Nat} (h:zBW n w ds) (hg:w.grownBy w' row) (hr:∀ d∈ds,some d≠row) : zBW n w' ds :=
 ⟨h.1,fun d hd=>⟨(h.2 d hd).1,(hg.block d (Array.getElem?_eq_some_iff.1 (h.2 d hd).2).1 (hr d hd)).trans (h.2 d hd).2⟩⟩
theorem Boxed.keptN {W W':World} {row:Option Nat} {B:Nat} {v:Value} {t:TypeId} (h:Boxed W B t v) (hg:W.grownBy W' row) (hr:∀ r,row=some r→∃ o:Obj,W.heap[r]? = some o∧o.isCells=false) : Boxed W' B t v :=
 Lay.keptN h hg hr
theorem zBW.lt {n:Nat} {w:World} {ds:List Nat} (h:zBW n w ds) {d:Nat} (hd:d∈ds) : d < w.heap.size:=(Array.getElem?_eq_some_iff.1 (h.2 d hd).2).1
theorem leaves_marks {F:Fence} {n:Nat} {P:Program} {fn:Func} {tmps:Array Value} {R:Ending→World→Prop} {v:Value} (b:Nat) (Z:World→Prop) (hZ:∀ (W:World) (d:Nat),b≤d→W.heap[d]? = some (.deferred (some []))→Z W→Z (W.putObj d (.deferred none)))
  (hR:∀ W,Z W→(results fn tmps).run P W = .ok v W∧R (.returned v) W) (ds:List Nat) (w:World) (hm:zBW b w ds) (hz:Z w) : LeavesInM F n P fn tmps R (marks ds) .returning w:=by
 induction ds generalizing w with
 | nil =>
   obtain ⟨h1,h2⟩:=hR w hz
   exact ⟨_,h1,h2⟩
 | cons d ds ih =>
   obtain ⟨hd,hk⟩:=hm.2 d (by simp)
   have hn:=(List.nodup_cons.1 hm.1)
   refine ⟨by simp,.inl ⟨d,_,rfl,run_takeDeferred hk,ih _ ⟨hn.2,fun e he=>?_⟩ (hZ w d hd hk hz)⟩⟩
   have:=hm.2 e (by simp [he])
   exact ⟨this.1,(World.putObj_heap_other (fun h=>hn.1 (by first | (rw [h];exact he) | (rw [← h];exact he)))).trans this.2⟩
def nth:List Value→Nat→Value
 | [],_=>undef
 | x :: _,0=>x
 | _ :: l,k+1=>nth l k
def Out (w0:World) (pb:Nat) (R:List Issue) (D:List Int) (a:Act) (wr:World) : Prop :=
 ∃ (u:Nat→Value) (ds:List Nat) (r:Nat),a = { tmps:=#[.pointer (some ⟨pb,0,none⟩),(u 1),(u 2),(u 3),.pointer (some ⟨w0.heap.size+1,0,none⟩),.pointer (some ⟨w0.heap.size+1+1+1,0,none⟩),(u 6),(u 7),(u 8),(u 9),(u 10),(u 11),(u 12),(u 13),(u 14),(u 15),(u 16),(u 17),(u 18),(u 19),(u 20),(u 21),(u 22),(u 23),(u 24),(u 25),(u 26),(u 27),(u 28),(u 29),(u 30),(u 31),(u 32),.int .i64 D.length,.int .i64 r,(u 35),(u 36),(u 37),(u 38),(u 39),(u 40),(u 41),(u 42),(u 43),(u 44),(u 45),(u 46),(u 47),(u 48),(u 49),(u 50),(u 51),(u 52),(u 53),(u 54),(u 55),(u 56),(u 57),(u 58),(u 59),(u 60),(u 61),(u 62),(u 63),(u 64),(u 65),(u 66),(u 67),(u 68),(u 69),(u 70),(u 71),(u 72),(u 73),(u 74),(u 75),(u 76),(u 77),(u 78),(u 79),(u 80),(u 81),(u 82),(u 83),(u 84),(u 85),(u 86)],defers:=marks ds } ∧
  r≤D.length∧St w0 wr (D.length+r*D.length) (stD R D r)∧zBW (w0.heap.size+4) wr ds
theorem Out.of {w0:World} {pb:Nat} {R:List Issue} {D:List Int} {wr:World} (l:List Value) (ds:List Nat) (r:Nat) (hl:l.toArray = #[.pointer (some ⟨pb,0,none⟩),((nth l) 1),((nth l) 2),((nth l) 3),.pointer (some ⟨w0.heap.size+1,0,none⟩),.pointer (some ⟨w0.heap.size+1+1+1,0,none⟩),((nth l) 6),((nth l) 7),((nth l) 8),((nth l) 9),((nth l) 10),((nth l) 11),((nth l) 12),((nth l) 13),((nth l) 14),((nth l) 15),((nth l) 16),((nth l) 17),((nth l) 18),((nth l) 19),((nth l) 20),((nth l) 21),((nth l) 22),((nth l) 23),((nth l) 24),((nth l) 25),((nth l) 26),((nth l) 27),((nth l) 28),((nth l) 29),((nth l) 30),((nth l) 31),((nth l) 32),.int .i64 D.length,.int .i64 r,((nth l) 35),((nth l) 36),((nth l) 37),((nth l) 38),((nth l) 39),((nth l) 40),((nth l) 41),((nth l) 42),((nth l) 43),((nth l) 44),((nth l) 45),((nth l) 46),((nth l) 47),((nth l) 48),((nth l) 49),((nth l) 50),((nth l) 51),((nth l) 52),((nth l) 53),((nth l) 54),((nth l) 55),((nth l) 56),((nth l) 57),((nth l) 58),((nth l) 59),((nth l) 60),((nth l) 61),((nth l) 62),((nth l) 63),((nth l) 64),((nth l) 65),((nth l) 66),((nth l) 67),((nth l) 68),((nth l) 69),((nth l) 70),((nth l) 71),((nth l) 72),((nth l) 73),((nth l) 74),((nth l) 75),((nth l) 76),((nth l) 77),((nth l) 78),((nth l) 79),((nth l) 80),((nth l) 81),((nth l) 82),((nth l) 83),((nth l) 84),((nth l) 85),((nth l) 86)])
  (h1:r≤D.length) (h2:St w0 wr (D.length+r*D.length) (stD R D r)) (h3:zBW (w0.heap.size+4) wr ds) : Out w0 pb R D { tmps:=l.toArray,defers:=marks ds } wr :=
 ⟨nth l,ds,r,by rw [← hl],h1,h2,h3⟩
def Inn (w0:World) (pb:Nat) (R:List Issue) (D:List Int) (ad:Option Addr) (cd r:Nat) (a:Act) (wr:World) : Prop :=
 ∃ (u:Nat→Value) (ds:List Nat) (i:Nat),a = { tmps:=#[.pointer (some ⟨pb,0,none⟩),(u 1),(u 2),(u 3),.pointer (some ⟨w0.heap.size+1,0,none⟩),.pointer (some ⟨w0.heap.size+1+1+1,0,none⟩),(u 6),(u 7),(u 8),(u 9),(u 10),(u 11),(u 12),(u 13),(u 14),(u 15),(u 16),(u 17),(u 18),(u 19),(u 20),(u 21),(u 22),(u 23),(u 24),(u 25),(u 26),(u 27),(u 28),(u 29),(u 30),(u 31),(u 32),.int .i64 D.length,.int .i64 r,(u 35),(u 36),(u 37),(u 38),.slice ad D.length cd,.int .i64 D.length,.int .i64 i,(u 42),(u 43),(u 44),(u 45),(u 46),(u 47),(u 48),(u 49),(u 50),(u 51),(u 52),(u 53),(u 54),(u 55),(u 56),(u 57),(u 58),(u 59),(u 60),(u 61),(u 62),(u 63),(u 64),(u 65),(u 66),(u 67),(u 68),(u 69),(u 70),(u 71),(u 72),(u 73),(u 74),(u 75),(u 76),(u 77),(u 78),(u 79),(u 80),(u 81),(u 82),(u 83),(u 84),(u 85),(u 86)],defers:=marks ds } ∧
  i≤D.length∧St w0 wr (D.length+r*D.length+i) (stI R D r i)∧zBW (w0.heap.size+4) wr ds
theorem Inn.of {w0:World} {pb:Nat} {R:List Issue} {D:List Int} {ad:Option Addr} {cd r:Nat} {wr:World} (l:List Value) (ds:List Nat) (i:Nat) (hl:l.toArray = #[.pointer (some ⟨pb,0,none⟩),((nth l) 1),((nth l) 2),((nth l) 3),.pointer (some ⟨w0.heap.size+1,0,none⟩),.pointer (some ⟨w0.heap.size+1+1+1,0,none⟩),((nth l) 6),((nth l) 7),((nth l) 8),((nth l) 9),((nth l) 10),((nth l) 11),((nth l) 12),((nth l) 13),((nth l) 14),((nth l) 15),((nth l) 16),((nth l) 17),((nth l) 18),((nth l) 19),((nth l) 20),((nth l) 21),((nth l) 22),((nth l) 23),((nth l) 24),((nth l) 25),((nth l) 26),((nth l) 27),((nth l) 28),((nth l) 29),((nth l) 30),((nth l) 31),((nth l) 32),.int .i64 D.length,.int .i64 r,((nth l) 35),((nth l) 36),((nth l) 37),((nth l) 38),.slice ad D.length cd,.int .i64 D.length,.int .i64 i,((nth l) 42),((nth l) 43),((nth l) 44),((nth l) 45),((nth l) 46),((nth l) 47),((nth l) 48),((nth l) 49),((nth l) 50),((nth l) 51),((nth l) 52),((nth l) 53),((nth l) 54),((nth l) 55),((nth l) 56),((nth l) 57),((nth l) 58),((nth l) 59),((nth l) 60),((nth l) 61),((nth l) 62),((nth l) 63),((nth l) 64),((nth l) 65),((nth l) 66),((nth l) 67),((nth l) 68),((nth l) 69),((nth l) 70),((nth l) 71),((nth l) 72),((nth l) 73),((nth l) 74),((nth l) 75),((nth l) 76),((nth l) 77),((nth l) 78),((nth l) 79),((nth l) 80),((nth l) 81),((nth l) 82),((nth l) 83),((nth l) 84),((nth l) 85),((nth l) 86)])
  (h1:i≤D.length) (h2:St w0 wr (D.length+r*D.length+i) (stI R D r i)) (h3:zBW (w0.heap.size+4) wr ds) : Inn w0 pb R D ad cd r { tmps:=l.toArray,defers:=marks ds } wr :=
 ⟨nth l,ds,i,by rw [← hl],h1,h2,h3⟩
def NewBox (base:Nat) (t:TypeId) (v0:Value) (v:Value) (w:World) : Prop:=∃ b,v = .pointer (some ⟨b,0,none⟩)∧base≤b∧Boxed w b t v0
theorem zON (base:Nat) (t:TypeId) (v0:Value) : zCX (NewBox base t v0):=fun _ _ _ hb ⟨b,h1,h2,h3⟩=>⟨b,h1,h2,Boxed.same2 h3 (hb.block b h3.lt)⟩
theorem set_self {w:World} {b:Nat} {t:TypeId} {v:Value} (h:Boxed w b t v) : w.setCell ⟨b,0,none⟩ v=w:=by
 obtain ⟨hlt,hk⟩:=Array.getElem?_eq_some_iff.1 (show w.heap[b]? = _ from h)
 have e:(w.setCell ⟨b,0,none⟩ v).heap=w.heap:=by
  apply Array.ext_getElem?
  intro j
  by_cases hj:j=b
  ·subst hj
   exact (h.set v).trans (show w.heap[j]? = _ from h).symm
  ·exact Below.heap_setCell w ⟨b,0,none⟩ v j hj
 have e2:w.setCell ⟨b,0,none⟩ v = { w with heap:=(w.setCell ⟨b,0,none⟩ v).heap }:=rfl
 rw [e2,e]
theorem max_if (a b:Int) : max a b=if a < b then b else a:=by split <;> omega
theorem round_two {w W wr:World} {K B10 B11 b3 b6:Nat} {s:List Int×(Int→Option Int)} {t t':TypeId} {u u' v m:Value} {ds:List Nat} {o:Obj} (h:St w wr K s∧zBW (w.heap.size+4) wr ds∧KeepsFrom b6 W wr∧KpB w.heap.size b3 W wr) (h10:Boxed wr B10 t u) (h11:Boxed wr B11 t' u')
  (hl10:w.heap.size+4≤B10) (hl11:w.heap.size+4≤B11) (hne:B10≠B11) (h30:b3≠B10) (h31:b3≠B11) (W':World) (e:W'=((wr.setCell ⟨B11,0,none⟩ v).setCell ⟨B10,0,none⟩ m).alloc o) :
  Boxed W' B10 t m∧Boxed W' B11 t' v∧St w W' K s∧zBW (w.heap.size+4) W' ds∧KeepsFrom b6 W W'∧KpB w.heap.size b3 W W':=by
 subst e
 obtain ⟨h1,h2,h3,h4⟩:=h
 have ks:KeepsOthers wr (((wr.setCell ⟨B11,0,none⟩ v).setCell ⟨B10,0,none⟩ m).alloc o):=((KeepsOthers.setCell _ _ _).trans (KeepsOthers.setCell _ _ _)).trans (KeepsOthers.alloc _ _)
 have hs2:=(h1.set (j:=0) hl11 v).set (j:=0) hl10 m
 refine ⟨((h10.other hne v).set m).alloc o,((h11.set v).other hne.symm m).alloc o,hs2.ext (zB _ _),h2.keeps (ks.from _),h3.trans (ks.from _),kpB_t (kpB_t (kpB_t h4 (kpB_set (by omega) h31 v)) (kpB_set (by omega) h30 m)) (kpB_alloc hs2.below.size o)⟩
theorem depths_iss (w:World) (pb:Nat) (vr vd:Value) (R:List Issue) (D:List Int) (hB:BookAt w pb vr vd R D) (hs:zKX R) (hlen:R.length≤100) (hne:R≠[]) (hD:D.Nodup) (hDl:D.length≤20) :
  Calls prog 159 #[.pointer (some ⟨pb,0,none⟩)] w fun e w' =>
   (∃ b m,e = .returned (.tuple #[.map (some b),.bool (decide (0 < (stD R D D.length).1.length))])∧m≤1000∧MapI w' b m (stD R D D.length).2)∧Below w.heap.size w w':=by
 have hmm:=@run_makeMap prog
 have hc1:=hB.c1
 have hdr:=hB.dr
 obtain ⟨ad,cd,rfl,_⟩:=zD hdr
 unfold zJ at hc1
 refine (callsIn_wide (n:=3)).1 ?_
 refine callsIn_of_wp_marks func159 rfl trivial ?_ rfl
 simp only [ntmps159,List.size_toArray,List.length_cons,List.length_nil,Nat.reduceAdd,Nat.reduceSub,Array.replicate_succ,Array.replicate_zero,List.push_toArray,List.append_toArray,List.nil_append,List.cons_append]
 have hpl:=zAF hB.c1
 have HB:=zF hB
 have HDR:=zF (zZ hdr).2
 have HND:=zF hD
 have hsub:=hdr
 clear hdr hB hD
 have m1:=mapI_made w
 have m2:=mapB_made ((w.alloc (.map #[] 0)).alloc (.cells #[.map (some w.heap.size)] 246))
 have b1:=((Boxed.new (w.alloc (.map #[] 0)) 246 (.map (some w.heap.size))).alloc (.map #[] 0)).alloc (.cells #[.map (some (w.heap.size+1+1))] 275)
 have b2:=Boxed.new (((w.alloc (.map #[] 0)).alloc (.cells #[.map (some w.heap.size)] 246)).alloc (.map #[] 0)) 275 (.map (some (w.heap.size+1+1)))
 have hb:=(((Below.refl w.heap.size w).alloc (Nat.le_refl _) (.map #[] 0)).alloc (by simp) (.cells #[.map (some w.heap.size)] 246)).alloc (by simp;omega) (.map #[] 0) |>.alloc (by simp;omega) (.cells #[.map (some (w.heap.size+1+1))] 275)
 simp only [World.size_alloc] at m2 b1 b2
 have m1:=((MapI.alloc m1 (.cells #[.map (some w.heap.size)] 246)).alloc (.map #[] 0)).alloc (.cells #[.map (some (w.heap.size+1+1))] 275)
 have m2:=MapB.alloc m2 (.cells #[.map (some (w.heap.size+1+1))] 275)
 have hc4:=zC hb HB.out.c1
 unfold zJ at hc4
 gi_wp2
 clear hc4
 gi_loopw [22] (fun i wr=>∃ k:Nat,i = .int .i64 k∧k≤D.length∧St w wr k (D.take k,fun _=>none)) (fun i _=>D.length - (intOf i).toNat)
 case atStart=>exact ⟨0,rfl,Nat.zero_le _,hb,b1,b2,⟨0,Nat.le_refl _,m1⟩,⟨0,Nat.le_refl _,m2⟩⟩
 case round =>
  obtain ⟨k,rfl,hk,hst⟩:=hrel
  clear m1 m2 b1 b2 hb hc1
  have hpc:=zC hst.below HB.out.c1
  have cl:=hst.lbox.cell
  by_cases hlt:k < D.length
  ·obtain ⟨b,off,rfl,hc,hx⟩:=HDR.out k hlt
   have hc:=zC hst.below hc
   have hnot:D[k] ∉ D.take k:=by
    intro h
    obtain ⟨j,hj,e⟩:=List.getElem_of_mem h
    rw [List.length_take] at hj
    rw [List.getElem_take] at e
    have:=(List.getElem_inj HND.out).1 e
    omega
   have htk:D.take (k+1)=D.take k++[D[k]]:=List.take_succ_eq_append_getElem hlt
   obtain ⟨m,hm,hM⟩:=hst.lm
   obtain ⟨w',hr,hM',hg⟩:=mapB_put hM hx hnot (by have:(20:Nat) < maxLen:=(by decide);omega)
   rw [← htk] at hM'
   have hst':St w w' (k+1) (D.take (k+1),fun _=>none):=by
    obtain ⟨h1,h2,h3,⟨q,hq,h4⟩,-⟩:=hst
    refine ⟨h1.grown hg h1.size (fun r e=>by cases e;omega),Boxed.same2 h2 (hg.block _ h2.lt (by simp)),Boxed.same2 h3 (hg.block _ h3.lt (by simp)),⟨q,by omega,h4.same (hg.block _ h4.lt (by simp;omega))⟩,⟨m+1,by omega,hM'⟩⟩
   have HST:=zF hst'
   clear hst' hM' hM hg htk hnot
   unfold zJ at hc hpc
   rw [Nat.mul_one] at hc
   generalize D[k]=x at *
   gi_wp2
   go_roundw
   ·exact ⟨k+1,by go_num,by omega,HST.out⟩
   ·simp [intOf];omega
  ·have hk':k=D.length:=by omega
   subst hk'
   rw [List.take_length] at hst
   have HST:Hid (St w wr D.length (stD R D 0)):=hst
   unfold zJ at hpc
   gi_wp2
   clear hpc cl hst
   refine wpIn_loop (Out w pb R D) (fun a _=>D.length - (intOf (a.tmps.getD 34 undef)).toNat) (Out.of _ [] 0 rfl (Nat.zero_le _) (by simpa using HST.out) ⟨List.nodup_nil,fun _ h=>by cases h⟩) ?_
   rintro a wr2 ⟨u,ds,r,rfl,hr,hst,hmk⟩
   have hpc:=zC hst.below HB.out.c1
   unfold zJ at hpc
   by_cases hlt2:r < D.length
   ·gi_wp2
    clear hpc
    refine wpIn_loop (Inn w pb R D ad cd r) (fun a _=>D.length - (intOf (a.tmps.getD 41 undef)).toNat) (Inn.of _ ds 0 rfl (Nat.zero_le _) hst hmk) ?_
    clear hst hmk HST
    rintro a wr3 ⟨u,ds,i,rfl,hi,hst,hmk⟩
    have hpc:=zC hst.below HB.out.c1
    have cl:=hst.lbox.cell
    unfold zJ at hpc
    by_cases hlt3:i < D.length
    ·obtain ⟨b,off,rfl,hc,hx⟩:=HDR.out i hlt3
     have hc:=zC hst.below hc
     obtain ⟨hsi⟩ : Nonempty (stI R D r (i+1)=zER R (stI R D r i) D[i]):=⟨stI_succ R D r i hlt3⟩
     have hsane:=sane_stI R D HND.out r i
     unfold zJ at hc
     rw [Nat.mul_one] at hc
     generalize hn:D[i]=n at *
     generalize hsn:stI R D r i=s at *
     have LL:∀ xq,(Instr.lookup 275 (.map (some (w.heap.size+1+1))) (.int .i64 n) false).run prog (wr3.later xq) = .ok (.bool (decide (n∈s.1))) (wr3.later xq):=fun xq=>by
      obtain ⟨m,_,hM⟩:=hst.lm
      exact mapB_look (hM.same ((zE wr3 xq).block _ hM.lt)) hx
     have k0:=fun xq=>(hst.ext (zE wr3 xq)).lbox.cell
     gi_wp2
     refine wpIn_wide.2 ?_
     refine zK 6 (by kernel_rfl) (by kernel_rfl) ?_
     simp only [tk_]
     iterate 3 (apply gx_;focus (intro vs xq hd;(try simp [hq_] at hd);simp only [pf_];go_simp;first | exact ⟨br_,rfl⟩ | exact rfl))
     refine zL (NewBox wr3.heap.size 3 (.int .i64 0)) (zON _ _ _) ?_ ?_
     ·intro vs xq hd
      (try simp [hq_] at hd)
      simp only [pf_]
      go_simp
      exact ⟨zB _ _,_,rfl,(zE wr3 xq).size,Boxed.new _ _ _⟩
     refine zL (NewBox wr3.heap.size 4 (.bool false)) (zON _ _ _) ?_ ?_
     ·intro vs xq hd
      (try simp [hq_] at hd)
      simp only [pf_]
      go_simp
      exact ⟨zB _ _,_,rfl,(zE wr3 xq).size,Boxed.new _ _ _⟩
     refine zL (fun _ _=>True) (fun _ _ _ _ h=>h) ?_ ?_
     ·intro vs xq hd
      (try simp [hq_] at hd)
      simp only [pf_]
      obtain ⟨⟨b3,e,hb3,hx3⟩,-⟩:=hd
      have c3:=hx3.cell
      have f3:=hx3.frozen
      have e3:=set_self hx3
      simp only [e]
      go_simp
      exact br_
     refine zT rfl (fun vs xq hd=>?_)
     simp [zV,zAD,List.range,List.range.loop] at hd
     simp only [pf_]
     obtain ⟨e0,e1,e2,⟨B10,e3,hb10,x10⟩,⟨B11,e4,hb11,x11⟩⟩:=hd
     simp only [Nat.zero_add,Nat.reduceAdd] at e3 e4 ⊢
     simp only [e0,e1,e2,e3,e4]
     have c11:=x11.cell
     have f11:=x11.frozen
     have hne:B10≠B11:=by
      intro e
      subst e
      have h1:(wr3.later xq).heap[B10]? = _:=x10
      rw [show (wr3.later xq).heap[B10]? = _ from x11] at h1
      cases h1
     have hst5:=(hst.ext (zE wr3 xq)).set (g:=B11) (j:=0) (by have:=hst.lt;omega) (.bool (decide (n∈s.1)))
     have hmk5:=(hmk.ext (zE wr3 xq)).keeps ((KeepsOthers.setCell (wr3.later xq) ⟨B11,0,none⟩ (.bool (decide (n∈s.1)))).from _)
     have x10:=x10.other (by first | exact hne | exact hne.symm) (.bool (decide (n∈s.1)))
     have x11:=x11.set (.bool (decide (n∈s.1)))
     go_wp2
     clear c11 f11 cl k0 LL hpc hc
     have hB5:B10 < ((wr3.later xq).setCell ⟨B11,0,none⟩ (.bool (decide (n∈s.1)))).heap.size∧B11 < ((wr3.later xq).setCell ⟨B11,0,none⟩ (.bool (decide (n∈s.1)))).heap.size:=⟨x10.lt,x11.lt⟩
     have hlo:w.heap.size+4≤B10∧w.heap.size+4≤B11:=by have:=hst.lt;omega
     generalize (wr3.later xq).setCell ⟨B11,0,none⟩ (.bool (decide (n∈s.1)))=W5 at *
     clear hst hmk hb10 hb11 e0 e1 e2 e3 e4
     gi_wp2_with (refine ⟨trivial,?_⟩;gi_at_call 149;refine (callsIn_wide.2 (zNO _ _ _)).mono ?_;rintro e w' ⟨rfl,rfl⟩)
     have h2:=two_a W5 (.pointer (some ⟨pb,0,none⟩)) (.int .i64 n) 187 3 W5.heap.size rfl
     have h3:=two_b W5 (.pointer (some ⟨pb,0,none⟩)) (.int .i64 n) 187 3 (W5.heap.size+1) rfl
     have hb6:Below W5.heap.size W5 ((W5.alloc (.cells #[.pointer (some ⟨pb,0,none⟩)] 187)).alloc (.cells #[.int .i64 n] 3)):=zA (zB _ _) (zB _ _)
     have hsz6:((W5.alloc (.cells #[.pointer (some ⟨pb,0,none⟩)] 187)).alloc (.cells #[.int .i64 n] 3)).heap.size=W5.heap.size+2:=by simp
     have hst6:=hst5.ext hb6
     have hmk6:=hmk5.ext hb6
     have hml:∀ d∈ds,d < W5.heap.size:=fun d hd=>hmk5.lt hd
     have x10:=Boxed.same2 x10 (hb6.block _ x10.lt)
     have x11:=Boxed.same2 x11 (hb6.block _ x11.lt)
     generalize (W5.alloc _).alloc _=W6 at *
     have hl5:=hst5.lt
     clear hst5 hmk5 hb6
     refine wpIn_rangeFunc_ownH (n:=3) rfl (by decide) (gf:=185) (lb:=#[.pointer (some ⟨W5.heap.size,0,none⟩),.pointer (some ⟨W5.heap.size+1,0,none⟩)]) rfl trivial (enters_of func185 (by kernel_rfl) rfl)
      (zJC 2 (by decide) w W6 hst6.below pb W5.heap.size (W5.heap.size+1) _ _ R D n HB.out h2 h3 hs hlen (by assumption)) kpB_t (kpB_b (by omega)) (br_) (fun _=>rfl)
      (fun pre W=>(St w W (D.length+r*D.length+i) s∧Boxed W B10 3 (.int .i64 (zFV s.2 (zBJ (pre.map (·.x)))))∧Boxed W B11 4 (.bool (zDE s.1 n (zBJ (pre.map (·.x))))))∧zBW (w.heap.size+4) W ds)
      (fun _ _ _=>False)
      (fun _ A B row hs hg hr=>⟨⟨hs.1.1.kept hg (fun q e=>by have:=(hr q e).1;omega),Boxed.keptN hs.1.2.1 hg (fun r e=>(hr r e).2),Boxed.keptN hs.1.2.2 hg (fun r e=>(hr r e).2)⟩,zBW.kept hs.2 hg (fun d hd e=>by have h1:=(hr d e.symm).1;have h2:=hml d hd;omega)⟩)
      (fun _ _ _ _ _ hs _ _=>hs)
      ⟨⟨hst6,x10,by simpa [zBJ,zDE] using x11⟩,hmk6⟩
      (fun x a' W=>∃ Bx,B10 < Bx∧Lay W Bx #[.int .i64 x.x.d,.int .i64 x.x.l,.int .u8 x.x.k,.slice x.ai x.x.items.length x.ci,.slice x.ad x.x.dims.length x.cd] 107∧a' = { tmps:=#[.pointer (some ⟨pb,0,none⟩),(u 1),(u 2),(u 3),.pointer (some ⟨w.heap.size+1,0,none⟩),.pointer (some ⟨w.heap.size+1+1+1,0,none⟩),(u 6),(u 7),(u 8),.int .i64 n,.pointer (some ⟨B10,0,none⟩),.pointer (some ⟨B11,0,none⟩),.pointer (some ⟨Bx,0,none⟩),(u 13),(u 14),(u 15),(u 16),(u 17),(u 18),(u 19),(u 20),(u 21),(u 22),(u 23),(u 24),(u 25),(u 26),(u 27),(u 28),(u 29),(u 30),(u 31),(u 32),.int .i64 D.length,.int .i64 r,(u 35),(u 36),(u 37),(u 38),.slice (some ⟨b,off,none⟩) D.length cd,.int .i64 D.length,.int .i64 i,.bool true,.pointer (some ⟨b,off+i,none⟩),.int .i64 n,.map (some (w.heap.size+1+1)),.int .i64 n,.bool (decide (n∈s.1)),.pointer (some ⟨pb,0,none⟩),.int .i64 n,.func (.func 185) #[] #[.pointer (some ⟨W5.heap.size,0,none⟩),.pointer (some ⟨W5.heap.size+1,0,none⟩)],x.enc,(u 52),(u 53),(u 54),(u 55),(u 56),(u 57),(u 58),(u 59),(u 60),(u 61),(u 62),(u 63),(u 64),(u 65),(u 66),(u 67),(u 68),(u 69),(u 70),(u 71),(u 72),(u 73),(u 74),(u 75),(u 76),(u 77),(u 78),(u 79),(u 80),(u 81),(u 82),(u 83),(u 84),(u 85),(u 86)],defers:=[] })
      (fun x a' _ X Y row hs hg hr=>by obtain ⟨Bx,h1,h2,h3⟩:=hs;exact ⟨Bx,h1,h2.keptN hg (fun r e=>(hr r e).2),h3⟩)
      ?assign ?body ?done ?stop
     case assign =>
      rintro l0 pre x W K ⟨⟨hstW,y10,y11⟩,hmkW⟩ hK
      have hbn:=zB W (.cells #[.int .i64 x.x.d,.int .i64 x.x.l,.int .u8 x.x.k,.slice x.ai x.x.items.length x.ci,.slice x.ad x.x.dims.length x.cd] 107)
      simp [List.zip_toArray]
      have hK':=hK _ _ (zEE hbn |>.from _) (kpB_alloc hstW.below.size _) ⟨⟨hstW.ext hbn,Boxed.same2 y10 (hbn.block _ y10.lt),Boxed.same2 y11 (hbn.block _ y11.lt)⟩,hmkW.ext hbn⟩ ⟨W.heap.size,y10.lt,Lay.new W _ _,rfl⟩
      clear hK
      unfold Iss.enc at hK' ⊢
      gi_wp2
      exact hK'
     case body =>
      rintro l0 pre ⟨x,ai,ci,aj,cj,hlies⟩ a' W hl ⟨rr,hrr⟩ ⟨⟨hstW,y10,y11⟩,hmkW⟩ ⟨Bx,hBx,bX,rfl⟩ hlt
      have cX3:=bX.cell 3 _ rfl
      have HST:=zF hstW
      have HMK:=zF hmkW
      have hl4:=hstW.lt
      have hHI:=zF (zZ hlies.items).2
      have hil:x.items.length≤9223372036854775807:=by obtain ⟨_,_,_,h,_⟩:=hlies.items;exact h
      clear hrr hmkW hmk6 hst6 x10 x11 h2 h3 hs hlen hsub
      gi_wp2
      clear cX3 bX hstW
      gi_loopw [55] (fun v4 wr4=>∃ j:Nat,v4 = .int .i64 j∧j≤x.items.length∧Boxed wr4 B10 3 (.int .i64 (zFV s.2 (zBJ (pre.map (·.x))++(x.items.take j).map (·.d))))∧Boxed wr4 B11 4 (.bool (zDE s.1 n (zBJ (pre.map (·.x))++(x.items.take j).map (·.d))))∧Hid (St w wr4 (D.length+r*D.length+i) s∧zBW (w.heap.size+4) wr4 ds∧KeepsFrom W6.heap.size W wr4∧KpB w.heap.size (W5.heap.size+1) W wr4)) (fun v4 _=>x.items.length - (intOf v4).toNat)
      case atStart=>exact ⟨0,rfl,Nat.zero_le _,by simpa using y10,by simpa using y11,zF ⟨HST.out,HMK.out,KeepsFrom.refl _ _,kpB_refl _ _ _⟩⟩
      case round =>
       obtain ⟨j,rfl,hj,z10,z11,HH⟩:=hrel
       clear y10 y11
       by_cases hlt5:j < x.items.length
       ·obtain ⟨b5,off5,rfl,⟨q0,q1⟩,hnum⟩:=hHI.out j hlt5
        have hst4:=HH.out.1
        have q0:=zC hst4.below q0
        have q1:=zC hst4.below q1
        have l5:=zAF q0
        have cl:=hst4.lbox.cell
        have dl:=hst4.dbox.cell
        have l10:=z10.lt
        have l11:=z11.lt
        have ll1:=hst4.lbox.lt
        have ll2:=hst4.dbox.lt
        have f10:=z10.frozen
        have f11:=z11.frozen
        have htk:(x.items.take (j+1)).map (·.d)=(x.items.take j).map (·.d)++[x.items[j].d]:=by rw [List.take_succ_eq_append_getElem hlt5,List.map_append];rfl
        have hmo:=zF (show zFV s.2 (zBJ (pre.map (·.x))++(x.items.take (j+1)).map (·.d))=max (zFV s.2 (zBJ (pre.map (·.x))++(x.items.take j).map (·.d))) ((s.2 x.items[j].d).getD 0) by rw [htk,← List.append_assoc,mostOf_snoc])
        have hre:=zF (show zDE s.1 n (zBJ (pre.map (·.x))++(x.items.take (j+1)).map (·.d))=(zDE s.1 n (zBJ (pre.map (·.x))++(x.items.take j).map (·.d)) && !decide (x.items[j].d∈s.1)) by rw [htk,← List.append_assoc,readyOf_snoc])
        clear htk
        generalize x.items[j]=y at *
        generalize hlr:zDE s.1 n (zBJ (pre.map (·.x))++(x.items.take j).map (·.d))=rb at *
        generalize hlm:zFV s.2 (zBJ (pre.map (·.x))++(x.items.take j).map (·.d))=mm at *
        clear hlr hlm
        have LA:(Instr.lookup 275 (.map (some (w.heap.size+1+1))) (.int .i64 y.d) false).run prog (wr.alloc (.cells #[.int .i64 y.d,.int .i64 y.c] 205)) = .ok (.bool (decide (y.d∈s.1))) (wr.alloc (.cells #[.int .i64 y.d,.int .i64 y.c] 205)):=by
         obtain ⟨m,_,hM⟩:=hst4.lm
         exact mapB_look (hM.alloc _) hnum.1
        have LB:∀ v,(Instr.lookup 246 (.map (some w.heap.size)) (.int .i64 y.d) false).run prog ((wr.setCell ⟨B11,0,none⟩ v).alloc (.cells #[.int .i64 y.d,.int .i64 y.c] 205)) = .ok (.int .i64 ((s.2 y.d).getD 0)) ((wr.setCell ⟨B11,0,none⟩ v).alloc (.cells #[.int .i64 y.d,.int .i64 y.c] 205)):=fun v=>by
         obtain ⟨m,_,hM⟩:=hst4.dm
         exact mapI_look (MapI.alloc (hM.same (Below.heap_setCell wr ⟨B11,0,none⟩ v _ (by show w.heap.size≠B11;omega))) _) hnum.1
        have c10:=z10.cell
        have c11:=z11.cell
        unfold zJ at q0 q1
        have ZZ:=zF (And.intro z10 z11)
        clear z10 z11 hst4
        cases rb with
        | true =>
          gi_wp2
          have HR:=round_two (v:=.bool (!decide (y.d∈s.1))) (m:=.int .i64 (if mm < (s.2 y.d).getD 0 then (s.2 y.d).getD 0 else mm)) (o:=.cells #[.int .i64 y.d,.int .i64 y.c] 205) HH.out ZZ.out.1 ZZ.out.2 hlo.1 hlo.2 (by assumption) (by omega) (by omega) _ rfl
          go_roundw
          ·exact ⟨j+1,by go_num,by omega,by rw [hmo.out,max_if];exact HR.1,by rw [hre.out];exact HR.2.1,zF HR.2.2⟩
          ·simp [intOf];omega
        | false =>
          gi_wp2
          have HR:=round_two (v:=.bool (false)) (m:=.int .i64 (if mm < (s.2 y.d).getD 0 then (s.2 y.d).getD 0 else mm)) (o:=.cells #[.int .i64 y.d,.int .i64 y.c] 205) HH.out ZZ.out.1 ZZ.out.2 hlo.1 hlo.2 (by assumption) (by omega) (by omega) _ rfl
          go_roundw
          ·exact ⟨j+1,by go_num,by omega,by rw [hmo.out,max_if];exact HR.1,by rw [hre.out];exact HR.2.1,zF HR.2.2⟩
          ·simp [intOf];omega
       ·have hje:j=x.items.length:=by omega
        subst hje
        rw [List.take_length] at z10 z11
        gi_wp2
        have hsn:zBJ ((pre++[(⟨x,ai,ci,aj,cj,hlies⟩ : Iss w)]).map (·.x))=zBJ (pre.map (·.x))++x.items.map (·.d):=by simp [zBJ]
        exact ⟨HH.out.2.2.1,HH.out.2.2.2,⟨⟨HH.out.1,by rw [hsn];exact z10,by rw [hsn];exact z11⟩,HH.out.2.1⟩⟩
     case done =>
      rintro Dm ys W hDm hS ⟨⟨hstW,y10,y11⟩,hmkW⟩ hK
      rw [hS] at y10 y11
      have hbd:=mostOf_bd s.2 ((D.length:Int) - s.1.length) (by have:=hsane.len;omega) (fun y c hc=>by have:=hsane.bd y c hc;omega) (zBJ (zAM R n))
      have hml64:(1000:Nat) < maxLen:=by decide
      have hKb:D.length+r*D.length+i < 1000:=by
       have:r*D.length≤20*20:=Nat.mul_le_mul (by omega) hDl
       omega
      have hstep:zER R s n=if zDE s.1 n (zBJ (zAM R n))=true then (s.1.erase n,fun y=>if y=n then some (zFV s.2 (zBJ (zAM R n))+1) else s.2 y) else s:=rfl
      have hnd:Dm ∉ ds:=fun h=>by have:=hml _ h;omega
      clear x10 x11 hst6 hmk6 h2 h3 hs hlen hsub
      generalize zFV s.2 (zBJ (zAM R n))=mm at *
      have hready:zDE s.1 n (zBJ (zAM R n))=true→n∈s.1:=fun h=>by
       unfold zDE at h
       rw [Bool.and_eq_true] at h
       exact of_decide_eq_true h.1
      generalize zDE s.1 n (zBJ (zAM R n))=rb at *
      have c10:=y10.cell
      have c11:=y11.cell
      have dl:=hstW.dbox.cell
      cases rb with
      | true =>
        have hin:=hready rfl
        rw [if_pos rfl] at hstep
        have hw1:IntKind.i64.wrap (mm+1)=mm+1:=IntWalk.i64_in _ (by omega)
        obtain ⟨m,hm,hMI⟩:=hstW.dm
        obtain ⟨w7,hr7,hM7,hg7⟩:=mapI_put hMI hx (c:=mm+1) ⟨by omega,by omega⟩ (by omega)
        obtain ⟨m2,hm2,hMB⟩:=hstW.lm
        have hMB7:=hMB.same (hg7.block _ hMB.lt (by simp;omega))
        obtain ⟨w8,hr8,hM8,hg8⟩:=mapB_del hMB7 hx hin 0
        have bl7:=Boxed.same2 hstW.lbox (hg7.block _ hstW.lbox.lt (by simp;omega))
        have bd7:=Boxed.same2 hstW.dbox (hg7.block _ hstW.dbox.lt (by simp))
        have cl7:=bl7.cell
        have hst8:St w w8 (D.length+r*D.length+(i+1)) (zER R s n):=by
         rw [hstep]
         exact ⟨(hstW.below.grown hg7 hstW.below.size (fun q e=>by cases e;omega)).grown hg8 (by have:=hstW.below.size;have:=hg7.size;omega) (fun q e=>by cases e;omega),Boxed.same2 bd7 (hg8.block _ bd7.lt (by simp)),Boxed.same2 bl7 (hg8.block _ bl7.lt (by simp)),
          ⟨m+1,by omega,hM7.same (hg8.block _ hM7.lt (by simp;omega))⟩,⟨m2,by omega,hM8⟩⟩
        have hmk8:zBW (w.heap.size+4) w8 (Dm :: ds):=by
         refine zBW.cons ((hmkW.kept hg7 (fun d hd e=>by cases e;have:=(hmkW.2 _ hd).1;omega)).kept hg8 (fun d hd e=>by cases e;have:=(hmkW.2 _ hd).1;omega)) (by omega) ?_ hnd
         have hlt:=(Array.getElem?_eq_some_iff.1 hK).1
         rw [hg8.block Dm (by have:=hg7.size;omega) (by simp;omega),hg7.block Dm hlt (by simp;omega)]
         exact hK
        rw [← hsi] at hst8
        clear hM7 hM8 hMB7 hMI hMB hg7 hg8 bl7 bd7 y10 y11 hstW hmkW hK hstep
        gi_wp2
        refine ⟨Inn.of _ (Dm :: ds) (i+1) rfl (by omega) hst8 hmk8,?_⟩
        show D.length - (intOf (.int .i64 ((i:Int)+1))).toNat < D.length - (intOf (.int .i64 (i:Int))).toNat
        simp [intOf]
        omega
      | false =>
        rw [if_neg (by simp)] at hstep
        have hst8:St w W (D.length+r*D.length+(i+1)) (zER R s n):=by
         rw [hstep]
         obtain ⟨h1,h2,h3,⟨m,hm,h4⟩,⟨m',hm',h5⟩⟩:=hstW
         exact ⟨h1,h2,h3,⟨m,by omega,h4⟩,⟨m',by omega,h5⟩⟩
        have hmk8:=hmkW.cons (by omega) hK hnd
        rw [← hsi] at hst8
        clear y10 y11 hstW hmkW hK hstep
        gi_wp2
        refine ⟨Inn.of _ (Dm :: ds) (i+1) rfl (by omega) hst8 hmk8,?_⟩
        show D.length - (intOf (.int .i64 ((i:Int)+1))).toNat < D.length - (intOf (.int .i64 (i:Int))).toNat
        simp [intOf]
        omega
     case stop =>
      rintro Dm c pre W _ _ h _
      exact h.elim
    ·have hie:i=D.length:=by omega
     subst hie
     rw [stI_all R D r _ (Nat.le_refl _)] at hst
     clear hpc cl
     gi_wp2
     refine ⟨Out.of _ ds (r+1) rfl (by omega) (by rw [Nat.succ_mul,← Nat.add_assoc];exact hst) hmk,?_⟩
     show D.length - (intOf (.int .i64 ((r:Int)+1))).toNat < D.length - (intOf (.int .i64 (r:Int))).toNat
     simp [intOf]
     omega
   ·have hre:r=D.length:=by omega
    subst hre
    have cl:=hst.lbox.cell
    have dl:=hst.dbox.cell
    obtain ⟨m',_,hMB⟩:=hst.lm
    have hln:=mapB_len hMB
    gi_wp2
    have hKb:D.length+D.length*D.length≤1000:=by
     have:D.length*D.length≤20*20:=Nat.mul_le_mul hDl hDl
     omega
    obtain ⟨hbl,h2,h3,⟨m,hm,h4⟩,-⟩:=hst
    refine leaves_marks (w.heap.size+4) (fun W=>Below w.heap.size w W∧MapI W w.heap.size m (stD R D D.length).2) (fun W d hd hk hz=>⟨hz.1.trans (belowK_b (w:=w) (Nat.le_refl _) W d _ _ (by omega) hk rfl rfl),hz.2.same (World.putObj_heap_other (by omega))⟩) (fun W hz=>⟨?_,⟨⟨_,m,rfl,by omega,hz.2⟩,hz.1⟩⟩) ds wr2 hmk ⟨hbl,h4⟩
    simp [results,results159,go_sem]
end
end Go.Proofs.YtpolpdegpbahiaaGreatDoor
