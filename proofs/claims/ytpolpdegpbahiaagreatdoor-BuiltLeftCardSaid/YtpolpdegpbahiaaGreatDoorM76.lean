/- append onto a row of the call's own: the row stays where it is, or lies in new memory. -/
import Derived.OrdersIn
import Derived.TacticsIn
import Derived.RangeFuncCalls
import Derived.Laws.AppendOwn
import Derived.Test.YtpolpdegpbahiaaGreatDoorM01
import Derived.Test.YtpolpdegpbahiaaGreatDoorM02
import Derived.Test.YtpolpdegpbahiaaGreatDoorM53
import Derived.Test.YtpolpdegpbahiaaGreatDoorM58
import Derived.Test.YtpolpdegpbahiaaGreatDoorM60
import Derived.Test.YtpolpdegpbahiaaGreatDoorM63
import Derived.Test.YtpolpdegpbahiaaGreatDoorM64
import Derived.Test.YtpolpdegpbahiaaGreatDoorM66
set_option linter.all false
set_option maxRecDepth 100000
set_option maxHeartbeats 12800000

namespace Go.Proofs.YtpolpdegpbahiaaGreatDoor
open Go.RowKit
theorem ints_one (w:World) (x:Int) (h:I64 x) : Sl zAJ 1 (w.alloc (.cells #[.int .i64 x] 3)) (.slice (some ⟨w.heap.size,0,none⟩) 1 1) [x] :=
 zBG (xs:=[x]) (base:=w.heap.size) (World.ownsRow_lit w #[.int .i64 x] 1 (Nat.le_refl _) (by decide) rfl) (fun y hy=>by simp at hy;subst hy;exact h)
theorem zPQ (w:World) (x y:Int) (h:I64 x) (h2:I64 y) : Sl zAJ 1 (w.alloc (.cells #[.int .i64 x,.int .i64 y] 3)) (.slice (some ⟨w.heap.size,0,none⟩) 2 2) [x,y] :=
 zBG (xs:=[x,y]) (base:=w.heap.size) (World.ownsRow_lit w #[.int .i64 x,.int .i64 y] 2 (Nat.le_refl _) (by decide) rfl) (fun z hz=>by simp at hz;rcases hz with rfl | rfl <;> first | exact h | exact h2)
theorem flat_range {A:List (List Int)} (f:List Int→List Int) : (List.range A.length).flatMap (fun k=>f (A.getD k []))=A.flatMap f:=by
 have key:∀ k,k≤A.length→(List.range k).flatMap (fun k=>f (A.getD k []))=(A.take k).flatMap f:=by
  intro k
  induction k with
  | zero=>intro _;simp
  | succ k ih =>
    intro hk
    have hlt:k < A.length:=by omega
    rw [List.range_succ,List.flatMap_append,List.flatMap_singleton,ih (by omega),List.take_succ_eq_append_getElem hlt,List.flatMap_append,List.flatMap_singleton,List.getD_eq_getElem?_getD,List.getElem?_eq_getElem hlt]
    rfl
 have:=key A.length (Nat.le_refl _)
 rwa [List.take_length] at this
end Go.Proofs.YtpolpdegpbahiaaGreatDoor
namespace Go.Proofs.YtpolpdegpbahiaaGreatDoor
open Tryz
section
open Go.RowKit Go.Shelf
attribute [local go_sem] zAN Oper.grows Oper.growUpon
structure ULoop (wa wr:World) (z:Nat) (s:Span) : Prop where
 below:Below wa.heap.size wa wr
 lo:wa.heap.size≤z
 out:Lay wr z #[.int .i64 s.lo,.int .i64 s.hi] 38
theorem ULoop.ext {wa w w':World} {z:Nat} {s:Span} (hb:Below w.heap.size w w') (h:ULoop wa w z s) : ULoop wa w' z s:=⟨zA h.below hb,h.lo,h.out.ext hb⟩
theorem ULoop.other {wa w:World} {z:Nat} {s:Span} (h:ULoop wa w z s) {g j:Nat} {u:Value} (hg:z < g) : ULoop wa (w.setCell ⟨g,j,none⟩ u) z s:=⟨zH (by have:=h.lo;omega) h.below,h.lo,zBD h.out (by omega) _ _⟩
theorem ULoop.put {wa w:World} {z:Nat} {s:Span} (h:ULoop wa w z s) (t:Span) : ULoop wa ((w.setCell ⟨z,0,none⟩ (.int .i64 t.lo)).setCell ⟨z,1,none⟩ (.int .i64 t.hi)) z t :=
 ⟨zH h.lo (zH h.lo h.below),h.lo,zBC (zBC h.out 0 _) 1 _⟩
structure URound (wa w:World) (z gs:Nat) (s sp:Span) : Prop where
 loop:ULoop wa w z s
 span:Lay w gs #[.int .i64 sp.lo,.int .i64 sp.hi] 38
 ne:z < gs
theorem URound.ext {wa w w':World} {z gs:Nat} {s sp:Span} (hb:Below w.heap.size w w') (p:URound wa w z gs s sp) : URound wa w' z gs s sp:=⟨p.loop.ext hb,p.span.ext hb,p.ne⟩
theorem URound.put {wa w:World} {z gs:Nat} {s sp:Span} (p:URound wa w z gs s sp) (t:Span) : URound wa ((w.setCell ⟨z,0,none⟩ (.int .i64 t.lo)).setCell ⟨z,1,none⟩ (.int .i64 t.hi)) z gs t sp :=
 ⟨p.loop.put t,zBD (zBD p.span (by have:=p.ne;omega) _ _) (by have:=p.ne;omega) _ _,p.ne⟩
theorem URound.putS {wa w:World} {z gs:Nat} {s sp:Span} (p:URound wa w z gs s sp) (t:Span) : URound wa ((w.setCell ⟨gs,0,none⟩ (.int .i64 t.lo)).setCell ⟨gs,1,none⟩ (.int .i64 t.hi)) z gs s t :=
 ⟨(p.loop.other p.ne).other p.ne,zBC (zBC p.span 0 _) 1 _,p.ne⟩
theorem until08_all (w:World) (vr vn vm vh vz:Value) (b:Built) (h:Int) (hB:BuiltAt w vr vn vm vh vz b) :
  Calls prog 25 #[.agg #[vr,vn,.int .i64 b.of,vm,vh,vz],.int .i64 h] w fun e w'=>e = .returned (.tuple #[.agg #[.int .i64 (zRV b h).lo,.int .i64 (zRV b h).hi],.int .i64 (untC b h)])∧Below w.heap.size w w':=by
 obtain ⟨ah,ch,rfl,hhm⟩:=zD hB.hs
 have hb1:=zB w (.cells #[vr,vn,.int .i64 b.of,vm,.slice ah b.hs.length ch,vz] 32)
 have hbox:=zHC w vr vn vm (.slice ah b.hs.length ch) vz b.of 32
 have hl1:(w.alloc (.cells #[vr,vn,.int .i64 b.of,vm,.slice ah b.hs.length ch,vz] 32)).heap.size=w.heap.size+1:=World.size_alloc _ _
 generalize hw0:w.alloc (.cells #[vr,vn,.int .i64 b.of,vm,.slice ah b.hs.length ch,vz] 32)=w0 at hb1 hbox hl1
 have hb2:=zB w0 (.cells #[.int .i64 0,.int .i64 0] 38)
 have hres:=Lay.new w0 38 #[.int .i64 0,.int .i64 0]
 rw [hl1] at hres
 have HBW:=zF (zA hb1 hb2)
 have HBOX:=zF (hbox.ext hb2)
 have HRES:=zF hres
 have HB:=zF (hB.ext HBW.out)
 clear hb1 hb2 hbox hres hB
 subst hw0
 have k0:=HBOX.out.c0
 have k1:=HBOX.out.c1
 have k2:=HBOX.out.c2
 have k3:=HBOX.out.c3
 have k4:=HBOX.out.c4
 have k5:=HBOX.out.c5
 unfold zJ at k0 k1 k2 k3 k4 k5
 go_enter func25,ntmps25
 go_wp2_with fail
 clear k0 k1 k2 k3 k4 k5 hl1
 generalize (w.alloc _).alloc _=w1 at *
 refine (check08 _ _ _ _ _ _ b HB.out).mono ?_
 rintro e w2 ⟨rfl,hb2⟩
 have HBW:=zF (zA HBW.out hb2)
 have HBOX:=zF (HBOX.out.ext hb2)
 have HRES:=zF (HRES.out.ext hb2)
 have HB:=zF (HB.out.ext hb2)
 clear hb2
 by_cases hv:zM b=0
 case neg =>
  have hv':(zM b != 0)=true:=by simpa using hv
  have HT:=zF (unt_bad (h:=h) hv)
  have z0:=HRES.out.cell 0 _ rfl
  have z1:=HRES.out.cell 1 _ rfl
  have zf0:=HRES.out.frozen 0
  have zf1:=HRES.out.frozen 1
  have zl:=HRES.out.lt
  clear hv
  go_wp2
  refine bodyPost_ret (v:=.tuple #[.agg #[.int .i64 0,.int .i64 0],.int .i64 (zM b)]) (by simp [results,results25,go_sem,z0,z1,zl]) rfl ?_
  exact ⟨by rw [HT.out.1,HT.out.2],zH (by omega) (zH (by omega) HBW.out)⟩
 case pos =>
  have HV:=zF hv
  have hr10:b.rs.length≤10:=(zW hv).2.2.2.2.1
  rw [hv]
  clear hv
  have k4:=HBOX.out.c4
  unfold zJ at k4
  have hw1:IntKind.i64.wrap ((b.hs.length:Int) - 1)=(b.hs.length:Int) - 1:=IntWalk.i64_in _ (by omega)
  have hw2:wrap64 ((b.hs.length:Int) - 1)=(b.hs.length:Int) - 1:=IntWalk.wrap64_in _ (by omega)
  go_wp2_with fail
  clear k4 hw1 hw2
  refine (zHN h 0 ((b.hs.length:Int) - 1) _).mono ?_
  rintro e w4 ⟨rfl,rfl⟩
  by_cases hi:In h 0 ((b.hs.length:Int) - 1)
  case neg =>
   have ht:inB h 0 ((b.hs.length:Int) - 1)=false:=zIH hi
   have HTT:=zF (unt_arg HV.out hi)
   rw [ht]
   have z0:=HRES.out.cell 0 _ rfl
   have z1:=HRES.out.cell 1 _ rfl
   have zf0:=HRES.out.frozen 0
   have zf1:=HRES.out.frozen 1
   have zl:=HRES.out.lt
   clear hi ht
   go_wp2
   refine bodyPost_ret (v:=.tuple #[.agg #[.int .i64 0,.int .i64 0],.int .i64 2]) (by simp [results,results25,go_sem,z0,z1,zl]) rfl ?_
   exact ⟨by rw [HTT.out.1,HTT.out.2],zH (by omega) (zH (by omega) HBW.out)⟩
  case pos =>
   have ht:inB h 0 ((b.hs.length:Int) - 1)=true:=zHP hi
   obtain ⟨kk,rfl⟩ : ∃ kk:Nat,h=kk:=⟨h.toNat,by unfold In at hi;omega⟩
   have hkk:kk < b.hs.length:=by unfold In at hi;omega
   have HI:=zF hi
   rw [ht]
   clear hi ht
   go_wp2
   have k0:=zG HBOX.out.c0
   have k1:=zG HBOX.out.c1
   have k2:=zG HBOX.out.c2
   have k3:=zG HBOX.out.c3
   have k4:=zG HBOX.out.c4
   have k5:=zG HBOX.out.c5
   refine zK 4 (by kernel_rfl) (by kernel_rfl) ?_
   simp only [tk_]
   iterate 2 (apply gx_;focus (intro vs xq hd;(try simp [hq_] at hd);simp only [pf_];go_simp;exact ⟨br_,rfl⟩))
   refine zAE ?_
   apply Exists.intro
   refine ⟨fun vs' xq hd=>?_,?_⟩
   ·(try simp [hq_] at hd)
    simp only [pf_]
    go_simp
    refine (zRE (w4.later xq) vr vn vm _ vz b.of b.rs (HB.out.ext (zE w4 xq)).rs (by omega)).mono ?_
    rintro e w9 ⟨rfl,hb9⟩
    exact ⟨rfl,hb9⟩
   refine zL (fun v w'=>Hid (zJB b (zBH b)∧(zBH b).length≤32∧Sl zKW 1 w' v (zBH b))) (fun v w w' hb h=>zF ⟨h.out.1,h.out.2.1,zI zCC hb h.out.2.2⟩) ?_ ?_
   ·intro vs xq hd
    (try simp [hq_] at hd)
    simp only [pf_]
    go_simp
    refine (truths08 (w4.later xq) vr vn vm _ vz b (HB.out.ext (zE w4 xq)) HV.out).mono ?_
    rintro e w9 ⟨u,A,rfl,hA,hl,hs,hb⟩
    have e:=zRZ hA
    exact ⟨u,rfl,hb,zF (by rw [e];exact ⟨hA,hl,hs⟩)⟩
   refine zT rfl (fun vs' xq hd=>?_)
   simp [zV,zAD,List.range,List.range.loop] at hd
   simp only [pf_]
   obtain ⟨e0,e1,e2,h3⟩:=hd
   simp only [Nat.zero_add,Nat.reduceAdd] at e0 e1 e2 ⊢
   simp only [e0,e1,e2]
   have hb2:=zE w4 xq
   have HBW:=zF (zA HBW.out hb2)
   have HBOX:=zF (HBOX.out.ext hb2)
   have HRES:=zF (HRES.out.ext hb2)
   have HB:=zF (HB.out.ext hb2)
   clear e0 e1 e2 k0 k1 k2 k3 k4 k5 hb2
   generalize vs' 3=v3 at *
   generalize w4.later xq=w8 at *
   obtain ⟨a3,c3,rfl,_⟩:=zD h3.out.2.2
   have HA:=zF h3.out.2.2
   have HT:Hid (∀ S∈zBH b,IsT (zCA b.ns.notes) S∧zII b S):=fun S hS=>(h3.out.1.2 S).1 hS
   have hA32:=h3.out.2.1
   have HU0:Hid (zBH b=[]→untC b kk=8∧zRV b kk=⟨0,0⟩):=fun hl=>unt_no HV.out HI.out hl
   have HU1:Hid (zBH b≠[]→untC b kk=0∧zRV b kk=uTo b (zBH b) kk (zBH b).length):=fun hl=>unt_ok HV.out HI.out hl
   clear h3
   generalize zBH b=A at *
   by_cases hl:A=[]
   case pos =>
    have HTT:=zF (HU0.out hl)
    have hl0:A.length=0:=by rw [hl];rfl
    have HL:=zF hl
    clear hl
    have z0:=HRES.out.cell 0 _ rfl
    have z1:=HRES.out.cell 1 _ rfl
    have zf0:=HRES.out.frozen 0
    have zf1:=HRES.out.frozen 1
    have zl:=HRES.out.lt
    go_wp2
    refine bodyPost_ret (v:=.tuple #[.agg #[.int .i64 0,.int .i64 0],.int .i64 8]) (by simp [results,results25,go_sem,z0,z1,zl]) rfl ?_
    exact ⟨by rw [HTT.out.1,HTT.out.2],zH (by omega) (zH (by omega) HBW.out)⟩
   case neg =>
    have HTT:=zF (HU1.out hl)
    have hl0:0 < A.length:=List.length_pos_iff.2 hl
    have hl1:((A.length:Int) == 0)=false:=by
     simp
     omega
    clear hl HU0 HU1
    go_wp2
    have hP0:ULoop w8 (w8.alloc (.cells #[.int .i64 0,.int .i64 0] 38)) w8.heap.size (uTo b A kk 0):=⟨zB _ _,Nat.le_refl _,Lay.new _ _ _⟩
    generalize hgz:w8.heap.size=z at hP0 ⊢
    have HGZ:=zF hgz
    generalize w8.alloc _=w9 at *
    clear hgz
    go_loopw [9] (fun i wr=>∃ j:Nat,i = .int .i64 j∧j≤A.length∧Hid (ULoop w8 wr z (uTo b A kk j))) (fun i _=>A.length - (intOf i).toNat)
    case atStart=>exact ⟨0,rfl,by omega,zF hP0⟩
    case round =>
     clear hP0
     obtain ⟨j,rfl,hj,HP⟩:=hrel
     by_cases hlt:j < A.length
     case neg =>
      obtain rfl:j=A.length:=by omega
      have hb2:=HP.out.below
      have HBW:=zF (zA HBW.out hb2)
      have HBOX:=zF (HBOX.out.ext hb2)
      have HRES:=zF (HRES.out.ext hb2)
      have HB:=zF (HB.out.ext hb2)
      clear hb2
      obtain ⟨s,hs⟩ : ∃ s,s=uTo b A kk A.length:=⟨_,rfl⟩
      rw [← hs] at HP
      rw [← hs] at HTT
      clear hs
      have q0:=HP.out.out.cell 0 _ rfl
      have q1:=HP.out.out.cell 1 _ rfl
      have z0:=HRES.out.cell 0 _ rfl
      have z1:=HRES.out.cell 1 _ rfl
      have zf0:=HRES.out.frozen 0
      have zf1:=HRES.out.frozen 1
      have zl:=HRES.out.lt
      go_wp2
      refine bodyPost_ret (v:=.tuple #[.agg #[.int .i64 s.lo,.int .i64 s.hi],.int .i64 0]) (by simp [results,results25,go_sem,z0,z1,zl]) rfl ?_
      exact ⟨by rw [HTT.out.1,HTT.out.2],zH (by omega) (zH (by omega) HBW.out)⟩
     case pos =>
      have hkl:(j:Int) < A.length:=by omega
      generalize wr=wq at *
      obtain ⟨gl,ol,rfl,vx,hcx,hx⟩:=(zZ HA.out).2 j hlt
      obtain ⟨ax,cx,rfl,_⟩:=zD hx
      have hTx:=HT.out _ (List.getElem_mem hlt)
      have hsucc:=zF (uTo_succ (b:=b) (k:=kk) hlt)
      have HX:=zF hx
      have HC:=zF hcx
      have HTX:=zF hTx
      clear hx hcx hTx
      generalize A[j]=x at *
      have hsb:=zF (cntS_bd HV.out HTX.out.2 hkk)
      obtain ⟨sp,hsp⟩ : ∃ sp,zGB b x kk=some sp:=Option.ne_none_iff_exists'.1 (HTX.out.2.1 kk hkk)
      have hcs:cntS b x kk=sp:=by unfold cntS;rw [hsp];rfl
      rw [hcs] at hsb hsucc
      have hcnt:zBL b.ms b.rs (zBS b x) (zBO b x) kk b.hs[kk].lo (b.hs[kk].hi - b.hs[kk].lo+1).toNat=some sp:=by rw [← countsV_at hkk,zOO HV.out,hsp]
      have hcallC:Hid (∀ W,Below w8.heap.size w8 W→∀ vp vt,ViewAt W vp vt (zBS b x) (zBO b x)→Calls prog 62 #[.agg #[vr,vn,.int .i64 b.of,vm,.slice ah b.hs.length ch,vz],.agg #[vp,vt],.int .i64 (2 ^ b.rs.length - 1),.int .i64 kk] W fun e w'=>e = .returned (.tuple #[.agg #[.int .i64 sp.lo,.int .i64 sp.hi],.bool true])∧Below W.heap.size W w'):=fun W hb vp vt hV=>by
       have:=counts08 W vr vn vm (.slice ah b.hs.length ch) vz vp vt b.of b.ms b.hs b.rs (zBS b x) (zBO b x) (HB.out.ext hb).ms (HB.out.ext hb).hs (HB.out.ext hb).rs hV (zRU HV.out x) hr10 kk hkk (zDP HV.out hkk)
       rw [hcnt] at this
       exact this
      have hcallU:Hid (∀ W,Below w8.heap.size w8 W→∀ n,0≤n∧n≤200→Calls prog 76 #[.agg #[vr,vn,.int .i64 b.of,vm,.slice ah b.hs.length ch,vz],.slice ax x.length cx,.int .i64 kk,.int .i64 n] W fun e w'=>e = .returned (.int .i64 (zQC b x kk n))∧Below W.heap.size W w'):=fun W hb n hn =>
       until08 W vr vn vm (.slice ah b.hs.length ch) vz (.slice ax x.length cx) b x kk n (HB.out.ext hb) (zI zN hb HX.out) HV.out HTX.out.1 hkk hn
      clear hsp hcs hcnt
      have hpl:=zF HP.out.below
      have k0:∀ xq,(wq.later xq).cell? ⟨w.heap.size,0,none⟩=some vr:=fun xq=>zC (zA hpl.out (zE wq xq)) HBOX.out.c0
      have k1:∀ xq,(wq.later xq).cell? ⟨w.heap.size,1,none⟩=some vn:=fun xq=>zC (zA hpl.out (zE wq xq)) HBOX.out.c1
      have k2:∀ xq,(wq.later xq).cell? ⟨w.heap.size,2,none⟩=some (.int .i64 b.of):=fun xq=>zC (zA hpl.out (zE wq xq)) HBOX.out.c2
      have k3:∀ xq,(wq.later xq).cell? ⟨w.heap.size,3,none⟩=some vm:=fun xq=>zC (zA hpl.out (zE wq xq)) HBOX.out.c3
      have k4:∀ xq,(wq.later xq).cell? ⟨w.heap.size,4,none⟩=some (.slice ah b.hs.length ch):=fun xq=>zC (zA hpl.out (zE wq xq)) HBOX.out.c4
      have k5:∀ xq,(wq.later xq).cell? ⟨w.heap.size,5,none⟩=some vz:=fun xq=>zC (zA hpl.out (zE wq xq)) HBOX.out.c5
      have kx:∀ xq,(wq.later xq).cell? ⟨gl,ol+j,none⟩=some (.slice ax x.length cx):=fun xq=>by
       have:=zC (zA hpl.out (zE wq xq)) HC.out
       rw [Nat.mul_one] at this
       exact this
      go_wp2
      refine zGC 15 13 (by kernel_rfl) (by kernel_rfl) rfl rfl (fun v=>v = .bool true) ?_
      simp only [tk_]
      iterate 6 (apply gx_;focus (intro vs xq hd;(try simp [hq_] at hd);simp only [pf_];go_simp;exact ⟨br_,rfl⟩))
      refine zL (fun v w'=>∃ vp vt,v = .agg #[vp,vt]∧ViewAt w' vp vt (zBS b x) (zBO b x)) (fun v w w' hb h=>by obtain ⟨vp,vt,e,h⟩:=h;exact ⟨vp,vt,e,h.ext hb⟩) ?_ ?_
      ·intro vs xq hd
       (try simp [hq_] at hd)
       simp only [pf_]
       go_simp
       refine (zRB (wq.later xq) vr vn vm _ vz (.slice ax x.length cx) b x (HB.out.ext (zA hpl.out (zE wq xq))) (zI zN (zA hpl.out (zE wq xq)) HX.out) HV.out HTX.out.1).mono ?_
       rintro e w9 ⟨vp,vt,rfl,hV,hb9⟩
       exact ⟨_,rfl,hb9,vp,vt,rfl,hV.now⟩
      apply gx_;focus (intro vs xq hd;(try simp [hq_] at hd);simp only [pf_];go_simp;exact ⟨br_,rfl⟩)
      refine zAE ?_
      apply Exists.intro
      refine ⟨fun vs' xq hd=>?_,?_⟩
      ·(try simp [hq_] at hd)
       simp only [pf_]
       go_simp
       refine (zRE (wq.later xq) vr vn vm _ vz b.of b.rs (HB.out.ext (zA hpl.out (zE wq xq))).rs (by omega)).mono ?_
       rintro e w9 ⟨rfl,hb9⟩
       exact ⟨rfl,hb9⟩
      apply gx_;focus (intro vs xq hd;(try simp [hq_] at hd);simp only [pf_];go_simp;exact ⟨br_,rfl⟩)
      refine zAE ?_
      apply Exists.intro
      refine ⟨fun vs' xq hd=>?_,?_⟩
      ·(try simp [hq_] at hd)
       obtain ⟨_,⟨vp,vt,e6,hV⟩,_⟩:=hd
       simp only [pf_]
       go_simp
       refine (hcallC.out (wq.later xq) (zA hpl.out (zE wq xq)) vp vt hV).mono ?_
       rintro e w9 ⟨rfl,hb9⟩
       exact ⟨rfl,hb9⟩
      iterate 3 (apply gx_;focus (intro vs xq hd;(try simp [hq_] at hd);simp only [pf_];go_simp;exact ⟨br_,rfl⟩))
      refine zL (NewBx wq.heap.size #[.int .i64 0,.int .i64 0] 38) (zDC _ _ _) ?_ ?_
      ·intro vs xq hd
       (try simp [hq_] at hd)
       simp only [pf_]
       go_simp
       exact ⟨zB _ _,_,rfl,(zE wq xq).size,Lay.new _ _ _⟩
      refine ⟨fun v w h=>h,fun vs' w6 w7 hd=>?_,fun vs' w6 hb6 hf=>?_⟩
      ·simp [Oper.waitsOn,Region.binds,List.filter_cons,List.filter_nil,zAD] at hd
       refine ⟨.bool true,?_,rfl⟩
       simp only [pf_]
       rw [hd]
       go_simp
      have h12:=hf 12 (by decide) (by decide)
      have h14:=hf 14 (by decide) (by decide)
      simp [zAD] at h12 h14
      obtain ⟨gs,e14,hgs,hls⟩:=h14
      clear hf k0 k1 k2 k3 k4 k5 kx hcallC
      have hzg:z < gs:=by have:=HP.out.out.lt;omega
      have HPR:Hid (URound w8 w6 z gs (uTo b A kk j) ⟨0,0⟩):=⟨HP.out.ext hb6,hls,hzg⟩
      have q0:=hls.cell 0 _ rfl
      have q1:=hls.cell 1 _ rfl
      have f0:=hls.frozen 0
      have f1:=hls.frozen 1
      have ql:=hls.lt
      simp only [pf_]
      rw [h12,e14]
      go_simp
      (try simp only [List.drop_succ_cons,List.drop_zero])
      have HPR:=zF (HPR.out.putS sp)
      clear q0 q1 f0 f1 ql h12 e14 hb6 hls hgs hpl HP
      generalize (w6.setCell _ _).setCell _ _=w66 at *
      generalize vs' 0=y0 at *
      generalize vs' 1=y1 at *
      generalize vs' 2=y2 at *
      generalize vs' 3=y3 at *
      generalize vs' 4=y4 at *
      generalize vs' 5=y5 at *
      generalize vs' 6=y6 at *
      generalize vs' 7=y7 at *
      generalize vs' 8=y8 at *
      generalize vs' 9=y9 at *
      generalize vs' 10=y10 at *
      generalize vs' 11=y11 at *
      generalize vs' 12=y12 at *
      generalize hww:w66=wq at *
      clear hww
      go_wp2
      have hpl:=zF HPR.out.loop.below
      have k0:∀ xq,(wq.later xq).cell? ⟨w.heap.size,0,none⟩=some vr:=fun xq=>zC (zA hpl.out (zE wq xq)) HBOX.out.c0
      have k1:∀ xq,(wq.later xq).cell? ⟨w.heap.size,1,none⟩=some vn:=fun xq=>zC (zA hpl.out (zE wq xq)) HBOX.out.c1
      have k2:∀ xq,(wq.later xq).cell? ⟨w.heap.size,2,none⟩=some (.int .i64 b.of):=fun xq=>zC (zA hpl.out (zE wq xq)) HBOX.out.c2
      have k3:∀ xq,(wq.later xq).cell? ⟨w.heap.size,3,none⟩=some vm:=fun xq=>zC (zA hpl.out (zE wq xq)) HBOX.out.c3
      have k4:∀ xq,(wq.later xq).cell? ⟨w.heap.size,4,none⟩=some (.slice ah b.hs.length ch):=fun xq=>zC (zA hpl.out (zE wq xq)) HBOX.out.c4
      have k5:∀ xq,(wq.later xq).cell? ⟨w.heap.size,5,none⟩=some vz:=fun xq=>zC (zA hpl.out (zE wq xq)) HBOX.out.c5
      have kx:∀ xq,(wq.later xq).cell? ⟨gl,ol+j,none⟩=some (.slice ax x.length cx):=fun xq=>by
       have:=zC (zA hpl.out (zE wq xq)) HC.out
       rw [Nat.mul_one] at this
       exact this
      have o0:=zG (show zJ wq z 0 _ from HPR.out.loop.out.cell 0 _ rfl)
      have o1:=zG (show zJ wq z 1 _ from HPR.out.loop.out.cell 1 _ rfl)
      have s0:=zG (show zJ wq gs 0 _ from HPR.out.span.cell 0 _ rfl)
      have s1:=zG (show zJ wq gs 1 _ from HPR.out.span.cell 1 _ rfl)
      refine zK 13 (by kernel_rfl) (by kernel_rfl) ?_
      simp only [tk_]
      iterate 11 (apply gx_;focus (intro vs xq hd;(try simp [hq_] at hd);simp only [pf_];go_simp;exact ⟨br_,rfl⟩))
      refine zAE ?_
      apply Exists.intro
      refine ⟨fun vs' xq hd=>?_,?_⟩
      ·(try simp [hq_] at hd)
       simp only [pf_]
       go_simp
       refine (hcallU.out (wq.later xq) (zA hpl.out (zE wq xq)) sp.lo hsb.out.1).mono ?_
       rintro e w9 ⟨rfl,hb9⟩
       exact ⟨rfl,hb9⟩
      refine zAE ?_
      apply Exists.intro
      refine ⟨fun vs' xq hd=>?_,?_⟩
      ·(try simp [hq_] at hd)
       simp only [pf_]
       go_simp
       refine (wider08 (wq.later xq) (uTo b A kk j) _ _).mono ?_
       rintro e w9 ⟨rfl,hb9⟩
       exact ⟨rfl,hb9⟩
      refine zT (by simp only [List.length_append,List.length_cons,List.length_nil]) (fun vs' xq hd=>?_)
      simp [zV,zAD,List.range,List.range.loop] at hd
      simp only [pf_]
      obtain ⟨e0,e1,e2,e3,e4,e5,e6,e7,e8,e9,e10,e11,e12⟩:=hd
      simp only [Nat.zero_add,Nat.reduceAdd] at e0 e1 e2 e3 e4 e5 e6 e7 e8 e9 e10 e11 e12 ⊢
      simp only [e0,e1,e2,e3,e4,e5,e6,e7,e8,e9,e10,e11,e12]
      clear e0 e1 e2 e3 e4 e5 e6 e7 e8 e9 e10 e11 e12
      obtain ⟨c,hc⟩ : ∃ q9:Span,q9=zFR (uTo b A kk j) (decide (0 < j)) (zQC b x kk sp.lo):=⟨_,rfl⟩
      rw [← hc]
      have Hc:=zF hc
      clear hc
      have HPR:=zF (HPR.out.ext (zE wq xq))
      clear k0 k1 k2 k3 k4 k5 kx o0 o1 s0 s1 hpl
      generalize wq.later xq=w12 at *
      have q0:=HPR.out.loop.out.cell 0 _ rfl
      have q1:=HPR.out.loop.out.cell 1 _ rfl
      have f0:=HPR.out.loop.out.frozen 0
      have f1:=HPR.out.loop.out.frozen 1
      have ql:=HPR.out.loop.out.lt
      have HPR:=zF (HPR.out.put c)
      go_step
      go_simp
      generalize (w12.setCell _ _).setCell _ _=w13 at *
      clear q0 q1 f0 f1 ql
      generalize hww:w13=wq at *
      clear hww
      go_wp2
      have hpl:=zF HPR.out.loop.below
      have k0:∀ xq,(wq.later xq).cell? ⟨w.heap.size,0,none⟩=some vr:=fun xq=>zC (zA hpl.out (zE wq xq)) HBOX.out.c0
      have k1:∀ xq,(wq.later xq).cell? ⟨w.heap.size,1,none⟩=some vn:=fun xq=>zC (zA hpl.out (zE wq xq)) HBOX.out.c1
      have k2:∀ xq,(wq.later xq).cell? ⟨w.heap.size,2,none⟩=some (.int .i64 b.of):=fun xq=>zC (zA hpl.out (zE wq xq)) HBOX.out.c2
      have k3:∀ xq,(wq.later xq).cell? ⟨w.heap.size,3,none⟩=some vm:=fun xq=>zC (zA hpl.out (zE wq xq)) HBOX.out.c3
      have k4:∀ xq,(wq.later xq).cell? ⟨w.heap.size,4,none⟩=some (.slice ah b.hs.length ch):=fun xq=>zC (zA hpl.out (zE wq xq)) HBOX.out.c4
      have k5:∀ xq,(wq.later xq).cell? ⟨w.heap.size,5,none⟩=some vz:=fun xq=>zC (zA hpl.out (zE wq xq)) HBOX.out.c5
      have kx:∀ xq,(wq.later xq).cell? ⟨gl,ol+j,none⟩=some (.slice ax x.length cx):=fun xq=>by
       have:=zC (zA hpl.out (zE wq xq)) HC.out
       rw [Nat.mul_one] at this
       exact this
      have o0:=zG (show zJ wq z 0 _ from HPR.out.loop.out.cell 0 _ rfl)
      have o1:=zG (show zJ wq z 1 _ from HPR.out.loop.out.cell 1 _ rfl)
      have s0:=zG (show zJ wq gs 0 _ from HPR.out.span.cell 0 _ rfl)
      have s1:=zG (show zJ wq gs 1 _ from HPR.out.span.cell 1 _ rfl)
      refine zK 11 (by kernel_rfl) (by kernel_rfl) ?_
      simp only [tk_]
      iterate 9 (apply gx_;focus (intro vs xq hd;(try simp [hq_] at hd);simp only [pf_];go_simp;exact ⟨br_,rfl⟩))
      refine zAE ?_
      apply Exists.intro
      refine ⟨fun vs' xq hd=>?_,?_⟩
      ·(try simp [hq_] at hd)
       simp only [pf_]
       go_simp
       refine (hcallU.out (wq.later xq) (zA hpl.out (zE wq xq)) sp.hi hsb.out.2).mono ?_
       rintro e w9 ⟨rfl,hb9⟩
       exact ⟨rfl,hb9⟩
      refine zAE ?_
      apply Exists.intro
      refine ⟨fun vs' xq hd=>?_,?_⟩
      ·(try simp [hq_] at hd)
       simp only [pf_]
       go_simp
       refine (wider08 (wq.later xq) c _ _).mono ?_
       rintro e w9 ⟨rfl,hb9⟩
       exact ⟨rfl,hb9⟩
      refine zT (by simp only [List.length_append,List.length_cons,List.length_nil]) (fun vs' xq hd=>?_)
      simp [zV,zAD,List.range,List.range.loop] at hd
      simp only [pf_]
      obtain ⟨e0,e1,e2,e3,e4,e5,e6,e7,e8,e9,e10⟩:=hd
      simp only [Nat.zero_add,Nat.reduceAdd] at e0 e1 e2 e3 e4 e5 e6 e7 e8 e9 e10 ⊢
      simp only [e0,e1,e2,e3,e4,e5,e6,e7,e8,e9,e10]
      clear e0 e1 e2 e3 e4 e5 e6 e7 e8 e9 e10
      obtain ⟨c2,hc⟩ : ∃ q9:Span,q9=zFR c true (zQC b x kk sp.hi):=⟨_,rfl⟩
      rw [← hc]
      have Hc2:=zF hc
      clear hc
      have HPR:=zF (HPR.out.ext (zE wq xq))
      clear k0 k1 k2 k3 k4 k5 kx o0 o1 s0 s1 hpl
      generalize wq.later xq=w12 at *
      have q0:=HPR.out.loop.out.cell 0 _ rfl
      have q1:=HPR.out.loop.out.cell 1 _ rfl
      have f0:=HPR.out.loop.out.frozen 0
      have f1:=HPR.out.loop.out.frozen 1
      have ql:=HPR.out.loop.out.lt
      have HPR:=zF (HPR.out.put c2)
      go_step
      go_simp
      generalize (w12.setCell _ _).setCell _ _=w13 at *
      clear q0 q1 f0 f1 ql
      go_wp2
      go_roundw
      case rel =>
       refine ⟨j+1,by go_num,by omega,zF ?_⟩
       have h9:=HPR.out.loop
       rw [Hc2.out,Hc.out] at h9
       rw [hsucc.out]
       exact h9
      case measure=>simp [intOf];omega
end
section
open Go.RowKit
def AtU8 (w:World) (b o:Nat) (x:Int) : Prop:=zJ w b o (.int .u8 x)∧U8 x
theorem stays_u8:zHU AtU8:=fun _ _ _ _ _ hb ⟨h0,h1⟩=>⟨zC hb h0,h1⟩
theorem infoU8:(prog.info? 5).map (fun i=>(i.zero,i.size,i.bytes))=some (some (.int .u8 0),1,1):=by kernel_rfl
theorem u8s_of_own {w:World} {base:Nat} {v:Value} {xs:List Int} (h:w.ownsRow base 5 1 v xs.length (xs.map (Value.int .u8))) (hI:∀ x∈xs,U8 x) : Sl AtU8 1 w v xs:=by
 have h':=h
 obtain ⟨_,h2⟩:=h
 rcases h2 with ⟨rfl,hn⟩ | ⟨g,cap,cur,rfl,_,_,hc,hcm,_⟩
 ·exact ⟨none,0,by rw [hn],by omega,fun k hk=>by omega⟩
 ·refine ⟨some ⟨g,0,none⟩,cap,rfl,by unfold maxLen at hcm;omega,fun k hk=>⟨g,0,rfl,?_,hI _ (List.getElem_mem hk)⟩⟩
  have:=h'.cells (g:=g) rfl k (.int .u8 xs[k]) (by simp [hk])
  rw [zBP] at this
  unfold zJ
  simpa using this
def zQI (A:List (List Int)) (x:Int) (k:Nat) : Nat:=((A.take k).filter fun S=>decide (x∈S)).length
theorem cntTo_succ {A:List (List Int)} {x:Int} {k:Nat} (hk:k < A.length) : zQI A x (k+1)=if x∈A[k] then zQI A x k+1 else zQI A x k:=by
 unfold zQI
 rw [List.take_succ_eq_append_getElem hk,List.filter_append,List.length_append]
 by_cases h:x∈A[k] <;> simp [h]
theorem cntTo_le (A:List (List Int)) (x:Int) (k:Nat) : zQI A x k≤k:=by
 unfold zQI
 exact Nat.le_trans (List.length_filter_le _ _) (by rw [List.length_take];omega)
def knC (A:List (List Int)) (x:Int) : Int:=if zQI A x A.length=0 then 0 else if zQI A x A.length=A.length then 2 else 1
theorem knC_u8 (A:List (List Int)) (x:Int) : U8 (knC A x):=by
 unfold knC U8
 split
 ·omega
 ·split <;> omega
def inC (x:Int) (S:List Int) : Int:=if x∈S then 1 else 0
theorem knC_span {A:List (List Int)} {x:Int} (hA:0 < A.length) :
  (zCG (A.flatMap fun S=>[inC x S])).lo+(zCG (A.flatMap fun S=>[inC x S])).hi=knC A x:=by
 have hmem:∀ y,y∈(A.flatMap fun S=>[inC x S])↔∃ S∈A,y=if x∈S then 1 else 0:=fun y=>by simp [List.mem_flatMap,inC]
 have hne:(A.flatMap fun S=>[inC x S])≠[]:=by
  intro e
  have:=(hmem _).2 ⟨A[0],List.getElem_mem hA,rfl⟩
  rw [e] at this
  exact absurd this (by simp)
 obtain ⟨h1,h2,h3⟩:=zJS hne
 have e0:zQI A x A.length=0↔∀ S∈A,x ∉ S:=by
  unfold zQI
  rw [List.take_length,List.length_eq_zero_iff,List.filter_eq_nil_iff]
  simp
 have e1:zQI A x A.length=A.length↔∀ S∈A,x∈S:=by
  unfold zQI
  rw [List.take_length,List.length_filter_eq_length_iff]
  simp
 generalize (A.flatMap fun S=>[inC x S])=L at *
 obtain ⟨S1,g1,f1⟩:=(hmem _).1 h1
 obtain ⟨S2,g2,f2⟩:=(hmem _).1 h2
 unfold knC
 by_cases a0:zQI A x A.length=0
 ·have k:=e0.1 a0
  rw [if_pos a0,f1,f2,if_neg (k _ g1),if_neg (k _ g2)]
  rfl
 ·rw [if_neg a0]
  by_cases a1:zQI A x A.length=A.length
  ·have k:=e1.1 a1
   rw [if_pos a1,f1,f2,if_pos (k _ g1),if_pos (k _ g2)]
   rfl
  ·rw [if_neg a1]
   have b0:∃ S∈A,x∈S:=by
    apply Classical.byContradiction
    intro hn
    exact a0 (e0.2 fun S hS hx=>hn ⟨S,hS,hx⟩)
   have b1:∃ S∈A,x ∉ S:=by
    apply Classical.byContradiction
    intro hn
    exact a1 (e1.2 fun S hS=>Classical.byContradiction fun hx=>hn ⟨S,hS,hx⟩)
   obtain ⟨S,hS,hx⟩:=b0
   obtain ⟨S',hS',hx'⟩:=b1
   have c1:=h3 1 ((hmem _).2 ⟨S,hS,by rw [if_pos hx]⟩)
   have c2:=h3 0 ((hmem _).2 ⟨S',hS',by rw [if_neg hx']⟩)
   unfold Span.has at c1 c2
   have d1:(zCG L).lo=0∨(zCG L).lo=1:=by rw [f1];split <;> simp
   have d2:(zCG L).hi=0∨(zCG L).hi=1:=by rw [f2];split <;> simp
   omega
theorem zRQ {N:List Note} {k:Nat} (hk:k < N.length) : zAP N (k+1)=zAP N k++(if N[k].sg=1 then [N[k].num] else []):=by
 unfold zAP
 rw [List.take_succ_eq_append_getElem hk,List.filter_append,List.map_append]
 by_cases h:N[k].sg=1 <;> simp [h]
theorem opensTo_le (N:List Note) (k:Nat) : (zAP N k).length≤k:=by
 unfold zAP
 rw [List.length_map]
 exact Nat.le_trans (List.length_filter_le _ _) (by rw [List.length_take];omega)
open Classical in
noncomputable def setC (b:Built) : Int:=if zM b≠0 then zM b else if zBH b=[] then 8 else 0
noncomputable def setL (b:Built) : List Int:=if setC b=0 then (zAP b.ns.notes b.ns.notes.length).map (knC (zBH b)) else []
theorem set_of {b:Built} {c:Int} (e:setC b=c) (hc:c≠0) : setC b=c∧setL b=[]:=⟨e,by unfold setL;rw [if_neg (by omega)]⟩
theorem set_bad {b:Built} (hv:zM b≠0) : setC b=zM b∧setL b=[]:=set_of (by unfold setC;rw [if_pos hv]) hv
theorem set_no {b:Built} (hv:zM b=0) (hl:zBH b=[]) : setC b=8∧setL b=[]:=set_of (by unfold setC;rw [if_neg (by simp [hv]),if_pos hl]) (by decide)
theorem set_ok {b:Built} (hv:zM b=0) (hl:zBH b≠[]) : setC b=0∧setL b=(zAP b.ns.notes b.ns.notes.length).map (knC (zBH b)):=by
 have e:setC b=0:=by unfold setC;rw [if_neg (by simp [hv]),if_neg hl]
 exact ⟨e,by unfold setL;rw [if_pos e]⟩
theorem sameKnown08 (w:World) (v v':Value) (xs:List Int) (hx:Sl AtU8 1 w v xs) (hy:Sl AtU8 1 w v' xs) :
  Calls prog 28 #[v,v'] w fun e w'=>e = .returned (.bool true)∧Below w.heap.size w w':=by
 obtain ⟨a,cap,rfl,hm⟩:=zD hx
 obtain ⟨a',cap',rfl,_⟩:=zD hy
 go_enter func28,ntmps28
 go_wp2
 go_loopw [5] (fun i wr=>∃ k:Nat,i = .int .i64 k∧k≤xs.length∧Below w.heap.size w wr) (fun i _=>xs.length - (intOf i).toNat)
 case atStart=>exact ⟨0,rfl,by omega,br_⟩
 case round =>
  obtain ⟨k,rfl,hk,hb⟩:=hrel
  by_cases hlt:k < xs.length
  ·have X:=(zZ (zI stays_u8 hb hx)).2 k hlt
   have Y:=(zZ (zI stays_u8 hb hy)).2 k hlt
   obtain ⟨b,off,rfl,hc,_⟩:=X
   obtain ⟨b',off',rfl,hc',_⟩:=Y
   unfold zJ at hc hc'
   rw [Nat.mul_one] at hc hc'
   generalize xs[k]=x at *
   clear hx hy
   go_wp2
   go_quiet (fail)
   go_wp2
   go_roundw
   ·exact ⟨k+1,by go_num,by omega,zA hb (zO _ _)⟩
   ·simp [intOf];omega
  ·go_wp2
   go_ret
   exact ⟨rfl,hb⟩
end
section
open Go.RowKit Go.Shelf
attribute [local go_sem] zAN Oper.grows Oper.growUpon
theorem settled08 (w:World) (vr vn vm vh vz:Value) (b:Built) (hB:BuiltAt w vr vn vm vh vz b) :
  Calls prog 27 #[.agg #[vr,vn,.int .i64 b.of,vm,vh,vz]] w fun e w'=>∃ u,e = .returned (.tuple #[u,.int .i64 (setC b)])∧Sl AtU8 1 w' u (setL b)∧Below w.heap.size w w':=by
 obtain ⟨i0,hif,iz0,iz1,iz2⟩:=info_parts infoU8
 obtain ⟨an,cn,rfl,hnm⟩:=zD hB.notes
 have hb1:=zB w (.cells #[vr,.slice an b.ns.notes.length cn,.int .i64 b.of,vm,vh,vz] 32)
 have HBOX:=zF (zHC w vr (.slice an b.ns.notes.length cn) vm vh vz b.of 32)
 have HB:=zF (hB.ext hb1)
 have HBW:=zF hb1
 clear hB hb1
 have k0:=HBOX.out.c0
 have k1:=HBOX.out.c1
 have k2:=HBOX.out.c2
 have k3:=HBOX.out.c3
 have k4:=HBOX.out.c4
 have k5:=HBOX.out.c5
 unfold zJ at k0 k1 k2 k3 k4 k5
 go_enter func27,ntmps27
 go_wp2_with fail
 clear k0 k1 k2 k3 k4 k5
 generalize w.alloc _=w1 at *
 refine (check08 _ _ _ _ _ _ b HB.out).mono ?_
 rintro e w2 ⟨rfl,hb2⟩
 have HBW:=zF (zA HBW.out hb2)
 have HBOX:=zF (HBOX.out.ext hb2)
 have HB:=zF (HB.out.ext hb2)
 clear hb2
 by_cases hv:zM b=0
 case neg =>
  have hv':(zM b != 0)=true:=by simpa using hv
  have HT:=zF (set_bad hv)
  clear hv
  go_wp2
  go_ret2
  exact ⟨_,by rw [HT.out.1];rfl,by rw [HT.out.2];exact zGS _ _ _ _ _,HBW.out⟩
 case pos =>
  have HV:=zF hv
  have hr10:b.rs.length≤10:=(zW hv).2.2.2.2.1
  have hN12:=(zAS (zW hv).1).2.1
  rw [hv]
  clear hv
  go_wp2
  have k0:=zG HBOX.out.c0
  have k1:=zG HBOX.out.c1
  have k2:=zG HBOX.out.c2
  have k3:=zG HBOX.out.c3
  have k4:=zG HBOX.out.c4
  have k5:=zG HBOX.out.c5
  refine zK 4 (by kernel_rfl) (by kernel_rfl) ?_
  simp only [tk_]
  iterate 2 (apply gx_;focus (intro vs xq hd;(try simp [hq_] at hd);simp only [pf_];go_simp;exact ⟨br_,rfl⟩))
  refine zAE ?_
  apply Exists.intro
  refine ⟨fun vs' xq hd=>?_,?_⟩
  ·(try simp [hq_] at hd)
   simp only [pf_]
   go_simp
   refine (zRE (w2.later xq) vr _ vm vh vz b.of b.rs (HB.out.ext (zE w2 xq)).rs (by omega)).mono ?_
   rintro e w9 ⟨rfl,hb9⟩
   exact ⟨rfl,hb9⟩
  refine zL (fun v w'=>Hid (zJB b (zBH b)∧(zBH b).length≤32∧Sl zKW 1 w' v (zBH b))) (fun v w w' hb h=>zF ⟨h.out.1,h.out.2.1,zI zCC hb h.out.2.2⟩) ?_ ?_
  ·intro vs xq hd
   (try simp [hq_] at hd)
   simp only [pf_]
   go_simp
   refine (truths08 (w2.later xq) vr _ vm vh vz b (HB.out.ext (zE w2 xq)) HV.out).mono ?_
   rintro e w9 ⟨u,A,rfl,hA,hl,hs,hb⟩
   have e:=zRZ hA
   exact ⟨u,rfl,hb,zF (by rw [e];exact ⟨hA,hl,hs⟩)⟩
  refine zT rfl (fun vs' xq hd=>?_)
  simp [zV,zAD,List.range,List.range.loop] at hd
  simp only [pf_]
  obtain ⟨e0,e1,e2,h3⟩:=hd
  simp only [Nat.zero_add,Nat.reduceAdd] at e0 e1 e2 ⊢
  simp only [e0,e1,e2]
  have hb2:=zE w2 xq
  have HBW:=zF (zA HBW.out hb2)
  have HBOX:=zF (HBOX.out.ext hb2)
  have HB:=zF (HB.out.ext hb2)
  clear e0 e1 e2 k0 k1 k2 k3 k4 k5 hb2
  generalize vs' 3=v3 at *
  generalize w2.later xq=w8 at *
  obtain ⟨a3,c3,rfl,_⟩:=zD h3.out.2.2
  have HA:=zF h3.out.2.2
  have hA32:=h3.out.2.1
  have HU0:Hid (zBH b=[]→setC b=8∧setL b=[]):=fun hl=>set_no HV.out hl
  have HU1:Hid (zBH b≠[]→setC b=0∧setL b=(zAP b.ns.notes b.ns.notes.length).map (knC (zBH b))):=fun hl=>set_ok HV.out hl
  clear h3
  generalize zBH b=A at *
  by_cases hl:A=[]
  case pos =>
   have HTT:=zF (HU0.out hl)
   have hl0:A.length=0:=by rw [hl];rfl
   have HL:=zF hl
   clear hl
   go_wp2
   go_ret2
   exact ⟨_,by rw [HTT.out.1];rfl,by rw [HTT.out.2];exact zGS _ _ _ _ _,HBW.out⟩
  case neg =>
   have HTT:=zF (HU1.out hl)
   have hl0:0 < A.length:=List.length_pos_iff.2 hl
   have hl1:((A.length:Int) == 0)=false:=by
    simp
    omega
   have hl2:¬ ((0:Int)=A.length):=by omega
   clear hl HU0 HU1
   have HOL:=zF (opensTo_le b.ns.notes)
   have HOS:=zF (fun k (hk:k < b.ns.notes.length)=>zRQ hk)
   go_wp2
   go_loopw [6,7] (fun q i wr=>∃ j:Nat,i = .int .i64 j∧j≤b.ns.notes.length∧Hid (wr.ownsRow w8.heap.size 5 1 q (zAP b.ns.notes j).length (((zAP b.ns.notes j).map (knC A)).map (Value.int .u8)))∧Hid (Below w8.heap.size w8 wr)) (fun _ i _=>b.ns.notes.length - (intOf i).toNat)
   case atStart=>exact ⟨0,rfl,by omega,zF (World.ownsRow_nil _ _ _ _),zF (br_)⟩
   case round =>
    obtain ⟨j,rfl,hj,HO,HB8⟩:=hrel
    have k1:=zC HB8.out HBOX.out.c1
    unfold zJ at k1
    by_cases hlt:j < b.ns.notes.length
    case neg =>
     obtain rfl:j=b.ns.notes.length:=by omega
     go_wp2
     go_ret2
     refine ⟨_,by rw [HTT.out.1];rfl,?_,zA HBW.out HB8.out⟩
     rw [HTT.out.2]
     refine u8s_of_own (by rw [List.length_map];exact HO.out) (fun y hy=>?_)
     obtain ⟨z,_,rfl⟩:=List.mem_map.1 hy
     exact knC_u8 A z
    case pos =>
     obtain ⟨g,o,rfl,⟨n0,n1,n2,n3,n4,n5,n6,n7,n8,n9⟩,-⟩:=(zZ (zI zS HB8.out HB.out.notes)).2 j hlt
     have hos:=zF (HOS.out j hlt)
     have hol:=HOL.out j
     have hkl:(j:Int) < b.ns.notes.length:=by omega
     generalize b.ns.notes[j]=x at *
     obtain ⟨num,day,sg,d,l,fr,to,ca,use,ways⟩:=x
     simp only at n0 n1 n2 n3 n4 n5 n6 n7 n8 n9 hos
     unfold zJ at n0 n1 n2 n3 n4 n5 n6 n7 n8 n9
     have hba:=zB wr (.cells #[.int .i64 num,.int .i64 day,.int .u8 sg,.int .i64 d,.int .i64 l,.int .i64 fr,.int .i64 to,.int .i64 ca,.bool use,.int .u8 ways] 147)
     have hnl:=Lay.new wr 147 #[.int .i64 num,.int .i64 day,.int .u8 sg,.int .i64 d,.int .i64 l,.int .i64 fr,.int .i64 to,.int .i64 ca,.bool use,.int .u8 ways]
     by_cases hs:sg=1
     case neg =>
      have hs':(sg != 1)=true:=by simpa using hs
      have hos2:Hid (zAP b.ns.notes (j+1)=zAP b.ns.notes j):=by unfold Hid;rw [hos.out,if_neg hs,List.append_nil]
      clear hs hos hnl
      go_wp2
      go_roundw
      ·exact ⟨j+1,by go_num,by omega,by rw [hos2.out];exact zF (zAA hba HO.out),zF (zA HB8.out hba)⟩
      ·simp [intOf];omega
     case pos =>
      subst hs
      have hos2:Hid (zAP b.ns.notes (j+1)=zAP b.ns.notes j++[num]):=by unfold Hid;rw [hos.out,if_pos rfl]
      have HBA:=zF (zA HB8.out hba)
      have HOA:=zF (zAA hba HO.out)
      have HNL:=zF hnl
      clear hos hnl hba HO HB8
      go_wp2
      clear k1 n0 n1 n2 n3 n4 n5 n6 n7 n8 n9
      generalize hgn:wr.heap.size=gn at *
      generalize wr.alloc _=wn at *
      clear hgn
      go_loopw [9,10] (fun n i wr=>∃ k:Nat,i = .int .i64 k∧k≤A.length∧n = .int .i64 (zQI A num k)∧Hid (Below wn.heap.size wn wr)) (fun _ i _=>A.length - (intOf i).toNat)
      case atStart=>exact ⟨0,rfl,by omega,rfl,zF (br_)⟩
      case round =>
       obtain ⟨k,rfl,hk,rfl,HBN⟩:=hrel
       by_cases hlk:k < A.length
       case pos =>
        obtain ⟨gl,ol,rfl,vx,hcx,hx⟩:=(zZ (zI zCC (zA HBA.out HBN.out) HA.out)).2 k hlk
        obtain ⟨ax,cx,rfl,_⟩:=zD hx
        rw [Nat.mul_one] at hcx
        have q0:=zG hcx
        have q1:=zG (zC HBN.out (HNL.out.cell 0 _ rfl))
        have hc:=cntTo_succ (x:=num) hlk
        have hle:=cntTo_le A num k
        have hkk:(k:Int) < A.length:=by omega
        have HX:=zF hx
        have HC:=zF hc
        clear hx hcx hc
        generalize A[k]=S at *
        by_cases hm:num∈S
        ·have hi:=idxI_in S num hm
         have hc2:Hid (zQI A num (k+1)=zQI A num k+1):=by unfold Hid;rw [HC.out,if_pos hm]
         clear hm HC
         go_wp2
         refine zAW (by kernel_rfl) (by kernel_rfl) (no_implicit_lambda% ?_)
         repeat ((with_reducible refine wpQuiet_step (fun K hK=>?_));go_simp;first | ((with_reducible refine hK _ ?_);clear hK K) | (refine hK _ (no_implicit_lambda% ?_);clear hK K) | (apply Exists.intro;(with_reducible refine ⟨fun _=>?_,hK _ ?_⟩);((go_at_call 80;exact Calls.quiet_later ((zLY _ _ S num (zI zN (zE _ _) HX.out)).mono fun e w' h=>⟨h.1,by rw [← h.2];exact br_⟩)));clear hK K))
         with_reducible refine wpQuiet_nil ?_
         intro _ hw9
         obtain ⟨xq,hw8⟩:=hw9
         subst hw8
         clear q0 q1
         go_wp2
         go_roundw
         ·exact ⟨k+1,by go_num,by omega,by rw [hc2.out];go_num,zF (zA HBN.out (zE _ _))⟩
         ·simp [intOf];omega
        ·have hi:=zPJ S num hm
         have hi2:¬ (0≤zJA S num):=by omega
         have hc2:Hid (zQI A num (k+1)=zQI A num k):=by unfold Hid;rw [HC.out,if_neg hm]
         clear hm HC
         go_wp2
         refine zAW (by kernel_rfl) (by kernel_rfl) (no_implicit_lambda% ?_)
         repeat ((with_reducible refine wpQuiet_step (fun K hK=>?_));go_simp;first | ((with_reducible refine hK _ ?_);clear hK K) | (refine hK _ (no_implicit_lambda% ?_);clear hK K) | (apply Exists.intro;(with_reducible refine ⟨fun _=>?_,hK _ ?_⟩);((go_at_call 80;exact Calls.quiet_later ((zLY _ _ S num (zI zN (zE _ _) HX.out)).mono fun e w' h=>⟨h.1,by rw [← h.2];exact br_⟩)));clear hK K))
         with_reducible refine wpQuiet_nil ?_
         intro _ hw9
         obtain ⟨xq,hw8⟩:=hw9
         subst hw8
         clear q0 q1
         go_wp2
         go_roundw
         ·exact ⟨k+1,by go_num,by omega,by rw [hc2.out],zF (zA HBN.out (zE _ _))⟩
         ·simp [intOf];omega
       case neg =>
        obtain rfl:k=A.length:=by omega
        have hkn:Hid (knC A num=if zQI A num A.length=0 then 0 else if zQI A num A.length=A.length then 2 else 1):=rfl
        have HB9:=zF (zA HBA.out HBN.out)
        have HO9:=zF (zAA HBN.out HOA.out)
        have hsz:=HB9.out.size
        have hle:=cntTo_le A num A.length
        clear HBN HOA
        by_cases c0:zQI A num A.length=0
        ·have hkv:knC A num=0:=by rw [hkn.out,if_pos c0]
         rw [c0]
         have HK:=zF hkv
         clear hkv hkn c0
         go_wp2_with (at_builtin;refine wpList_append_own _ rfl _ _ 70 rfl w8.heap.size 5 i0 (.int .u8 0) 1 1 underlying70 hif iz0 iz1 iz2 rfl (by decide) _ _ _ rfl (HO9.out.alloc _) ⟨wr.heap.size,0,none⟩ 1 1 [.int .u8 0] rfl rfl (cell_one_new _ _ _) (by simp [Value.oneCell']) (by unfold maxLen;omega) (by omega) (by simp;omega) ?_;intro v' w4 hown' hgrow _)
         have hb4:=(HB9.out.alloc HB9.out.size (.cells #[.int .u8 0] 5)).grown hgrow (by simp;omega) (fun k e=>(HO9.out.lt k e).1)
         go_wp2
         go_roundw
         ·exact ⟨j+1,by go_num,by omega,by rw [hos2.out,List.map_append,List.map_append,List.length_append,List.map_singleton,List.map_singleton,HK.out];exact zF hown',zF hb4⟩
         ·simp [intOf];omega
        ·have c0':¬ ((zQI A num A.length:Int)=0):=by omega
         by_cases c1:zQI A num A.length=A.length
         ·have hkv:knC A num=2:=by rw [hkn.out,if_neg c0,if_pos c1]
          rw [c1]
          have HK:=zF hkv
          clear hkv hkn c0 c1 c0'
          go_wp2_with (at_builtin;refine wpList_append_own _ rfl _ _ 70 rfl w8.heap.size 5 i0 (.int .u8 0) 1 1 underlying70 hif iz0 iz1 iz2 rfl (by decide) _ _ _ rfl (HO9.out.alloc _) ⟨wr.heap.size,0,none⟩ 1 1 [.int .u8 2] rfl rfl (cell_one_new _ _ _) (by simp [Value.oneCell']) (by unfold maxLen;omega) (by omega) (by simp;omega) ?_;intro v' w4 hown' hgrow _)
          have hb4:=(HB9.out.alloc HB9.out.size (.cells #[.int .u8 2] 5)).grown hgrow (by simp;omega) (fun k e=>(HO9.out.lt k e).1)
          go_wp2
          go_roundw
          ·exact ⟨j+1,by go_num,by omega,by rw [hos2.out,List.map_append,List.map_append,List.length_append,List.map_singleton,List.map_singleton,HK.out];exact zF hown',zF hb4⟩
          ·simp [intOf];omega
         ·have c1':¬ ((zQI A num A.length:Int)=A.length):=by omega
          have hkv:knC A num=1:=by rw [hkn.out,if_neg c0,if_neg c1]
          have HK:=zF hkv
          clear hkv hkn c0 c1
          go_wp2_with (at_builtin;refine wpList_append_own _ rfl _ _ 70 rfl w8.heap.size 5 i0 (.int .u8 0) 1 1 underlying70 hif iz0 iz1 iz2 rfl (by decide) _ _ _ rfl (HO9.out.alloc _) ⟨wr.heap.size,0,none⟩ 1 1 [.int .u8 1] rfl rfl (cell_one_new _ _ _) (by simp [Value.oneCell']) (by unfold maxLen;omega) (by omega) (by simp;omega) ?_;intro v' w4 hown' hgrow _)
          have hb4:=(HB9.out.alloc HB9.out.size (.cells #[.int .u8 1] 5)).grown hgrow (by simp;omega) (fun k e=>(HO9.out.lt k e).1)
          go_wp2
          go_roundw
          ·exact ⟨j+1,by go_num,by omega,by rw [hos2.out,List.map_append,List.map_append,List.length_append,List.map_singleton,List.map_singleton,HK.out];exact zF hown',zF hb4⟩
          ·simp [intOf];omega
end
section
def LeL (a b:List Int) : Prop:=zIP b a=false
theorem zQV (a:List Int) : LeL a a:=befL_irr a
theorem leL_of {a b:List Int} (h:zIP a b=true) : LeL a b:=befL_asy a b h
theorem leL_anti {a b:List Int} (h:LeL a b) (h2:LeL b a) : a=b:=zSC a b h2 h
theorem leL_tr {a b c:List Int} (h:LeL a b) (h2:LeL b c) : LeL a c:=by
 cases h3:zIP a b with
 | false=>rw [leL_anti h h3];exact h2
 | true =>
   cases h4:zIP b c with
   | false=>rw [← leL_anti h2 h4];exact h
   | true=>exact befL_asy _ _ (befL_tr a b c h3 h4)
theorem rise_len {a b:List Int} (ha:a.Pairwise (· < ·)) (h:∀ x∈a,x∈b) : a.length≤b.length:=List.Nodup.length_le_of_subset (zHT ha) h
theorem leL_sub {a b:List Int} (ha:a.Pairwise (· < ·)) (hb:b.Pairwise (· < ·)) (h:∀ x∈a,x∈b) : LeL a b:=by
 have hl:=rise_len ha h
 unfold LeL zIP
 by_cases e:b.length=a.length
 ·have:a=b:=zQU ha hb (fun x=>⟨h x,fun hx=>by
   apply Classical.byContradiction
   intro hn
   have h2:∀ y∈x :: a,y∈b:=fun y hy=>by
    rcases List.mem_cons.1 hy with rfl | hy
    ·exact hx
    ·exact h y hy
   have h3:=List.Nodup.length_le_of_subset (List.nodup_cons.2 ⟨hn,zHT ha⟩) h2
   rw [List.length_cons] at h3
   omega⟩)
  rw [if_pos e,this]
  exact zSB _
 ·rw [if_neg e]
  simp
  omega
theorem lex_mix:∀ (O:List Int) (p q c:Int→Bool),O.Pairwise (· < ·)→(∀ x∈O,c x=false→p x=q x)→(O.filter fun x=>q x && c x).length=(O.filter fun x=>p x && c x).length →
  zQY (O.filter fun x=>q x && c x) (O.filter fun x=>p x && c x)=false→zQY (O.filter q) (O.filter p)=false
 | [],_,_,_,_,_,_,_=>rfl
 | x :: O,p,q,c,hO,h,hl,hx=>by
   obtain ⟨hO1,hO2⟩:=List.pairwise_cons.1 hO
   have ih:=lex_mix O p q c hO2 (fun y hy=>h y (List.mem_cons_of_mem _ hy))
   have h0:=h x (List.mem_cons_self ..)
   simp only [List.filter_cons] at hl hx ⊢
   cases hc:c x with
   | false =>
     simp only [hc,Bool.and_false,Bool.false_eq_true,if_false] at hl hx
     rw [← h0 hc]
     cases hp:p x
     ·simpa using ih hl hx
     ·simp only [if_true,zQY]
      exact ih hl hx
   | true =>
     simp only [hc,Bool.and_true] at hl hx
     cases hp:p x <;> cases hq:q x <;> simp only [hp,hq,if_true,if_false,Bool.false_eq_true] at hl hx ⊢
     ·exact ih hl hx
     ·cases he:O.filter fun x=>p x && c x with
      | nil=>rw [he] at hl;simp at hl
      | cons y r =>
        have hy:y∈O:=(List.mem_filter.1 (show y∈O.filter fun x=>p x && c x by rw [he];exact List.mem_cons_self ..)).1
        have:=hO1 y hy
        rw [he] at hx
        simp only [zQY] at hx
        rw [if_neg (by omega)] at hx
        simp at hx
        omega
     ·cases he:O.filter q with
      | nil=>rfl
      | cons y r =>
        have hy:y∈O:=(List.mem_filter.1 (show y∈O.filter q by rw [he];exact List.mem_cons_self ..)).1
        have:=hO1 y hy
        simp only [zQY]
        rw [if_neg (by omega)]
        simp
        omega
     ·simp only [zQY,if_true] at hx ⊢
      exact ih (by simpa using hl) hx
theorem filt_is {O a:List Int} (hO:O.Pairwise (· < ·)) (ha:a.Pairwise (· < ·)) (h:∀ x∈a,x∈O) (c:Int→Bool) : (O.filter fun x=>decide (x∈a) && c x)=a.filter c :=
 zQU (hO.filter _) (ha.filter _) (fun x=>by
  rw [List.mem_filter,List.mem_filter]
  simp only [Bool.and_eq_true,decide_eq_true_eq]
  exact ⟨fun h=>h.2,fun hx=>⟨h x hx.1,hx⟩⟩)
theorem len_parts (a:List Int) (c:Int→Bool) : a.length=(a.filter c).length+(a.filter fun x=>!c x).length:=by
 induction a with
 | nil=>rfl
 | cons x a ih =>
   simp only [List.filter_cons,List.length_cons]
   cases c x <;> simp <;> omega
theorem leL_mix {O a b:List Int} (hO:O.Pairwise (· < ·)) (ha:IsT O a) (hb:IsT O b) (c:Int→Bool) (h:∀ x,c x=false→(x∈a↔x∈b)) (hc:LeL (a.filter c) (b.filter c)) : LeL a b:=by
 have e1:=len_parts a c
 have e2:=len_parts b c
 have e3:(a.filter fun x=>!c x)=b.filter fun x=>!c x:=zQU (ha.1.filter _) (hb.1.filter _) (fun x=>by
  rw [List.mem_filter,List.mem_filter]
  simp only [Bool.not_eq_true']
  exact ⟨fun ⟨h1,h2⟩=>⟨(h x h2).1 h1,h2⟩,fun ⟨h1,h2⟩=>⟨(h x h2).2 h1,h2⟩⟩)
 rw [e3] at e1
 unfold LeL zIP at *
 by_cases e:(b.filter c).length=(a.filter c).length
 ·rw [if_pos e] at hc
  rw [if_pos (by omega)]
  have fa:=filt_is hO ha.1 ha.2
  have fb:=filt_is hO hb.1 hb.2
  have key:=lex_mix O (fun x=>decide (x∈a)) (fun x=>decide (x∈b)) c hO (fun x _ hx=>by simp only [h x hx]) (by rw [fa c,fb c];exact e) (by rw [fa c,fb c];exact hc)
  have ta:=fa (fun _=>true)
  have tb:=fb (fun _=>true)
  have hid:∀ l:List Int,l.filter (fun _=>true)=l:=fun l=>by rw [List.filter_eq_self];intro _ _;rfl
  simp only [Bool.and_true,hid] at ta tb
  rw [ta,tb] at key
  exact key
 ·rw [if_neg e] at hc
  rw [if_neg (by omega)]
  simp at hc ⊢
  omega
def Built.but (b:Built) (l:List Int) : Built:={ b with rs:=b.rs.filter fun r=>decide (r.num ∉ l) }
def zQN (b:Built) : List Int:=b.rs.map (·.num)
theorem zQG {b:Built} (h:zM b=0) : (zQN b).Pairwise (· < ·):=by
 unfold zQN
 rw [List.pairwise_map,List.pairwise_iff_getElem]
 have key:∀ d i,(hd:i+d+1 < b.rs.length)→(b.rs[i]'(by omega)).num < b.rs[i+d+1].num:=by
  intro d
  induction d with
  | zero =>
    intro i hd
    have:=((zW h).2.2.2.2.2.2.2 (i+1) hd hd).2 (by omega)
    simpa using this
  | succ d ih =>
    intro i hd
    have h1:=ih i (by omega)
    have h2:=((zW h).2.2.2.2.2.2.2 (i+d+1+1) hd hd).2 (by omega)
    simp only [Nat.add_sub_cancel] at h2
    have h3:i+(d+1)+1=i+d+1+1:=by omega
    simp only [h3]
    omega
 intro i j hi hj hij
 obtain ⟨d,rfl⟩ : ∃ d,j=i+d+1:=⟨j - i - 1,by omega⟩
 exact key d i hj
theorem befTo_rs (b:Built) (rs:List Report) (S:List Int) (k i:Nat) : zES { b with rs:=rs } S k i=zES b S k i:=by
 induction i with
 | zero=>rfl
 | succ i ih=>simp only [zES,ih];rfl
theorem befR_rs (b:Built) (rs:List Report) (S:List Int) (r:Report) : zLZ { b with rs:=rs } S r=zLZ b S r:=by
 unfold zLZ
 rw [befTo_rs]
 rfl
theorem zQZ (b:Built) (rs:List Report) (S:List Int) (k n:Int) (r:Report) : zNY { b with rs:=rs } S k n r↔zNY b S k n r:=by
 unfold zNY
 rw [befR_rs]
 exact Iff.rfl
open Classical in
noncomputable def zQB (b:Built) (S:List Int) (k n:Int) : List Int:=(b.rs.filter fun r=>decide (zNY b S k n r)).map (·.num)
theorem zQJ {b:Built} {S:List Int} {k n x:Int} : x∈zQB b S k n↔∃ r∈b.rs,zNY b S k n r∧r.num=x:=by
 unfold zQB
 rw [List.mem_map]
 simp only [List.mem_filter,decide_eq_true_eq,and_assoc]
theorem zQF {b:Built} (h:zM b=0) (S:List Int) (k n:Int) : IsT (zQN b) (zQB b S k n):=by
 refine ⟨?_,fun x hx=>?_⟩
 ·have:=zQG h
  unfold zQN at this
  unfold zQB
  rw [List.pairwise_map] at this ⊢
  exact this.filter _
 ·obtain ⟨r,hr,_,rfl⟩:=zQJ.1 hx
  exact List.mem_map_of_mem hr
theorem rep_eq {b:Built} (h:zM b=0) {r r':Report} (hr:r∈b.rs) (hr':r'∈b.rs) (e:r.num=r'.num) : r=r':=by
 obtain ⟨i,hi,rfl⟩:=List.getElem_of_mem hr
 obtain ⟨j,hj,rfl⟩:=List.getElem_of_mem hr'
 have h1:=List.pairwise_iff_getElem.1 (zQG h)
 have:i=j:=by
  unfold zQN at h1
  simp only [List.length_map,List.getElem_map] at h1
  rcases Nat.lt_trichotomy i j with h2 | h2 | h2
  ·have:=h1 i j hi hj h2;omega
  ·exact h2
  ·have:=h1 j i hj hi h2;omega
 subst this
 rfl
theorem zQS {b:Built} (h:zM b=0) {S:List Int} {k k' n n' x:Int} (h1:x∈zQB b S k n) (h2:x∈zQB b S k' n') : k=k':=by
 obtain ⟨r,hr,hf,rfl⟩:=zQJ.1 h1
 obtain ⟨r',hr',hf',e⟩:=zQJ.1 h2
 rw [← rep_eq h hr hr' e.symm] at hf'
 exact hf.1.symm.trans hf'.1
theorem left_but {b:Built} {S l:List Int} : zII (b.but l) S↔(∀ k (hk:k < b.hs.length),∃ n,(b.hs[k].lo≤n∧n≤b.hs[k].hi)∧∀ x∈zQB b S k n,x∈l)∧∀ x∈zQB b S (-1) 0,x∈l:=by
 have key:∀ k n:Int,(∀ r∈(b.but l).rs,¬ zNY (b.but l) S k n r)↔∀ x∈zQB b S k n,x∈l:=fun k n=>by
  constructor
  ·intro hf x hx
   obtain ⟨r,hr,hF,rfl⟩:=zQJ.1 hx
   apply Classical.byContradiction
   intro hn
   exact hf r (List.mem_filter.2 ⟨hr,by simpa using hn⟩) ((zQZ b _ S k n r).2 hF)
  ·intro hf r hr hF
   obtain ⟨h1,h2⟩:=List.mem_filter.1 hr
   exact absurd (hf _ (zQJ.2 ⟨r,h1,(zQZ b _ S k n r).1 hF,rfl⟩)) (by simpa using h2)
 unfold zII
 refine and_congr (forall_congr' fun k=>?_) (key _ _)
 refine forall_congr' fun hk=>?_
 have hk':k < b.hs.length:=hk
 unfold zGB
 rw [show (b.but l).hs[k]? = some b.hs[k] from List.getElem?_eq_getElem hk']
 simp only [Option.elim]
 cases hh:hull (fun n=>∀ r∈(b.but l).rs,¬ zNY (b.but l) S k n r) b.hs[k].lo (b.hs[k].hi - b.hs[k].lo+1).toNat with
 | none =>
   refine ⟨fun h=>absurd rfl h,fun ⟨n,hn,h⟩=>?_⟩
   exact absurd ((key k n).2 h) (hull_none hh n hn.1 (by omega))
 | some s =>
   obtain ⟨a1,a2,a3,a4,_⟩:=zQW hh
   exact ⟨fun _=>⟨s.lo,⟨a1,by omega⟩,(key k s.lo).1 a4⟩,fun _=>by simp⟩
def Outs (b:Built) (l:List Int) : Prop:=IsT (zQN b) l∧∃ S,IsT (zCA b.ns.notes) S∧zII (b.but l) S
def IsWd (b:Built) (l:List Int) : Prop:=Outs b l∧∀ l',Outs b l'→LeL l l'
theorem IsWd.eq {b:Built} {l l':List Int} (h:IsWd b l) (h':IsWd b l') : l=l':=leL_anti (h.2 _ h'.1) (h'.2 _ h.1)
structure IsBrk (b:Built) (S:List Int) (m:Nat) (nn:Nat→Int) (l:List Int) : Prop where
 best:∀ k (hk:k < b.hs.length),k < m→(b.hs[k].lo≤nn k∧nn k≤b.hs[k].hi)∧∀ n,b.hs[k].lo≤n→n≤b.hs[k].hi→LeL (zQB b S k (nn k)) (zQB b S k n)
 rise:l.Pairwise (· < ·)
 mem:∀ x,x∈l↔x∈zQB b S (-1) 0∨∃ k,k < m∧x∈zQB b S k (nn k)
theorem IsBrk.is {b:Built} (h:zM b=0) {S l:List Int} {nn:Nat→Int} (hB:IsBrk b S b.hs.length nn l) : IsT (zQN b) l∧zII (b.but l) S∧∀ l',IsT (zQN b) l'→zII (b.but l') S→LeL l l':=by
 have hT:IsT (zQN b) l:=⟨hB.rise,fun x hx=>by
  rcases (hB.mem x).1 hx with hx | ⟨k,_,hx⟩
  ·exact (zQF h S _ _).2 x hx
  ·exact (zQF h S _ _).2 x hx⟩
 refine ⟨hT,left_but.2 ⟨fun k hk=>⟨nn k,(hB.best k hk hk).1,fun x hx=>(hB.mem x).2 (.inr ⟨k,hk,hx⟩)⟩,fun x hx=>(hB.mem x).2 (.inl hx)⟩,fun l' hl' hL=>?_⟩
 obtain ⟨h1,h2⟩:=left_but.1 hL
 have hm:∃ mm:Nat→Int,∀ k (hk:k < b.hs.length),(b.hs[k].lo≤mm k∧mm k≤b.hs[k].hi)∧∀ x∈zQB b S k (mm k),x∈l':=by
  refine ⟨fun k=>if hk:k < b.hs.length then (h1 k hk).choose else 0,fun k hk=>?_⟩
  simp only [dif_pos hk]
  exact (h1 k hk).choose_spec
 obtain ⟨mm,hm⟩:=hm
 have hrn:=zQG h
 classical

 let u:Nat→List Int:=fun j=>(zQN b).filter fun x=>decide (x∈zQB b S (-1) 0∨∃ k,k < b.hs.length∧x∈zQB b S k (if k < j then mm k else nn k))
 have hu:∀ j x,x∈u j↔x∈zQB b S (-1) 0∨∃ k,k < b.hs.length∧x∈zQB b S k (if k < j then mm k else nn k):=fun j x=>by
  simp only [u,List.mem_filter,decide_eq_true_eq]
  refine ⟨fun hx=>hx.2,fun hx=>⟨?_,hx⟩⟩
  rcases hx with hx | ⟨k,_,hx⟩
  ·exact (zQF h S _ _).2 x hx
  ·exact (zQF h S _ _).2 x hx
 have huT:∀ j,IsT (zQN b) (u j):=fun j=>⟨hrn.filter _,fun x hx=>(List.mem_filter.1 hx).1⟩
 have hu0:u 0=l:=zQU (huT 0).1 hB.rise (fun x=>by rw [hu,hB.mem];simp)
 have hstep:∀ j,j < b.hs.length→LeL (u j) (u (j+1)):=fun j hj=>by
  have hin:∀ i x,x∈u i→(∃ n,x∈zQB b S j n)→x∈zQB b S j (if j < i then mm j else nn j):=fun i x hx ⟨n,hn⟩=>by
   rcases (hu i x).1 hx with hx | ⟨k,_,hx⟩
   ·have:=zQS h hx hn;omega
   ·have e:k=j:=by have:=zQS h hx hn;omega
    subst e
    exact hx
  have hf:∀ i,(u i).filter (fun x=>decide (∃ n,x∈zQB b S j n))=zQB b S j (if j < i then mm j else nn j):=fun i =>
   zQU ((huT i).1.filter _) (zQF h S _ _).1 (fun x=>by
    rw [List.mem_filter]
    simp only [decide_eq_true_eq]
    exact ⟨fun ⟨h1,h2⟩=>hin i x h1 h2,fun hx=>⟨(hu i x).2 (.inr ⟨j,hj,hx⟩),_,hx⟩⟩)
  refine leL_mix hrn (huT j) (huT (j+1)) (fun x=>decide (∃ n,x∈zQB b S j n)) (fun x hx=>?_) ?_
  ·have hx':¬ ∃ n,x∈zQB b S j n:=by simpa using hx
   rw [hu,hu]
   refine or_congr Iff.rfl (exists_congr fun k=>and_congr_right fun _=>?_)
   by_cases e:k=j
   ·subst e
    exact ⟨fun hx=>absurd ⟨_,hx⟩ hx',fun hx=>absurd ⟨_,hx⟩ hx'⟩
   ·by_cases e2:k < j
    ·rw [if_pos e2,if_pos (by omega)]
    ·rw [if_neg e2,if_neg (by omega)]
  ·rw [hf,hf,if_neg (by omega),if_pos (by omega)]
   exact (hB.best j hj hj).2 _ (hm j hj).1.1 (hm j hj).1.2
 have hall:∀ j,j≤b.hs.length→LeL l (u j):=by
  intro j
  induction j with
  | zero=>intro _;rw [hu0];exact zQV _
  | succ j ih=>intro hj;exact leL_tr (ih (by omega)) (hstep j (by omega))
 refine leL_tr (hall _ (Nat.le_refl _)) (leL_sub (huT _).1 hl'.1 fun x hx=>?_)
 rcases (hu _ x).1 hx with hx | ⟨k,hk,hx⟩
 ·exact h2 x hx
 ·rw [if_pos hk] at hx
  exact (hm k hk).2 x hx
theorem isWd_of {b:Built} (h:zM b=0) {l:List Int} (h1:∃ S,IsT (zCA b.ns.notes) S∧∃ nn,IsBrk b S b.hs.length nn l) (h2:∀ S,IsT (zCA b.ns.notes) S→∃ l' nn,IsBrk b S b.hs.length nn l'∧LeL l l') : IsWd b l:=by
 obtain ⟨S,hS,nn,hB⟩:=h1
 obtain ⟨a1,a2,_⟩:=hB.is h
 refine ⟨⟨a1,S,hS,a2⟩,fun l' ⟨hl',S',hS',hL⟩=>?_⟩
 obtain ⟨l2,nn2,hB2,hle⟩:=h2 S' hS'
 exact leL_tr hle ((hB2.is h).2.2 l' hl' hL)
end
section
open Go.RowKit
section
variable {P:Program} {Q:Exit→Act→World→Prop}
theorem zRY {l n:Nat} {f:FuncId} {args:Array Value} {w:World} {R:Ending→World→Prop} (h:Calls P f args w R) : CallsIn (Fence.wide.inRound l) n P f args w R:=CallsIn.inRound l (callsIn_wide.2 h)
theorem wpOpIn_of {ops:Array Oper} {l n i:Nat} {a:Act} {w:World} {K K':Act→World→Prop} (hQ:¬ LetsOut Q) (hr:∀ o∈ops,∀ c,o.op ≠ .defer c) (hK:∀ a w,K a w→K' a w) (h:wpOp P ops Q i K a w) :
  wpOpIn (Fence.wide.inRound l) n P ops Q i K' a w:=by
 unfold wpOp at h
 unfold wpOpIn
 cases ho:ops[i]? with
 | none=>rw [ho] at h;exact hK _ _ h
 | some o =>
   rw [ho] at h
   simp only at h ⊢
   have hm:=hr o (Array.mem_of_getElem? ho)
   by_cases hw:Region.wanted o (yielded ops a.tmps)=true
   ·rw [if_pos hw] at h ⊢
    rcases h with h | h
    ·refine ⟨fun _ _=>trivial,?_⟩
     rw [show (Fence.wide.inRound l).round=some l from rfl,Oper.semAt_some l _ o hm]
     unfold Oper.wp at h
     generalize (execOp a.eval o).run P w=r at *
     cases r with
     | ok x w' =>
       cases x <;> simp only [Oper.upon,Oper.uponIn] at h ⊢ <;>
        first
         | exact hK _ _ h
         | exact ⟨(fun hd=>by cases hd),zRY (Calls.mono h (fun e w'' he=>by cases e <;> first | exact hK _ _ he | exact he))⟩
         | exact ⟨(fun hd=>by cases hd),fun c cs _=>let ⟨v,w',r,s⟩:=h c cs;⟨v,w',hK _ _ r,stepsIn_wide.2 s⟩⟩
     | halt x w'=>cases x <;> simp only [Oper.upon,Oper.uponIn] at h ⊢ <;> exact h
    ·exact absurd h.2 hQ
   ·rw [if_neg hw] at h ⊢
    exact ⟨fun _ _=>trivial,hK _ _ h⟩
theorem anyIn_of {ops:Array Oper} {l n:Nat} {md:Region.Mode} (hQ:¬ LetsOut Q) (hr:∀ o∈ops,∀ c,o.op ≠ .defer c) : ∀ (fuel:Nat) (L:Array Bool) (a:Act) (w:World),wpAny P md ops Q fuel L a w→wpAnyIn (Fence.wide.inRound l) n P md ops Q fuel L a w:=by
 intro fuel
 induction fuel with
 | zero=>exact fun L a w h=>h
 | succ fuel ih=>exact fun L a w h=>⟨h.1,fun i hi=>wpOpIn_of hQ hr (ih _) (h.2 i hi)⟩
theorem zRD {ops:List Oper} {l n id:Nat} {a0:Act} {w0:World} (m:Nat) (hQ:¬ LetsOut Q) (hr:ops.all (fun o=>match o.op with | .defer _=>false | _=>true)=true) (hm:P.follows .mixedOrders=true) (hB:zHZ ops m=true)
  (h:zFB P ops.toArray (ops.take m) a0 w0 (fun Hs=>∀ vs w,Below w0.heap.size w0 w→(∀ i,i < m→zAD Hs i (vs i) w)→wpList P ops.toArray Q (ops.drop m) (zY vs (ops.take m) 0 a0) w) (ops.take m) []) :
  (Code.region id ops.toArray true).wpIn (Fence.wide.inRound l) n P Q a0 w0:=by
 refine wpIn_region_any hm (anyIn_of hQ (fun o ho c hc=>by have:=List.all_eq_true.1 hr o (by simpa using ho);rw [hc] at this;cases this) _ _ _ _ ?_)
 have hml:=zPU hB
 obtain ⟨Hs,hH,hst,_,hstep⟩:=zLP (fun i o ho=>zDZ hB ho) (ops.take m) [] (fun R hR=>by simp at hR) (fun i=>by simp) (by simp;omega) h
 simp only [List.nil_append] at hH hst hstep
 obtain ⟨vs,hvs⟩:=zMA (ops.take m) 0 a0
 refine grow_any hB (zAD Hs) (fun i=>?_) (fun i o hi ho=>hstep i o (Nat.zero_le _) hi ho) hH _ _ _ _ (by simp) ?_ (fun j _=>?_) ?_ ⟨vs,hvs.symm,⟨rfl,rfl,rfl,Nat.le_refl _,fun _ _=>rfl⟩,fun i hi hli=>?_⟩
 ·unfold zAD
  cases hh:Hs[i]? with
  | none=>exact fun _ _ _ _ h=>h
  | some R=>exact hst R (List.mem_of_getElem? hh)
 ·intro i o hi
  rw [zEA] at hi
  cases hi
 ·exact zEA _ _
 ·simpa using zKE ops.length ops.length
 ·rw [zEA] at hli
  cases hli
end
end
section
open Go.RowKit
attribute [local go_sem] zAN Oper.grows Oper.growUpon
def OwnL (w:World) (base:Nat) (v:Value) (L:List Int) : Prop:=w.ownsRow base 3 1 v L.length (L.map (Value.int .i64))∧∀ x∈L,I64 x
theorem OwnL.sl {w:World} {base:Nat} {v:Value} {L:List Int} (h:OwnL w base v L) : Sl zAJ 1 w v L:=zBG h.1 h.2
theorem OwnL.ext {w w':World} {base:Nat} {v:Value} {L:List Int} (hb:Below w.heap.size w w') (h:OwnL w base v L) : OwnL w' base v L:=⟨zAA hb h.1,h.2⟩
def zQD (B:Nat→Bool) (ms:List Int) (rs:List Report) (X:List Has) (T:List (List Int)) (hp n:Int) (i:Nat) : Prop:=B i=true∧zET ms rs X T hp n i
theorem fails08s (w:World) (vr vn vm vh vs vp vt:Value) (o:Int) (ms:List Int) (rs:List Report) (X:List Has) (T:List (List Int)) (hms:Sl zAJ 1 w vm ms) (hrs:Sl zDD 5 w vs rs) (hV:ViewAt w vp vt X T) (hO:ViewOk ms rs X T) (hr10:rs.length≤10)
  (s:Int) (B:Nat→Bool) (hs:∀ k,k < rs.length→bits BinOp.and IntKind.i64 (s / 2 ^ k) 1=if B k=true then 1 else 0) (hp n:Int) (hn:0≤n∧n≤200) :
  Calls prog 107 #[.agg #[vr,vn,.int .i64 o,vm,vh,vs],.agg #[vp,vt],.int .i64 s,.int .i64 hp,.int .i64 n] w fun e w' =>
   ∃ u,e = .returned u∧(∃ base,w.heap.size≤base∧OwnL w' base u (zCR (zQD B ms rs X T hp n) rs rs.length))∧Below w.heap.size w w':=by
 obtain ⟨i0,hi,hz0,hz1,hz2⟩:=info_parts zDM
 obtain ⟨hb1,B1,B2⟩:=zDY w #[vr,vn,.int .i64 o,vm,vh,vs] #[vp,vt] 32 130
 have hb0:=B1 0 vr rfl
 have hb1':=B1 1 vn rfl
 have hb2:=B1 2 (.int .i64 o) rfl
 have hb3:=B1 3 vm rfl
 have hb4:=B1 4 vh rfl
 have hb5:=B1 5 vs rfl
 have d0:=B2 0 vp rfl
 have d1:=B2 1 vt rfl
 clear B1 B2
 have CA:=zF (And.intro hb0 (And.intro hb1' (And.intro hb2 (And.intro hb3 (And.intro hb4 (And.intro hb5 (And.intro d0 d1)))))))
 clear hb0 hb1' hb2 hb3 hb4 hb5 d0 d1
 obtain ⟨az,capz,rfl,hmz⟩:=zD hrs
 obtain ⟨ap,capp,rfl,_⟩:=zD hV.reports
 have hms1:=zF (zI zN hb1 hms)
 have hrs1:=zF (zI zAV hb1 hrs)
 have hV1:=zF (hV.ext hb1)
 have HO:=zF hO
 have hNum:Hid (∀ x∈rs,I64 x.num):=fun x hx=>by
  obtain ⟨k,hk,rfl⟩:=List.getElem_of_mem hx
  obtain ⟨_,_,_,_,hr⟩:=(zZ hrs).2 k hk
  exact hr.1
 have HPL:=zF hO.len
 clear hms hrs hV hO
 have hwl:w.heap.size+1 < ((w.alloc (.cells #[vr,vn,.int .i64 o,vm,vh,.slice az rs.length capz] 32)).alloc (.cells #[.slice ap X.length capp,vt] 130)).heap.size:=by simp
 go_enter func107,ntmps107
 go_wp2
 generalize (w.alloc _).alloc _=w1 at *
 have HB1:=zF hb1
 clear hb1
 go_loopw [11,12] (fun q i wr=>∃ k:Nat,i = .int .i64 k∧k≤rs.length∧wr.ownsRow w1.heap.size 3 1 q (zCR (zQD B ms rs X T hp n) rs k).length ((zCR (zQD B ms rs X T hp n) rs k).map (Value.int .i64))∧Below w1.heap.size w1 wr) (fun _ i _=>rs.length - (intOf i).toNat)
 case atStart=>exact ⟨0,rfl,by omega,World.ownsRow_nil _ _ _ _,br_⟩
 case round =>
  obtain ⟨k,rfl,hk,hown,hb⟩:=hrel
  have HOWN:=zF hown
  have HB:=zF hb
  clear hown hb
  have c5:=zC HB.out CA.out.2.2.2.2.2.1
  have c0:=zC HB.out CA.out.1
  have c1:=zC HB.out CA.out.2.1
  have c2:=zC HB.out CA.out.2.2.1
  have c3:=zC HB.out CA.out.2.2.2.1
  have c4:=zC HB.out CA.out.2.2.2.2.1
  have d0:=zC HB.out CA.out.2.2.2.2.2.2.1
  have d1:=zC HB.out CA.out.2.2.2.2.2.2.2
  unfold zJ at c0 c1 c2 c3 c4 c5 d0 d1
  by_cases hlt:k < rs.length
  ·have hkX:k < X.length:=by rw [HPL.out];exact hlt
   obtain ⟨bp,op,rfl,⟨x0,x1,x2⟩,hxn⟩:=(zZ (zI zRN HB.out hV1.out.reports)).2 k hkX
   unfold zJ at x0 x1 x2
   have hbit:=hs k hlt
   have hkl:(k:Int) < X.length:=by omega
   have hyes:Hid (zQD B ms rs X T hp n k→zCR (zQD B ms rs X T hp n) rs (k+1)=zCR (zQD B ms rs X T hp n) rs k++[rs[k].num]):=fun h=>zRT hlt h
   have hno:Hid (¬ zQD B ms rs X T hp n k→zCR (zQD B ms rs X T hp n) rs (k+1)=zCR (zQD B ms rs X T hp n) rs k):=fun h=>failTo_no h
   have hle:=failTo_le (zQD B ms rs X T hp n) rs k
   by_cases hB:B k=true
   case neg =>
    rw [if_neg hB] at hbit
    have hfv:Hid (¬ zQD B ms rs X T hp n k):=fun h=>hB h.1
    have hs2:=zF (hno.out hfv.out)
    clear hB hs hyes hno hfv
    go_wp2
    go_roundw
    ·exact ⟨k+1,by go_num,by omega,by rw [hs2.out];exact HOWN.out,HB.out⟩
    ·simp [intOf];omega
   rw [if_pos hB] at hbit
   by_cases hh:X[k].h=hp
   ·have hh':(X[k].h == hp)=true:=by simpa using hh
    have hcall:=zF (holds08 wr vr vn vm vh (.slice az rs.length capz) (.slice (some ⟨bp,op,none⟩) X.length capp) vt o ms rs X T (zI zN HB.out hms1.out) (zI zAV HB.out hrs1.out) (hV1.out.ext HB.out) HO.out k hlt hkX n hn)
    have hfv:Hid (zQD B ms rs X T hp n k↔¬ zML ms T X[k] rs[k] n):=⟨fun ⟨_,_,_,_,h⟩=>h,fun h=>⟨hB,hkX,hlt,hh,h⟩⟩
    generalize X[k]=x at *
    clear hh
    go_wp2_with fail
    refine hcall.out.mono ?_
    intro e w2 hret
    rcases hret.both with ⟨hp1,rfl,hb2⟩ | ⟨hn1,rfl,hb2⟩
    ·have hf:=zF (hno.out (fun h=>hfv.out.1 h hp1))
     have hbb:=zF (zA HB.out hb2)
     have hown2:=zF (zAA hb2 HOWN.out)
     clear hp1 hret hcall hyes hno hfv
     go_wp2
     go_roundw
     ·exact ⟨k+1,by go_num,by omega,by rw [hf.out];exact hown2.out,hbb.out⟩
     ·simp [intOf];omega
    ·have hf:=zF (hyes.out (hfv.out.2 hn1))
     have hbb:=zA HB.out hb2
     have hown2:=zAA hb2 HOWN.out
     obtain ⟨bz,oz,rfl,⟨r0,_⟩,_⟩:=(zZ (zI zAV hbb hrs1.out)).2 k hlt
     have c5:=zC hbb CA.out.2.2.2.2.2.1
     clear hn1 hret hcall hyes hno hfv c0 c1 c2 c3 c4 d0 d1 x0 x1 x2
     generalize rs[k].num=q at *
     unfold zJ at r0 c5
     go_wp2_with (at_builtin;refine wpList_append_own _ rfl _ _ 28 rfl w1.heap.size 3 i0 (.int .i64 0) 1 8 underlying28 hi hz0 hz1 hz2 rfl (by decide) _ _ _ rfl (hown2.alloc _) ⟨w2.heap.size,0,none⟩ 1 1 [.int .i64 q] rfl rfl (cell_one_new _ _ _) (by simp [Value.oneCell']) (by unfold maxLen;omega) (by omega) (by have:=hbb.size;simp;omega) ?_;intro v' w4 hown' hgrow _)
     have hb4:=(hbb.alloc hbb.size (.cells #[.int .i64 q] 3)).grown hgrow (by have:=hbb.size;simp;omega) (fun k e=>(hown2.lt k e).1)
     go_roundw
     ·exact ⟨k+1,by go_num,by omega,by rw [hf.out];simpa using hown',hb4⟩
     ·simp [intOf];omega
   ·have hh':(X[k].h == hp)=false:=by simpa using hh
    have hfv:Hid (¬ zQD B ms rs X T hp n k):=fun ⟨_,_,_,h,_⟩=>hh h
    generalize X[k]=x at *
    clear hh
    go_wp2
    go_roundw
    ·exact ⟨k+1,by go_num,by omega,by rw [hno.out hfv.out];exact HOWN.out,HB.out⟩
    ·simp [intOf];omega
  ·go_wp2
   go_ret
   obtain rfl:k=rs.length:=by omega
   exact ⟨_,rfl,⟨_,HB1.out.size,HOWN.out,failTo_I64 hNum.out _ (Nat.le_refl _)⟩,zA HB1.out HB.out⟩
def zQR (B:Nat→Bool) (ms:List Int) (rs:List Report) (X:List Has) (T:List (List Int)) (k:Int) (n:Int) : Prop:=∀ i,i < rs.length→¬ zQD B ms rs X T k n i
noncomputable def zQA (B:Nat→Bool) (ms:List Int) (rs:List Report) (X:List Has) (T:List (List Int)) (k:Int) (lo:Int) (j:Nat) : Option Span:=hull (zQR B ms rs X T k) lo j
theorem countsOfW_yes {B:Nat→Bool} {ms:List Int} {rs:List Report} {X:List Has} {T:List (List Int)} {k lo:Int} {j:Nat} (h:zQR B ms rs X T k (lo+j)) :
  zQA B ms rs X T k lo (j+1)=some (zFR ((zQA B ms rs X T k lo j).getD ⟨0,0⟩) (zQA B ms rs X T k lo j).isSome (lo+j)):=by
 unfold zQA
 simp only [hull,if_pos h]
 cases hh:hull (zQR B ms rs X T k) lo j with
 | none=>rfl
 | some s =>
   obtain ⟨h1,h2,h3,_⟩:=zQW hh
   simp only [Option.getD_some,Option.isSome_some,zFR,if_true]
   rw [Int.min_eq_left (by omega),Int.max_eq_right (by omega)]
theorem countsOfW_no {B:Nat→Bool} {ms:List Int} {rs:List Report} {X:List Has} {T:List (List Int)} {k lo:Int} {j:Nat} (h:¬ zQR B ms rs X T k (lo+j)) : zQA B ms rs X T k lo (j+1)=zQA B ms rs X T k lo j:=by
 unfold zQA
 simp only [hull,if_neg h]
theorem counts08s (w:World) (vr vn vm vh vs vp vt:Value) (o:Int) (ms:List Int) (hs:List Heap) (rs:List Report) (X:List Has) (T:List (List Int)) (hms:Sl zAJ 1 w vm ms) (hhs:Sl zHA 4 w vh hs) (hrs:Sl zDD 5 w vs rs) (hV:ViewAt w vp vt X T) (hO:ViewOk ms rs X T) (hr10:rs.length≤10)
  (z:Int) (B:Nat→Bool) (hset:∀ k,k < rs.length→bits BinOp.and IntKind.i64 (z / 2 ^ k) 1=if B k=true then 1 else 0) (k:Nat) (hk:k < hs.length) (hb:0≤hs[k].lo∧hs[k].lo≤hs[k].hi∧hs[k].hi≤200) :
  Calls prog 62 #[.agg #[vr,vn,.int .i64 o,vm,vh,vs],.agg #[vp,vt],.int .i64 z,.int .i64 k] w fun e w' =>
   e = .returned (.tuple #[.agg #[.int .i64 ((zQA B ms rs X T k hs[k].lo (hs[k].hi - hs[k].lo+1).toNat).getD ⟨0,0⟩).lo,.int .i64 ((zQA B ms rs X T k hs[k].lo (hs[k].hi - hs[k].lo+1).toNat).getD ⟨0,0⟩).hi],.bool (zQA B ms rs X T k hs[k].lo (hs[k].hi - hs[k].lo+1).toNat).isSome])∧Below w.heap.size w w':=by
 obtain ⟨hb1,B1,B2⟩:=zDY w #[vr,vn,.int .i64 o,vm,vh,vs] #[vp,vt] 32 130
 have hb0:=B1 0 vr rfl
 have hb1':=B1 1 vn rfl
 have hb2:=B1 2 (.int .i64 o) rfl
 have hb3:=B1 3 vm rfl
 have hb4:=B1 4 vh rfl
 have hb5:=B1 5 vs rfl
 have d0:=B2 0 vp rfl
 have d1:=B2 1 vt rfl
 clear B1 B2
 have CA:=zF (And.intro hb0 (And.intro hb1' (And.intro hb2 (And.intro hb3 (And.intro hb4 (And.intro hb5 (And.intro d0 d1)))))))
 obtain ⟨ah,caph,rfl,hmh⟩:=zD hhs
 obtain ⟨bh,oh,rfl,⟨_,_,h2,h3⟩,_⟩:=(zZ (zI zCL hb1 hhs)).2 k hk
 have hms1:=zF (zI zN hb1 hms)
 have hrs1:=zF (zI zAV hb1 hrs)
 have hV1:=zF (hV.ext hb1)
 have HO:=zF hO
 have CH:=zF (And.intro h2 h3)
 have hkh:(k:Int) < hs.length:=by omega
 clear hms hrs hV hO hhs
 generalize hs[k].lo=lo at *
 generalize hs[k].hi=hi at *
 unfold zJ at hb4 h2
 clear hb0 hb1' hb2 hb3 hb5 d0 d1 h3
 have L1:=Lay.new ((w.alloc (.cells #[vr,vn,.int .i64 o,vm,.slice (some ⟨bh,oh,none⟩) hs.length caph,vs] 32)).alloc (.cells #[vp,vt] 130)) 38 #[.int .i64 0,.int .i64 0]
 have L2:=Lay.new (((w.alloc (.cells #[vr,vn,.int .i64 o,vm,.slice (some ⟨bh,oh,none⟩) hs.length caph,vs] 32)).alloc (.cells #[vp,vt] 130)).alloc (.cells #[.int .i64 0,.int .i64 0] 38)) 38 #[.int .i64 0,.int .i64 0]
 replace L1:=L1.ext (zB _ (.cells #[.int .i64 0,.int .i64 0] 38))
 simp only [World.size_alloc] at L1 L2
 have hwl:((w.alloc (.cells #[vr,vn,.int .i64 o,vm,.slice (some ⟨bh,oh,none⟩) hs.length caph,vs] 32)).alloc (.cells #[vp,vt] 130)).heap.size=w.heap.size+1+1:=by simp
 have hbn:=zA (zB ((w.alloc (.cells #[vr,vn,.int .i64 o,vm,.slice (some ⟨bh,oh,none⟩) hs.length caph,vs] 32)).alloc (.cells #[vp,vt] 130)) (.cells #[.int .i64 0,.int .i64 0] 38)) (zB _ (.cells #[.int .i64 0,.int .i64 0] 38))
 have hb4n:=zC hbn hb4
 have h2n:=zC hbn h2
 unfold zJ at hb4n h2n
 go_enter func62,ntmps62
 go_wp2
 generalize (w.alloc _).alloc _=w1 at *
 generalize (w1.alloc _).alloc _=w3 at *
 have HB1:=zF hb1
 have HL1:=zF L1
 have HL2:=zF L2
 have HBN:=zF hbn
 have HH4:=zF (And.intro hb4 h2)
 have hn0:Hid (zQA B ms rs X T k lo 0=none):=rfl
 clear hb4n h2n hb1 L1 L2 hbn hb4 h2
 go_loopw [11,12] (fun f i wr=>∃ (j:Nat) (s:Span),i = .int .i64 (lo+j)∧j≤(hi - lo+1).toNat∧f = .bool (zQA B ms rs X T k lo j).isSome∧Hid (s=(zQA B ms rs X T k lo j).getD ⟨0,0⟩) ∧
  Lay wr (w.heap.size+1+1+1) #[.int .i64 s.lo,.int .i64 s.hi] 38∧Lay wr (w.heap.size+1+1) #[.int .i64 0,.int .i64 0] 38∧Below w1.heap.size w1 wr) (fun _ i _=>(hi+1 - intOf i).toNat)
 case atStart=>exact ⟨0,⟨0,0⟩,by simp,by omega,by rw [hn0.out];rfl,by rw [hn0.out];rfl,HL2.out,HL1.out,HBN.out⟩
 case round =>
  obtain ⟨j,s,rfl,hj,rfl,HS,hL2,hL1,hb⟩:=hrel
  have HB:=zF hb
  have c4:=zC HB.out CA.out.2.2.2.2.1
  have c0:=zC HB.out CA.out.1
  have c1:=zC HB.out CA.out.2.1
  have c2:=zC HB.out CA.out.2.2.1
  have c3:=zC HB.out CA.out.2.2.2.1
  have c5:=zC HB.out CA.out.2.2.2.2.2.1
  have d0:=zC HB.out CA.out.2.2.2.2.2.2.1
  have d1:=zC HB.out CA.out.2.2.2.2.2.2.2
  have h3:=zC HB.out CH.out.2
  have q0:wr.cell? ⟨w.heap.size+1+1+1,0,none⟩=some (.int .i64 s.lo):=hL2.cell 0 _ rfl
  have q1:wr.cell? ⟨w.heap.size+1+1+1,1,none⟩=some (.int .i64 s.hi):=hL2.cell 1 _ rfl
  have HLL:=zF (And.intro hL1 hL2)
  unfold zJ at c0 c1 c2 c3 c4 c5 d0 d1 h3
  clear hb hL1 hL2
  by_cases hlt:lo+j≤hi
  ·have hyes:Hid (zQR B ms rs X T k (lo+j)→zQA B ms rs X T k lo (j+1)=some (zFR s (zQA B ms rs X T k lo j).isSome (lo+j))):=fun h=>by rw [countsOfW_yes h,HS.out]
   have hno:Hid (¬ zQR B ms rs X T k (lo+j)→zQA B ms rs X T k lo (j+1)=zQA B ms rs X T k lo j):=fun h=>countsOfW_no h
   have hcall:=zF (fails08s wr vr vn vm (.slice (some ⟨bh,oh,none⟩) hs.length caph) vs vp vt o ms rs X T (zI zN HB.out hms1.out) (zI zAV HB.out hrs1.out) (hV1.out.ext HB.out) HO.out hr10 z B hset k (lo+j) (by omega))
   have hnil:Hid (zCR (zQD B ms rs X T k (lo+j)) rs rs.length=[]↔zQR B ms rs X T k (lo+j)):=zRC
   generalize zCR (zQD B ms rs X T k (lo+j)) rs rs.length=F at *
   go_wp2_with fail
   clear c0 c1 c2 c3 c4 c5 d0 d1 h3 q0 q1
   refine hcall.out.mono ?_
   rintro e w2 ⟨u,rfl,⟨_,_,hu⟩,hb2⟩
   have hu:=hu.sl
   obtain ⟨au,cu,rfl,hmu⟩:=zD hu
   have hbb:=zF (zA HB.out hb2)
   have hLL:=zF (And.intro (HLL.out.1.ext hb2) (HLL.out.2.ext hb2))
   clear hu hb2 hcall HLL HB
   by_cases hF:F=[]
   ·have hP:=hnil.out.1 hF
    have hnew:=zF (hyes.out hP)
    have hF0:(F.length:Int)=0:=by rw [hF];rfl
    have q0:=hLL.out.2.cell 0 _ rfl
    have q1:=hLL.out.2.cell 1 _ rfl
    clear hF hP hyes hno hnil
    go_wp2_with fail
    clear q0 q1
    refine (wider08 w2 s _ _).mono ?_
    rintro e w4 ⟨rfl,hb4⟩
    have hb5:=zF (zA hbb.out hb4)
    have hL1:=hLL.out.1.ext hb4
    have hL2:=hLL.out.2.ext hb4
    clear hb4 hLL hbb
    have q0:=hL2.cell 0 _ rfl
    have q1:=hL2.cell 1 _ rfl
    have f0:=hL2.frozen 0
    have f1:=hL2.frozen 1
    have hl:=hL2.lt
    have HW:Hid (zQA B ms rs X T k lo (j+1)=some (zFR s (zQA B ms rs X T k lo j).isSome (lo+j))):=hnew
    clear hnew
    generalize zFR s (zQA B ms rs X T k lo j).isSome (lo+j)=z at *
    have HL2':=zF (zBC (zBC hL2 0 (.int .i64 z.lo)) 1 (.int .i64 z.hi))
    have HL1':=zF (zBD (zBD hL1 (show w.heap.size+1+1≠w.heap.size+1+1+1 by omega) 0 (.int .i64 z.lo)) (show w.heap.size+1+1≠w.heap.size+1+1+1 by omega) 1 (.int .i64 z.hi))
    have hle:w1.heap.size≤w.heap.size+1+1+1:=by omega
    have HB':=zF (zH (j:=1) (u:=.int .i64 z.hi) hle (zH (j:=0) (u:=.int .i64 z.lo) hle hb5.out))
    clear hL1 hL2 hb5
    go_wp2
    go_roundw
    ·exact ⟨j+1,z,by go_num,by omega,by rw [HW.out];rfl,by rw [HW.out];rfl,HL2'.out,HL1'.out,HB'.out⟩
    ·simp [intOf];omega
   ·have hnew:=zF (hno.out (fun h=>hF (hnil.out.2 h)))
    have hF0:0 < (F.length:Int):=by
     have:=List.length_pos_iff.2 hF
     omega
    clear hF hyes hno hnil
    go_wp2
    go_roundw
    ·exact ⟨j+1,s,by go_num,by omega,by rw [hnew.out],by rw [hnew.out];exact HS,hLL.out.2,hLL.out.1,hbb.out⟩
    ·simp [intOf];omega
  ·obtain rfl:j=(hi - lo+1).toNat:=by omega
   have f0:=HLL.out.1.frozen 0
   have f1:=HLL.out.1.frozen 1
   have p0:wr.cell? ⟨w.heap.size+1+1,0,none⟩=some (.int .i64 0):=HLL.out.1.cell 0 _ rfl
   have p1:wr.cell? ⟨w.heap.size+1+1,1,none⟩=some (.int .i64 0):=HLL.out.1.cell 1 _ rfl
   have hl:=HLL.out.1.lt
   have hle:w.heap.size≤w.heap.size+1+1:=by omega
   have HB':=zF (zH (j:=1) (u:=.int .i64 s.hi) hle (zH (j:=0) (u:=.int .i64 s.lo) hle (zA HB1.out HB.out)))
   clear HLL
   go_wp2
   refine bodyPost_ret (v:=.tuple #[.agg #[.int .i64 s.lo,.int .i64 s.hi],.bool (zQA B ms rs X T k lo (hi - lo+1).toNat).isSome]) (by simp [results,results62,go_sem,p0,p1,hl]) rfl ?_
   exact ⟨by rw [← HS.out],HB'.out⟩
noncomputable def zQH (B:Nat→Bool) (ms:List Int) (hs:List Heap) (rs:List Report) (X:List Has) (T:List (List Int)) (k:Nat) : Option Span:=(hs[k]?).elim none fun h=>zQA B ms rs X T k h.lo (h.hi - h.lo+1).toNat
theorem countsVW_at {B:Nat→Bool} {ms:List Int} {hs:List Heap} {rs:List Report} {X:List Has} {T:List (List Int)} {k:Nat} (hk:k < hs.length) : zQH B ms hs rs X T k=zQA B ms rs X T k hs[k].lo (hs[k].hi - hs[k].lo+1).toNat:=by
 unfold zQH
 rw [List.getElem?_eq_getElem hk]
 rfl
def leftVW (B:Nat→Bool) (ms:List Int) (hs:List Heap) (rs:List Report) (X:List Has) (T:List (List Int)) : Prop:=(∀ k,k < hs.length→zQH B ms hs rs X T k≠none)∧zQR B ms rs X T (-1) 0
theorem left08s (w:World) (vr vn vm vh vs vp vt:Value) (o:Int) (ms:List Int) (hs:List Heap) (rs:List Report) (X:List Has) (T:List (List Int)) (hms:Sl zAJ 1 w vm ms) (hhs:Sl zHA 4 w vh hs) (hrs:Sl zDD 5 w vs rs) (hV:ViewAt w vp vt X T) (hO:ViewOk ms rs X T) (hr10:rs.length≤10)
  (z:Int) (B:Nat→Bool) (hset:∀ k,k < rs.length→bits BinOp.and IntKind.i64 (z / 2 ^ k) 1=if B k=true then 1 else 0) (hb:∀ k (hk:k < hs.length),0≤hs[k].lo∧hs[k].lo≤hs[k].hi∧hs[k].hi≤200) :
  Calls prog 61 #[.agg #[vr,vn,.int .i64 o,vm,vh,vs],.agg #[vp,vt],.int .i64 z] w (zAK (leftVW B ms hs rs X T) w):=by
 obtain ⟨hb1,B1,B2⟩:=zDY w #[vr,vn,.int .i64 o,vm,vh,vs] #[vp,vt] 32 130
 have hb0:=B1 0 vr rfl
 have hb1':=B1 1 vn rfl
 have hb2:=B1 2 (.int .i64 o) rfl
 have hb3:=B1 3 vm rfl
 have hb4:=B1 4 vh rfl
 have hb5:=B1 5 vs rfl
 have d0:=B2 0 vp rfl
 have d1:=B2 1 vt rfl
 clear B1 B2
 have CA:=zF (And.intro hb0 (And.intro hb1' (And.intro hb2 (And.intro hb3 (And.intro hb4 (And.intro hb5 (And.intro d0 d1)))))))
 obtain ⟨ah,caph,rfl,hmh⟩:=zD hhs
 have hms1:=zF (zI zN hb1 hms)
 have hrs1:=zF (zI zAV hb1 hrs)
 have hhs1:=zF (zI zCL hb1 hhs)
 have hV1:=zF (hV.ext hb1)
 have HO:=zF hO
 have HLO:=zF hb
 clear hms hrs hV hO hhs hb0 hb1' hb2 hb3 hb4 hb5 d0 d1 hb
 have hwl:w.heap.size+1 < ((w.alloc (.cells #[vr,vn,.int .i64 o,vm,.slice ah hs.length caph,vs] 32)).alloc (.cells #[vp,vt] 130)).heap.size:=by simp
 go_enter func61,ntmps61
 go_wp2
 generalize (w.alloc _).alloc _=w1 at *
 have HB1:=zF hb1
 clear hb1
 go_loopw [7] (fun i wr=>∃ j:Nat,i = .int .i64 j∧j≤hs.length∧Hid (∀ k,k < j→zQH B ms hs rs X T k≠none)∧Below w1.heap.size w1 wr) (fun i _=>hs.length - (intOf i).toNat)
 case atStart=>exact ⟨0,rfl,by omega,fun k hk=>absurd hk (by omega),br_⟩
 case round =>
  obtain ⟨j,rfl,hj,HALL,hb⟩:=hrel
  have HB:=zF hb
  have c0:=zC HB.out CA.out.1
  have c1:=zC HB.out CA.out.2.1
  have c2:=zC HB.out CA.out.2.2.1
  have c3:=zC HB.out CA.out.2.2.2.1
  have c4:=zC HB.out CA.out.2.2.2.2.1
  have c5:=zC HB.out CA.out.2.2.2.2.2.1
  have d0:=zC HB.out CA.out.2.2.2.2.2.2.1
  have d1:=zC HB.out CA.out.2.2.2.2.2.2.2
  unfold zJ at c0 c1 c2 c3 c4 c5 d0 d1
  by_cases hlt:j < hs.length
  ·have hcall:=zF (counts08s wr vr vn vm (.slice ah hs.length caph) vs vp vt o ms hs rs X T (zI zN HB.out hms1.out) (zI zCL HB.out hhs1.out) (zI zAV HB.out hrs1.out) (hV1.out.ext HB.out) HO.out hr10 z B hset j hlt (HLO.out j hlt))
   rw [← countsVW_at hlt] at hcall
   have hsnoc:Hid (zQH B ms hs rs X T j≠none→∀ k,k < j+1→zQH B ms hs rs X T k≠none):=fun h k hk=>by
    by_cases e:k=j
    ·subst e;exact h
    ·exact HALL.out k (by omega)
   have hout:Hid (zQH B ms hs rs X T j=none→¬ leftVW B ms hs rs X T):=fun h hl=>hl.1 j hlt h
   generalize zQH B ms hs rs X T j=C at *
   go_wp2_with fail
   clear c0 c1 c2 c3 c4 c5 d0 d1
   refine hcall.out.mono ?_
   rintro e w2 ⟨rfl,hb2⟩
   have HB2:=zF (zA HB.out hb2)
   clear hb hb2 hcall
   cases C with
   | none =>
     have hn:=zF (hout.out rfl)
     clear hout hsnoc
     go_wp2
     go_ret
     refine zAK.f hn.out (zA HB1.out (zA HB2.out ?_))
     exact zB _ _
   | some s =>
     have hn:=zF (hsnoc.out (by simp))
     clear hout hsnoc
     simp only [Option.getD_some,Option.isSome_some]
     go_wp2
     go_roundw
     ·exact ⟨j+1,by go_num,by omega,hn,zA HB2.out (zB _ _)⟩
     ·simp [intOf];omega
  ·obtain rfl:j=hs.length:=by omega
   have hcall:=zF (fails08s wr vr vn vm (.slice ah hs.length caph) vs vp vt o ms rs X T (zI zN HB.out hms1.out) (zI zAV HB.out hrs1.out) (hV1.out.ext HB.out) HO.out hr10 z B hset (-1) 0 (by omega))
   have hnil:Hid (zCR (zQD B ms rs X T (-1) 0) rs rs.length=[]↔leftVW B ms hs rs X T):=zRC.trans ⟨fun h=>⟨HALL.out,h⟩,fun h=>h.2⟩
   generalize zCR (zQD B ms rs X T (-1) 0) rs rs.length=F at *
   go_wp2_with fail
   clear c0 c1 c2 c3 c4 c5 d0 d1
   refine hcall.out.mono ?_
   rintro e w2 ⟨u,rfl,⟨_,_,hu⟩,hb2⟩
   have hu:=hu.sl
   obtain ⟨au,cu,rfl,hmu⟩:=zD hu
   have hbb:=zF (zA HB1.out (zA HB.out hb2))
   clear hu hb2 hcall hb
   have hF:Hid (F=[]↔F.length=0):=List.length_eq_zero_iff.symm
   go_wp2
   go_ret
   exact ⟨_,rfl,by rw [← hnil.out,hF.out];simp,hbb.out⟩
theorem one_bit:∀ i,i < 10→∀ k,k < 10→bits BinOp.and IntKind.i64 ((2 ^ i:Int) / 2 ^ k) 1=if k=i then 1 else 0:=by decide
def Built.one (b:Built) (r:Report) : Built:={ b with rs:=[r] }
theorem failsW_one {b:Built} (h:zM b=0) (S:List Int) (k n:Int) {i:Nat} (hi:i < b.rs.length) : (∀ j,j < b.rs.length→¬ zQD (fun k=>decide (k=i)) b.ms b.rs (zBS b S) (zBO b S) k n j)↔∀ r∈(b.one b.rs[i]).rs,¬ zNY (b.one b.rs[i]) S k n r:=by
 constructor
 ·intro hf r hr
  have e:r=b.rs[i]:=by simpa [Built.one] using hr
  subst e
  intro hF
  exact hf i hi ⟨by simp,(zQK h S k n hi).2 ((zQZ b _ S k n _).1 hF)⟩
 ·rintro hf j hj ⟨h1,h2⟩
  have e:j=i:=by simpa using h1
  subst e
  exact hf _ (by simp [Built.one]) ((zQZ b _ S k n _).2 ((zQK h S k n hj).1 h2))
theorem leftVW_one {b:Built} (h:zM b=0) (S:List Int) {i:Nat} (hi:i < b.rs.length) : leftVW (fun k=>decide (k=i)) b.ms b.hs b.rs (zBS b S) (zBO b S)↔zII (b.one b.rs[i]) S:=by
 unfold leftVW zII
 refine and_congr (forall_congr' fun k=>?_) (failsW_one h S (-1) 0 hi)
 have e:zQH (fun k=>decide (k=i)) b.ms b.hs b.rs (zBS b S) (zBO b S) k=zGB (b.one b.rs[i]) S k:=by
  unfold zQH zGB zQA zQR
  congr 1
  funext x
  congr 1
  funext n
  exact propext (failsW_one h S k n hi)
 rw [e]
 exact Iff.rfl
end
section
open Go.RowKit Go.Shelf
attribute [local go_sem] zAN Oper.grows Oper.growUpon
def Lone (b:Built) (r:Report) : Prop:=¬ ∃ S,IsT (zCA b.ns.notes) S∧zII (b.one r) S
open Classical in
noncomputable def zQX (b:Built) (k:Nat) : List Int:=((b.rs.take k).filter fun r=>decide (Lone b r)).map (·.num)
theorem claTo_yes {b:Built} {k:Nat} (hk:k < b.rs.length) (h:Lone b b.rs[k]) : zQX b (k+1)=zQX b k++[b.rs[k].num]:=by
 unfold zQX
 rw [List.take_succ_eq_append_getElem hk,List.filter_append,List.map_append]
 simp [h]
theorem claTo_no {b:Built} {k:Nat} (hk:k < b.rs.length) (h:¬ Lone b b.rs[k]) : zQX b (k+1)=zQX b k:=by
 unfold zQX
 rw [List.take_succ_eq_append_getElem hk,List.filter_append,List.map_append]
 simp [h]
theorem claTo_le (b:Built) (k:Nat) : (zQX b k).length≤k:=by
 unfold zQX
 rw [List.length_map]
 exact Nat.le_trans (List.length_filter_le _ _) (by rw [List.length_take];omega)
theorem claTo_I64 {b:Built} (h:zM b=0) (k:Nat) : ∀ x∈zQX b k,I64 x:=fun x hx=>by
 unfold zQX at hx
 obtain ⟨r,hr,rfl⟩:=List.mem_map.1 hx
 have:=(zEN h (List.mem_of_mem_take (List.mem_filter.1 hr).1)).1
 unfold In at this
 unfold I64
 omega
noncomputable def claL (b:Built) : List Int:=if zM b=0 then zQX b b.rs.length else []
theorem shl10 (n:Nat) (hn:n < 10) : wrap64 (2 ^ n)=(2:Int) ^ n∧IntKind.i64.wrap (2 ^ n)=(2:Int) ^ n:=by
 have h:n=0∨n=1∨n=2∨n=3∨n=4∨n=5∨n=6∨n=7∨n=8∨n=9:=by omega
 rcases h with rfl | rfl | rfl | rfl | rfl | rfl | rfl | rfl | rfl | rfl <;> exact ⟨IntWalk.wrap64_in _ (by omega),IntWalk.i64_in _ (by omega)⟩
def OneB (b:Built) (r:Report) (S:List Int) (v:Value) (_:World) : Prop:=∃ q:Bool,v = .bool q∧(q=true↔zII (b.one r) S)
theorem clash08 (w:World) (vr vn vm vh vz:Value) (b:Built) (hB:BuiltAt w vr vn vm vh vz b) :
  Calls prog 30 #[.agg #[vr,vn,.int .i64 b.of,vm,vh,vz]] w fun e w'=>∃ u,e = .returned (.tuple #[u,.int .i64 (zM b)])∧Sl zAJ 1 w' u (claL b)∧Below w.heap.size w w':=by
 obtain ⟨i0,hif,iz0,iz1,iz2⟩:=info_parts zDM
 obtain ⟨az,cz,rfl,_⟩:=zD hB.rs
 have hb1:=zB w (.cells #[vr,vn,.int .i64 b.of,vm,vh,.slice az b.rs.length cz] 32)
 have HBOX:=zF (zHC w vr vn vm vh (.slice az b.rs.length cz) b.of 32)
 have HB:=zF (hB.ext hb1)
 have HBW:=zF hb1
 clear hB hb1
 have k0:=HBOX.out.c0
 have k1:=HBOX.out.c1
 have k2:=HBOX.out.c2
 have k3:=HBOX.out.c3
 have k4:=HBOX.out.c4
 have k5:=HBOX.out.c5
 unfold zJ at k0 k1 k2 k3 k4 k5
 go_enter func30,ntmps30
 go_wp2_with fail
 clear k0 k1 k2 k3 k4 k5
 generalize w.alloc _=w1 at *
 refine (check08 _ _ _ _ _ _ b HB.out).mono ?_
 rintro e w2 ⟨rfl,hb2⟩
 have HBW:=zF (zA HBW.out hb2)
 have HBOX:=zF (HBOX.out.ext hb2)
 have HB:=zF (HB.out.ext hb2)
 clear hb2
 by_cases hv:zM b=0
 case neg =>
  have hv':(zM b != 0)=true:=by simpa using hv
  have HT:Hid (claL b=[]):=by unfold Hid claL;rw [if_neg hv]
  clear hv
  go_wp2
  go_ret2
  exact ⟨_,rfl,by rw [HT.out];exact zGS _ _ _ _ _,HBW.out⟩
 case pos =>
  have HV:=zF hv
  have hok:=(zAS (zW hv).1).2
  have HOK:=zF hok
  have hN12:=hok.1
  have hr10:b.rs.length≤10:=(zW hv).2.2.2.2.1
  have HCL:Hid (claL b=zQX b b.rs.length):=by unfold Hid claL;rw [if_pos hv]
  have HC:Hid (zM b=0):=hv
  rw [hv]
  clear hv hok
  have k0:=HBOX.out.c0
  have k1:=HBOX.out.c1
  unfold zJ at k0 k1
  go_wp2_with fail
  clear k0 k1
  refine (truths03 _ _ _ _ HB.out.notes (by omega) (zKU HOK.out) (fun L h=>zRF HOK.out h)).mono ?_
  rintro e w6 ⟨u6',O,rfl,hO,hOm,hO5,⟨base,cl,hown6,hri6⟩,hb2⟩
  have hsl6:=(hri6.sl hown6 zME).now
  have hn32:(zNC O).length≤32:=by
   rw [zPW]
   exact Nat.pow_le_pow_right (n:=2) (by decide) hO5
  have hTT:Hid (∀ l,l∈zNC O↔IsT (zCA b.ns.notes) l):=fun l=>(zRI hO l).trans (zRO hOm l)
  generalize zNC O=T at *
  obtain ⟨al,cl2,rfl,_⟩:=zD hsl6
  have HT:=zF hsl6
  have HBW:=zF (zA HBW.out hb2)
  have HBOX:=zF (HBOX.out.ext hb2)
  have HB:=zF (HB.out.ext hb2)
  clear hO hOm hO5 hown6 hri6 hsl6 hb2
  have HLE:=zF (claTo_le b)
  have HI:=zF (claTo_I64 HV.out)
  go_wp2
  go_loopw [5,7] (fun q i wr=>∃ k:Nat,i = .int .i64 k∧k≤b.rs.length∧Hid (wr.ownsRow w6.heap.size 3 1 q (zQX b k).length ((zQX b k).map (Value.int .i64)))∧Hid (Below w6.heap.size w6 wr)) (fun _ i _=>b.rs.length - (intOf i).toNat)
  case atStart=>exact ⟨0,rfl,by omega,zF (World.ownsRow_nil _ _ _ _),zF (br_)⟩
  case round =>
   obtain ⟨k,rfl,hk,HO,HB6⟩:=hrel
   have k5:=zC HB6.out HBOX.out.c5
   unfold zJ at k5
   by_cases hlt:k < b.rs.length
   case neg =>
    obtain rfl:k=b.rs.length:=by omega
    go_wp2
    go_ret2
    refine ⟨_,by rw [HC.out];rfl,?_,zA HBW.out HB6.out⟩
    rw [HCL.out]
    exact zBG HO.out (HI.out _)
   case pos =>
    have hkl:(k:Int) < b.rs.length:=by omega
    have hyes:=zF (fun h=>claTo_yes (b:=b) hlt h)
    have hno:=zF (fun h=>claTo_no (b:=b) hlt h)
    have hle:=HLE.out k
    have hLW:Hid (∀ S,leftVW (fun j=>decide (j=k)) b.ms b.hs b.rs (zBS b S) (zBO b S)↔zII (b.one b.rs[k]) S):=fun S=>leftVW_one HV.out S hlt
    have hLo:Hid (Lone b b.rs[k]↔¬ ∃ S,IsT (zCA b.ns.notes) S∧zII (b.one b.rs[k]) S):=Iff.rfl
    obtain ⟨gz,oz,haz,⟨z0,-⟩,-⟩:=(zZ (zI zAV HB6.out HB.out.rs)).2 k hlt
    subst haz
    have HZ0:=zF z0
    clear z0
    generalize b.rs[k]=r at *
    obtain ⟨hsh,hsh2⟩:=shl10 k (by omega)
    have hset:Hid (∀ j,j < b.rs.length→bits BinOp.and IntKind.i64 ((2:Int) ^ k / 2 ^ j) 1=if (decide (j=k))=true then 1 else 0):=fun j hj=>by
     rw [one_bit k (by omega) j (by omega)]
     simp
    generalize hwa:wr=wa at *
    clear hwa
    go_wp2
    clear k5
    go_loopw [8,9] (fun s i wr=>∃ (j:Nat) (q:Bool),i = .int .i64 j∧j≤T.length∧s = .bool q∧Hid (q=true↔∃ S∈T.take j,zII (b.one r) S)∧Hid (Below wa.heap.size wa wr)) (fun _ i _=>T.length - (intOf i).toNat)
    case atStart=>exact ⟨0,false,rfl,by omega,rfl,zF (by simp),zF (br_)⟩
    case round =>
     obtain ⟨j,q,rfl,hj,rfl,HQ,HBA⟩:=hrel
     have HBB:=zF (zA HB6.out HBA.out)
     by_cases hgo:j < T.length∧q=false
     case neg =>
      have hall:Hid (q=true↔¬ Lone b r):=by
       unfold Hid
       rw [HQ.out,hLo.out,Classical.not_not]
       constructor
       ·rintro ⟨S,hS,h⟩
        exact ⟨S,(hTT.out S).1 (List.mem_of_mem_take hS),h⟩
       ·rintro ⟨S,hS,h⟩
        cases hq:q with
        | true=>exact HQ.out.1 hq
        | false =>
          have hjT:j=T.length:=by
           apply Classical.byContradiction
           intro hn
           exact hgo ⟨by omega,hq⟩
          subst hjT
          exact ⟨S,by rw [List.take_length];exact (hTT.out S).2 hS,h⟩
      have c5:=zC HBB.out HBOX.out.c5
      have c0:=zC HBA.out HZ0.out
      have HO9:=zF (zAA HBA.out HO.out)
      unfold zJ at c5 c0
      cases q with
      | true =>
        have hf:=zF (hno.out (hall.out.1 rfl))
        clear hgo hyes hno hall hset hsh
        by_cases hjT:(j:Int) < T.length
        ·go_wp2
         go_roundw
         ·exact ⟨k+1,by go_num,by omega,by rw [hf.out];exact HO9,HBB⟩
         ·simp [intOf];omega
        ·go_wp2
         go_roundw
         ·exact ⟨k+1,by go_num,by omega,by rw [hf.out];exact HO9,HBB⟩
         ·simp [intOf];omega
      | false =>
        have hlone:Lone b r:=Classical.byContradiction fun h=>by
         have:=hall.out.2 h
         cases this
        have hf:=zF (hyes.out hlone)
        have hjT:¬ ((j:Int) < T.length):=fun h=>hgo ⟨by omega,rfl⟩
        clear hgo hyes hno hall hlone hset hsh
        generalize r.num=x at *
        have hsz:=HBB.out.size
        generalize wr=wz at *
        go_wp2_with (at_builtin;refine wpList_append_own _ rfl _ _ 28 rfl w6.heap.size 3 i0 (.int .i64 0) 1 8 underlying28 hif iz0 iz1 iz2 rfl (by decide) _ _ _ rfl (HO9.out.alloc _) ⟨wz.heap.size,0,none⟩ 1 1 [.int .i64 x] rfl rfl (cell_one_new _ _ _) (by simp [Value.oneCell']) (by unfold maxLen;omega) (by omega) (by simp;omega) ?_;intro v' w4 hown' hgrow _)
        have hb4:=(HBB.out.alloc HBB.out.size (.cells #[.int .i64 x] 3)).grown hgrow (by simp;omega) (fun k e=>(HO9.out.lt k e).1)
        go_wp2
        go_roundw
        ·exact ⟨k+1,by go_num,by omega,by rw [hf.out,List.map_append,List.length_append];exact zF hown',zF hb4⟩
        ·simp [intOf];omega
     case pos =>
      obtain ⟨hjl,rfl⟩:=hgo
      have hjT:(j:Int) < T.length:=by omega
      obtain ⟨gl,ol,rfl,vx,hcx,hx⟩:=(zZ HT.out).2 j hjl
      obtain ⟨ax,cx,rfl,_⟩:=zD hx
      have hTx:=(hTT.out _).1 (List.getElem_mem hjl)
      have hsnoc:Hid (∀ q:Bool,(q=true↔zII (b.one r) T[j])→(q=true↔∃ S∈T.take (j+1),zII (b.one r) S)):=fun q h=>by
       rw [h,List.take_succ_eq_append_getElem hjl]
       constructor
       ·intro hl
        exact ⟨_,List.mem_append_right _ (List.mem_singleton.2 rfl),hl⟩
       ·rintro ⟨S,hS,hl⟩
        rcases List.mem_append.1 hS with h1 | h1
        ·have:=HQ.out.2 ⟨S,h1,hl⟩
         cases this
        ·rw [List.mem_singleton.1 h1] at hl
         exact hl
      have HX:=zF hx
      have HCX:=zF hcx
      have HTX:=zF hTx
      clear hx hcx hTx HQ
      generalize T[j]=x at *
      generalize wr=wq at *
      have k0:=zG (zC HBB.out HBOX.out.c0)
      have k1:=zG (zC HBB.out HBOX.out.c1)
      have k2:=zG (zC HBB.out HBOX.out.c2)
      have k3:=zG (zC HBB.out HBOX.out.c3)
      have k4:=zG (zC HBB.out HBOX.out.c4)
      have k5:=zG (zC HBB.out HBOX.out.c5)
      have km:=zG (zC HBB.out HCX.out)
      rw [Nat.mul_one] at km
      go_wp2
      refine zK 10 (by kernel_rfl) (by kernel_rfl) ?_
      simp only [tk_]
      iterate 6 (apply gx_;focus (intro vs xq hd;(try simp [hq_] at hd);simp only [pf_];go_simp;exact ⟨br_,rfl⟩))
      refine zL (fun v w'=>∃ vp vt,v = .agg #[vp,vt]∧ViewAt w' vp vt (zBS b x) (zBO b x)) (fun v w w' hb h=>by obtain ⟨vp,vt,e,h⟩:=h;exact ⟨vp,vt,e,h.ext hb⟩) ?_ ?_
      ·intro vs xq hd
       (try simp [hq_] at hd)
       simp only [pf_]
       go_simp
       refine (zRB (wq.later xq) vr vn vm vh _ (.slice ax x.length cx) b x (HB.out.ext (zA HBB.out (zE wq xq))) (zI zN (zA HBB.out (zE wq xq)) HX.out) HV.out HTX.out).mono ?_
       rintro e w9 ⟨vp,vt,rfl,hV,hb9⟩
       exact ⟨_,rfl,hb9,vp,vt,rfl,hV.now⟩
      iterate 2 (apply gx_;focus (intro vs xq hd;(try simp [hq_] at hd);simp only [pf_];go_simp;exact ⟨br_,rfl⟩))
      refine zL (OneB b r x) (fun _ _ _ _ h=>h) ?_ ?_
      ·intro vs xq hd
       (try simp [hq_] at hd)
       simp only [pf_]
       obtain ⟨_,⟨vp,vt,e6,hVW⟩,e8⟩:=hd
       rw [e6]
       go_simp
       refine (left08s (wq.later xq) vr vn vm vh _ vp vt b.of b.ms b.hs b.rs (zBS b x) (zBO b x) (HB.out.ext (zA HBB.out (zE wq xq))).ms (HB.out.ext (zA HBB.out (zE wq xq))).hs (HB.out.ext (zA HBB.out (zE wq xq))).rs hVW (zRU HV.out x) hr10 ((2:Int) ^ k) (fun j=>decide (j=k)) hset.out (fun k hk=>zDP HV.out hk)).mono ?_
       rintro e w9 ⟨q,rfl,hq,hb9⟩
       exact ⟨_,rfl,hb9,q,rfl,hq.trans (hLW.out x)⟩
      refine zT (by simp only [List.length_append,List.length_cons,List.length_nil]) (fun vs xq hd=>?_)
      simp [zV,zAD,List.range,List.range.loop] at hd
      simp only [pf_]
      obtain ⟨_,_,_,_,_,_,_,_,_,h9⟩:=hd
      obtain ⟨q,e9,hq⟩:=h9
      simp only [Nat.zero_add,Nat.reduceAdd]
      simp only [e9]
      have hqq:=zF (hsnoc.out q hq)
      have HB7:=zF (zA HBA.out (zE wq xq))
      clear hq e9 k0 k1 k2 k3 k4 k5 km
      generalize vs 0=u0 at *
      generalize vs 1=u1 at *
      generalize vs 2=u2 at *
      generalize vs 3=u3 at *
      generalize vs 4=u4 at *
      generalize vs 5=u5 at *
      generalize vs 6=u6 at *
      generalize vs 7=u7 at *
      generalize vs 8=u8 at *
      generalize vs 9=u9 at *
      generalize wq.later xq=w7 at *
      go_wp2
      go_roundw
      ·exact ⟨j+1,q,by go_num,by omega,rfl,hqq,HB7⟩
      ·simp [intOf];omega
end
section
open Go.RowKit
section
variable {P:Program} (w:World)
theorem zRX (base:Nat) (t ty e:TypeId) (i:TypeInfo) (z:Value) (size bytes:Nat) (ht:P.underlying t=some (.slice e)) (hi:P.info? e=some i) (hz:i.zero=some z)
  (hsize:i.size=size) (hby:i.bytes=bytes) (hzs:z.cells.size=size) (hsz:0 < size)
  (v:Value) (n:Nat) (xs:List Value) (hown:w.ownsRow base e size v n xs)
  (a:Addr) (m c:Nat) (news:List Value) (hl:news.length=m*size) (hnews:∀ j u,news[j]? = some u→w.cell? (a.add j)=some u) (h1:∀ u∈news,u.oneCell'=true)
  (h63:n+m≤maxLen) (hbytes:(n+m)*bytes≤140737488355328) (hbase:base≤w.heap.size) :
  ∃ v' w',(Builtin.append_ #[t,t] ty #[v,.slice (some a) m c]).run P w = .ok v' w'∧w'.ownsRow base e size v' (n+m) (xs++news)∧w.grownBy w' v.ownBlock ∧
   ∀ g,v'.ownBlock=some g→v.ownBlock=some g∨w.heap.size≤g:=by
 rcases hown.2 with ⟨rfl,rfl⟩ | ⟨g',cap,cur,rfl,hbg,hgc,hnc,hcm,hcs,htake⟩
 ·have hx:xs=[]:=List.eq_nil_of_length_eq_zero (by simpa using hown.1)
  subst hx
  obtain ⟨v',w',hr,o1,g1,_⟩:=run_append_own (P:=P) w w.heap.size t ty e i z size bytes ht hi hz hsize hby hzs hsz (.slice none 0 0) 0 [] (World.ownsRow_nil _ _ _ _) a m c news hl hnews h1 h63 hbytes (Nat.le_refl _)
  refine ⟨v',w',hr,?_,g1,fun g hg=>.inr (o1.lt g hg).1⟩
  obtain ⟨l1,l2⟩:=o1
  refine ⟨l1,?_⟩
  rcases l2 with h | ⟨g2,cap2,cur2,e2,hb2,hh⟩
  ·exact .inl h
  ·exact .inr ⟨g2,cap2,cur2,e2,Nat.le_trans hbase hb2,hh⟩
 ·obtain ⟨v',w',hr,o1,g1,_⟩:=run_append_own (P:=P) w base t ty e i z size bytes ht hi hz hsize hby hzs hsz _ n xs hown a m c news hl hnews h1 h63 hbytes hbase
  refine ⟨v',w',hr,o1,g1,fun g hg=>?_⟩
  have holds:=hown.cells (g:=g') rfl
  subst hsize
  subst hby
  by_cases hroom:n+m≤cap
  ·have hfit:n*i.size+news.length≤cur.size:=by rw [hl,hcs,← Nat.add_mul];exact Nat.mul_le_mul_right _ hroom
   have hr2:=run_append_room (P:=P) w t ty e i ht hi g' n cap cur hgc a m c news hl hnews h1 hroom hfit
   rw [hr] at hr2
   cases hr2
   exact .inl hg
  ·have hr2:=run_append_grow (P:=P) w t ty e i z ht hi hz ⟨g',0,none⟩ n cap xs hown.1 holds a m c news hl hnews (by omega) (by simp only [maxLen] at h63;omega) (growslice_fits (by omega) hbytes)
   rw [hr] at hr2
   cases hr2
   cases hg
   exact .inr (by simp)
theorem zRG {ops:Array Oper} {rest:List Oper} {o:Oper} {a:Act} {Q:Exit→Act→World→Prop} (hgd:o.guard=none) (s x:Operand) (t:TypeId)
  (ho:o.op = .call { callee:=.builtin .append,args:=#[s,x],argTypes:=#[t,t] })
  (base:Nat) (e:TypeId) (i:TypeInfo) (z:Value) (size bytes:Nat) (ht:P.underlying t=some (.slice e)) (hi:P.info? e=some i) (hz:i.zero=some z)
  (hsize:i.size=size) (hby:i.bytes=bytes) (hzs:z.cells.size=size) (hsz:0 < size)
  (v:Value) (n:Nat) (xs:List Value) (hs:a.eval s=v) (hown:w.ownsRow base e size v n xs)
  (ad:Addr) (m c:Nat) (news:List Value) (hx:a.eval x = .slice (some ad) m c) (hl:news.length=m*size) (hnews:∀ j u,news[j]? = some u→w.cell? (ad.add j)=some u) (h1:∀ u∈news,u.oneCell'=true)
  (h63:n+m≤maxLen) (hbytes:(n+m)*bytes≤140737488355328) (hbase:base≤w.heap.size)
  (h:∀ v' w',w'.ownsRow base e size v' (n+m) (xs++news)→w.grownBy w' v.ownBlock→(∀ g,v'.ownBlock=some g→v.ownBlock=some g∨w.heap.size≤g)→wpList P ops Q rest (a.put o.dst v') w') :
  wpList P ops Q (o :: rest) a w:=by
 refine wpList_plain hgd fun K hK=>?_
 obtain ⟨v',w',hr,h2,h3,h4⟩:=zRX (P:=P) w base t o.type e i z size bytes ht hi hz hsize hby hzs hsz v n xs hown ad m c news hl hnews h1 h63 hbytes hbase
 unfold Oper.wp execOp
 simp only [ho,resolve,invoke,builtin,Sem.run_bind,Sem.run_pure,Result.andThen_ok,List.map_toArray,List.map_cons,List.map_nil,hs,hx,hr]
 exact hK _ _ (h v' w' h2 h3 h4)
end
end
end Go.Proofs.YtpolpdegpbahiaaGreatDoor
