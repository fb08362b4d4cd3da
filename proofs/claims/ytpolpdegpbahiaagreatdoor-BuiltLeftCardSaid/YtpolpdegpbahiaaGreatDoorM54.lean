/- The reference: the numbers of a heap that are left, whether a truth is left. -/
import Derived.RangeFuncNested
import Derived.RangeFuncBound
import Derived.RangeFuncCalls
import Derived.RangeFuncLeaves
import Derived.OwnWalkIn
import Derived.TacticsInMore
import Derived.LoopNIn
import Derived.LoopIn
import Derived.Shelf.RegionOpen
import Derived.Test.YtpolpdegpbahiaaGreatDoorM02
import Derived.Test.YtpolpdegpbahiaaGreatDoorM11
import Derived.Test.YtpolpdegpbahiaaGreatDoorM53
set_option linter.all false
set_option maxRecDepth 100000
set_option maxHeartbeats 12800000

namespace Go.Proofs.YtpolpdegpbahiaaGreatDoor
open Tryz
section
open Go.RowKit Go.Shelf
theorem enter_iss:Enters prog 187:=enters_of func187 (by kernel_rfl) rfl
theorem cmp_iss (w:World) (x:Issue) (vi vd:Value) (n:Int) (hvi:∃ a c l,vi = .slice a l c) (hvd:∃ a c l,vd = .slice a l c) :
  Calls prog 187 #[.agg #[.int .i64 x.d,.int .i64 x.l,.int .u8 x.k,vi,vd],.int .i64 n] w
   fun e w'=>e = .returned (.int .i64 (zLO x.d n))∧Below w.heap.size w w':=by
 obtain ⟨ai,ci,li,rfl⟩:=hvi
 obtain ⟨ad,cd,ld,rfl⟩:=hvd
 have hb:=zB w (.cells #[.int .i64 x.d,.int .i64 x.l,.int .u8 x.k,.slice ai li ci,.slice ad ld cd] 107)
 go_enter func187,ntmps187
 go_wp2_with (go_at_call 155;refine (zGM _ _ _).mono ?_;rintro e w' ⟨rfl,rfl⟩)
 go_ret
 exact ⟨rfl,hb⟩
def RetAt (R:List Issue) (n:Int) (w:World) (e:Ending) (w':World) : Prop :=
 ∃ (i:Nat) (f:Bool),e = .returned (.tuple #[.int .i64 i,.bool f])∧i≤R.length∧(∀ t,t < i→(ht:t < R.length)→R[t].d < n)∧(∀ t,i≤t→(ht:t < R.length)→n≤R[t].d)∧Below w.heap.size w w'
def zKX (R:List Issue) : Prop:=∀ i j,(hij:i≤j)→(h:j < R.length)→(R[i]'(by omega)).d≤R[j].d
theorem search_iss (w:World) (v:Value) (R:List Issue) (n:Int) (h:Sl zAU 5 w v R) (hs:zKX R) (hlen:R.length≤1000) :
  Calls prog 186 #[v,.int .i64 n,.func (.func 187) #[] #[]] w (RetAt R n w):=by
 obtain ⟨a,cap,rfl,_⟩:=zD h
 have S:=zF hs
 have eg:=enter_iss
 unfold Enters at eg
 clear hs
 go_enter func186,ntmps186
 go_wp2
 go_loopw [9,10] (fun s7 s8 wr=>∃ lo hi:Nat,s7 = .int .i64 lo∧s8 = .int .i64 hi∧lo≤hi∧hi≤R.length∧Below w.heap.size w wr∧Hid ((∀ t,t < lo→(ht:t < R.length)→R[t].d < n)∧(∀ t,hi≤t→(ht:t < R.length)→n≤R[t].d))) (fun s7 s8 _=>(intOf s8 - intOf s7).toNat)
 case atStart=>exact ⟨0,R.length,rfl,rfl,Nat.zero_le _,Nat.le_refl _,br_,zF ⟨fun t ht=>absurd ht (Nat.not_lt_zero _),fun t h1 h2=>absurd h2 (by omega)⟩⟩
 case round =>
  obtain ⟨lo,hi,rfl,rfl,hlh,hin,hb,I⟩:=hrel
  have HX:=zF (zZ (zI zP hb h)).2
  by_cases hlt:lo < hi
  ·have hm:(lo+hi) / 2 < R.length:=by omega
   obtain ⟨b,off,rfl,⟨q0,q1,q2⟩,hnum,vi,vd,q3,q4,si,sd⟩:=HX.out ((lo+hi) / 2) hm
   have YL:=zF (fun (hy:R[(lo+hi) / 2].d < n) t (ht:t < (lo+hi) / 2+1) (htl:t < R.length)=>show R[t].d < n from by have:=S.out t ((lo+hi) / 2) (by omega) hm;omega)
   have YR:=zF (fun (hy:¬ R[(lo+hi) / 2].d < n) t (ht:(lo+hi) / 2≤t) (htl:t < R.length)=>show n≤R[t].d from by have:=S.out ((lo+hi) / 2) t ht htl;omega)
   generalize R[(lo+hi) / 2]=y at *
   obtain ⟨ai,ci,rfl,_⟩:=zD si
   obtain ⟨ad,cd,rfl,_⟩:=zD sd
   have HC:=zF (cmp_iss wr y (.slice ai y.items.length ci) (.slice ad y.dims.length cd) n ⟨_,_,_,rfl⟩ ⟨_,_,_,rfl⟩)
   clear si sd h
   unfold zJ at q0 q1 q2 q3 q4
   by_cases hyx:y.d < n
   ·have HC:=zF HC.out
    rw [cmpI_neg hyx] at HC
    go_wp2_with (go_at_fn 187;refine HC.out.mono ?_;rintro e w' ⟨rfl,hb2⟩)
    go_roundw
    ·exact ⟨(lo+hi) / 2+1,hi,by rw [show ((lo:Int)+(hi:Int)) / 2+1=(((lo+hi) / 2+1:Nat) : Int) by omega],rfl,by omega,hin,zA hb hb2,zF ⟨YL.out hyx,I.out.2⟩⟩
    ·simp [intOf];omega
   ·have hc0:¬ zLO y.d n < 0:=by have:=cmpI_not hyx;omega
    generalize zLO y.d n=cc at *
    go_wp2_with (go_at_fn 187;refine HC.out.mono ?_;rintro e w' ⟨rfl,hb2⟩)
    go_roundw
    ·exact ⟨lo,(lo+hi) / 2,rfl,by rw [show ((lo:Int)+(hi:Int)) / 2=(((lo+hi) / 2:Nat) : Int) by omega],by omega,by omega,zA hb hb2,zF ⟨I.out.1,YR.out hyx⟩⟩
    ·simp [intOf];omega
  ·obtain rfl:hi=lo:=by omega
   clear h
   by_cases hn:hi < R.length
   ·obtain ⟨b,off,rfl,⟨q0,q1,q2⟩,hnum,vi,vd,q3,q4,si,sd⟩:=HX.out hi hn
    generalize R[hi]=y at *
    obtain ⟨ai,ci,rfl,_⟩:=zD si
    obtain ⟨ad,cd,rfl,_⟩:=zD sd
    have HC:=zF (cmp_iss wr y (.slice ai y.items.length ci) (.slice ad y.dims.length cd) n ⟨_,_,_,rfl⟩ ⟨_,_,_,rfl⟩)
    clear si sd
    unfold zJ at q0 q1 q2 q3 q4
    go_wp2_with (go_at_fn 187;refine HC.out.mono ?_;rintro e w' ⟨rfl,hb2⟩)
    go_ret2
    exact ⟨hi,_,rfl,hin,I.out.1,I.out.2,zA hb hb2⟩
   ·go_wp2
    go_ret2
    exact ⟨hi,_,rfl,hin,I.out.1,I.out.2,hb⟩
end
section
open Go.RowKit Go.Shelf
attribute [local go_sem] zAN Oper.grows Oper.growUpon Oper.semAt_some
structure BookAt (w:World) (pb:Nat) (vr vd:Value) (R:List Issue) (D:List Int) : Prop where
 c0:zJ w pb 0 vr
 c1:zJ w pb 1 vd
 reg:Sl zAU 5 w vr R
 dr:Sl zAJ 1 w vd D
 cap:∃ a c,vr = .slice a R.length c∧R.length≤c
theorem BookAt.ext {w w':World} {pb:Nat} {vr vd:Value} {R:List Issue} {D:List Int} (h:BookAt w pb vr vd R D) (hb:Below w.heap.size w w') : BookAt w' pb vr vd R D :=
 ⟨zC hb h.c0,zC hb h.c1,zI zP hb h.reg,zI zN hb h.dr,h.cap⟩
structure Iss (w:World) where
 x:Issue
 ai:Option Addr
 ci:Nat
 ad:Option Addr
 cd:Nat
 lies:IssueAt w (.slice ai x.items.length ci) (.slice ad x.dims.length cd) x
def Iss.enc {w:World} (t:Iss w) : Value:=.agg #[.int .i64 t.x.d,.int .i64 t.x.l,.int .u8 t.x.k,.slice t.ai t.x.items.length t.ci,.slice t.ad t.x.dims.length t.cd]
def zGL (R:List Issue) (d:Int) : Nat:=(R.takeWhile (fun x=>decide (x.d < d))).length
theorem place_is (R:List Issue) (d:Int) (i:Nat) (hi:i≤R.length) (h1:∀ t,t < i→(ht:t < R.length)→R[t].d < d) (h2:∀ t,i≤t→(ht:t < R.length)→d≤R[t].d) : i=zGL R d:=by
 induction R generalizing i with
 | nil=>simp at hi;simp [zGL,hi]
 | cons x R ih =>
   cases i with
   | zero =>
     have:=h2 0 (Nat.le_refl _) (by simp)
     simp at this
     simp [zGL,List.takeWhile_cons,show ¬ x.d < d by omega]
   | succ i =>
     have hx:=h1 0 (by omega) (by simp)
     simp at hx
     have e:=ih i (by simpa using hi) (fun t ht hl=>by have:=h1 (t+1) (by omega) (by simp;omega);rwa [List.getElem_cons_succ] at this) (fun t ht hl=>by have:=h2 (t+1) (by omega) (by simp;omega);rwa [List.getElem_cons_succ] at this)
     unfold zGL at e ⊢
     rw [List.takeWhile_cons,if_pos (by simpa using hx),List.length_cons,← e]
def zAM (R:List Issue) (d:Int) : List Issue:=R.filter (fun x=>x.d == d)
theorem issuesOf_cut (R:List Issue) (d:Int) (i k:Nat) (hik:i+k≤R.length) (h1:∀ t,t < i→(ht:t < R.length)→R[t].d < d) (hk:∀ t,i≤t→t < i+k→(ht:t < R.length)→R[t].d=d) (h2:∀ t,i+k≤t→(ht:t < R.length)→d < R[t].d) : zAM R d=(R.drop i).take k:=by
 unfold zAM
 have e:R=R.take i++((R.drop i).take k++(R.drop i).drop k):=by rw [List.take_append_drop,List.take_append_drop]
 conv=>lhs;rw [e]
 rw [List.filter_append,List.filter_append]
 have e1:(R.take i).filter (fun x=>x.d == d)=[]:=by
  rw [List.filter_eq_nil_iff]
  intro x hx
  obtain ⟨t,ht,rfl⟩:=List.getElem_of_mem hx
  rw [List.length_take] at ht
  have:=h1 t (by omega) (by omega)
  rw [List.getElem_take]
  simp;omega
 have e2:((R.drop i).take k).filter (fun x=>x.d == d)=(R.drop i).take k:=by
  rw [List.filter_eq_self]
  intro x hx
  obtain ⟨t,ht,rfl⟩:=List.getElem_of_mem hx
  rw [List.length_take,List.length_drop] at ht
  have:=hk (i+t) (by omega) (by omega) (by omega)
  rw [List.getElem_take,List.getElem_drop]
  simpa using this
 have e3:((R.drop i).drop k).filter (fun x=>x.d == d)=[]:=by
  rw [List.filter_eq_nil_iff]
  intro x hx
  obtain ⟨t,ht,rfl⟩:=List.getElem_of_mem hx
  rw [List.length_drop,List.length_drop] at ht
  have:=h2 (i+(k+t)) (by omega) (by omega)
  rw [List.getElem_drop,List.getElem_drop]
  simp;omega
 rw [e1,e2,e3]
 simp
theorem zNO (w:World) (pb:Nat) (d:Int) :
  Calls prog 149 #[.pointer (some ⟨pb,0,none⟩),.int .i64 d] w fun e w' =>
   e = .returned (.func (.func 185) #[] #[.pointer (some ⟨w.heap.size,0,none⟩),.pointer (some ⟨w.heap.size+1,0,none⟩)]) ∧
   w'=(w.alloc (.cells #[.pointer (some ⟨pb,0,none⟩)] 187)).alloc (.cells #[.int .i64 d] 3):=by
 go_enter func149,ntmps149
 go_wp2
 go_ret
 exact ⟨by simp,rfl⟩
end
section
open Go.RowKit Go.Shelf
attribute [local go_sem] zAN Oper.grows Oper.growUpon Oper.semAt_some
def Placed (i:Nat) (v:Value) (_:World) : Prop:=∃ f:Bool,v = .tuple #[.int .i64 i,.bool f]
theorem zOQ (i:Nat) : zCX (Placed i):=fun _ _ _ _ h=>h
def IsB (v:Value) (_:World) : Prop:=∃ f:Bool,v = .bool f
theorem isB_stays:zCX IsB:=fun _ _ _ _ h=>h
theorem search_place (w:World) (v:Value) (R:List Issue) (n:Int) (h:Sl zAU 5 w v R) (hs:zKX R) (hlen:R.length≤1000) :
  Calls prog 186 #[v,.int .i64 n,.func (.func 187) #[] #[]] w
   fun e w'=>(∃ v',e = .returned v'∧Placed (zGL R n) v' w')∧Below w.heap.size w w':=by
 refine (search_iss w v R n h hs hlen).mono ?_
 rintro e w' ⟨i,f,rfl,hi,h1,h2,hb⟩
 exact ⟨⟨_,rfl,f,by rw [place_is R n i hi h1 h2]⟩,hb⟩
theorem issuesOf_pre (R:List Issue) (d:Int) (i k:Nat) (hik:i+k≤R.length) (h1:∀ t,t < i→(ht:t < R.length)→R[t].d < d) (hk:∀ t,i≤t→t < i+k→(ht:t < R.length)→R[t].d=d) : (R.drop i).take k <+: zAM R d:=by
 unfold zAM
 have e:R=R.take i++((R.drop i).take k++(R.drop i).drop k):=by rw [List.take_append_drop,List.take_append_drop]
 conv=>rhs;rw [e]
 rw [List.filter_append,List.filter_append]
 have e1:(R.take i).filter (fun x=>x.d == d)=[]:=by
  rw [List.filter_eq_nil_iff]
  intro x hx
  obtain ⟨t,ht,rfl⟩:=List.getElem_of_mem hx
  rw [List.length_take] at ht
  have:=h1 t (by omega) (by omega)
  rw [List.getElem_take]
  simp;omega
 have e2:((R.drop i).take k).filter (fun x=>x.d == d)=(R.drop i).take k:=by
  rw [List.filter_eq_self]
  intro x hx
  obtain ⟨t,ht,rfl⟩:=List.getElem_of_mem hx
  rw [List.length_take,List.length_drop] at ht
  have:=hk (i+t) (by omega) (by omega) (by omega)
  rw [List.getElem_take,List.getElem_drop]
  simpa using this
 rw [e1,e2,List.nil_append]
 exact List.prefix_append _ _
theorem place_below (R:List Issue) (d:Int) : ∀ t,t < zGL R d→(ht:t < R.length)→R[t].d < d:=by
 induction R with
 | nil=>intro t _ ht;simp at ht
 | cons x R ih =>
   intro t h ht
   unfold zGL at h
   rw [List.takeWhile_cons] at h
   split at h
   ·rename_i hx
    cases t with
    | zero=>simpa using hx
    | succ t=>rw [List.getElem_cons_succ];exact ih t (by unfold zGL;simpa using h) (by simpa using ht)
   ·simp at h
theorem place_not (R:List Issue) (d:Int) (h:zGL R d < R.length) : d≤R[zGL R d].d:=by
 induction R with
 | nil=>simp at h
 | cons x R ih =>
   by_cases hx:x.d < d
   ·have e:zGL (x :: R) d=zGL R d+1:=by unfold zGL;rw [List.takeWhile_cons,if_pos (by simpa using hx),List.length_cons]
    simp only [e,List.getElem_cons_succ]
    exact ih (by rw [e] at h;simpa using h)
   ·have e:zGL (x :: R) d=0:=by unfold zGL;rw [List.takeWhile_cons,if_neg (by simpa using hx)];rfl
    simp only [e,List.getElem_cons_zero]
    omega
theorem place_above (R:List Issue) (d:Int) (hs:zKX R) : ∀ t,zGL R d≤t→(ht:t < R.length)→d≤R[t].d:=by
 intro t h ht
 have h1:=place_not R d (by omega)
 have h2:=hs (zGL R d) t h ht
 omega
def KpB (n₀ b:Nat) (A B:World) : Prop:=Below n₀ A B∧∀ v,zJ A b 0 v→zJ B b 0 v
theorem kpB_t {n₀ b:Nat} {A B C:World} (h:KpB n₀ b A B) (k:KpB n₀ b B C) : KpB n₀ b A C:=⟨h.1.trans k.1,fun v hv=>k.2 v (h.2 v hv)⟩
theorem kpB_b {n₀ b:Nat} {w:World} (hn:n₀≤w.heap.size) (W:World) (l:Nat) (o o':Obj) (hl:w.heap.size≤l) (h:W.heap[l]? = some o) (hc:o.isCells=false) (hw:o.isWalk=false) : KpB n₀ b W (W.putObj l o') :=
 ⟨belowK_b hn W l o o' hl h hc hw,fun _ hv=>cell_kept hv (grownBy_putObj' W l o') (fun r e=>by cases e;exact ⟨o,h,hc⟩)⟩
theorem kpB_refl (n₀ b:Nat) (A:World) : KpB n₀ b A A:=⟨br_,fun _ h=>h⟩
theorem kpB_alloc {n₀ b:Nat} {A:World} (h:n₀≤A.heap.size) (o:Obj) : KpB n₀ b A (A.alloc o):=⟨(br_).alloc h _,fun _ hv=>zC (zB _ _) hv⟩
theorem kpB_set {n₀ b g j:Nat} {A:World} (h:n₀≤g) (hne:b≠g) (u:Value) : KpB n₀ b A (A.setCell ⟨g,j,none⟩ u):=⟨(br_).setCell (p:=⟨g,j,none⟩) h _,fun _ hv=>zBE hv hne⟩
theorem zJC (n:Nat) (hn:1≤n) (w0 w:World) (hw:Below w0.heap.size w0 w) (pb b2 b3:Nat) (vr vd:Value) (R:List Issue) (D:List Int) (d:Int) (hB:BookAt w0 pb vr vd R D) (h2:zJ w b2 0 (.pointer (some ⟨pb,0,none⟩))) (h3:zJ w b3 0 (.int .i64 d)) (hs:zKX R) (hlen:R.length≤100) (hne:R≠[]) :
  SeqStopsK Fence.wide n prog 185 #[.pointer (some ⟨b2,0,none⟩),.pointer (some ⟨b3,0,none⟩)] (fun t:Iss w0=>#[t.enc]) (KpB w0.heap.size b3)
   (fun xs=>xs.map (·.x)=zAM R d) (fun pre=>pre.map (·.x) <+: zAM R d) (R.length+1) w:=by
 intro l J Jx W hW hJ hJx hY h0
 have hw0:=zA hw hW
 have hB1:=hB.ext hw0
 have c2:=zC hW h2
 have c3:=zC hW h3
 obtain ⟨ar,capr,rfl,hmr⟩:=zD hB.reg
 obtain ⟨b,off,rfl,-⟩:=(zZ hB.reg).2 0 (by cases R with | nil=>exact absurd rfl hne | cons=>simp)
 have hcap:R.length≤capr:=by obtain ⟨a,c,e,h⟩:=hB.cap;cases e;exact h
 have k0:=zG hB1.c0
 have K2:=zG c2
 have K3:=zG c3
 have hreg:=hB1.reg
 refine callsIn_of_wp func185 rfl trivial ?_ rfl
 simp only [ntmps185,List.size_toArray,List.length_cons,List.length_nil,Nat.reduceAdd,Nat.reduceSub,Array.replicate_succ,Array.replicate_zero,List.push_toArray,List.append_toArray,List.nil_append,List.cons_append]
 gi_wp2_with fail
 refine wpIn_wide.2 ?_
 refine zK 12 (by kernel_rfl) (by kernel_rfl) ?_
 simp only [tk_]
 iterate 6 (apply gx_;focus (intro vs xq hd;(try simp [hq_] at hd);simp only [pf_];go_simp;first | exact ⟨br_,rfl⟩ | exact rfl))
 refine zL (Placed (zGL R d)) (zOQ _) ?_ ?_
 ·intro vs xq hd
  (try simp [hq_] at hd)
  simp only [pf_]
  go_simp
  refine (search_place _ _ R d (zI zP (zE W xq) hreg) hs (by omega)).mono ?_
  rintro e w' ⟨⟨v,rfl,hv⟩,hb⟩
  exact ⟨v,rfl,hb,hv⟩
 refine zL (Placed (zGL R d)) (zOQ _) ?_ ?_
 ·intro vs xq hd
  (try simp [hq_] at hd)
  simp only [pf_]
  go_simp
  exact br_
 refine zL (fun v _=>v = .int .i64 (zGL R d)) (fun _ _ _ _ h=>h) ?_ ?_
 ·intro vs xq hd
  (try simp [hq_] at hd)
  simp only [pf_]
  obtain ⟨f,e⟩:=hd
  simp only [e]
  go_simp
  exact br_
 refine zL IsB isB_stays ?_ ?_
 ·intro vs xq hd
  (try simp [hq_] at hd)
  simp only [pf_]
  obtain ⟨f,e⟩:=hd
  simp only [e]
  go_simp
  first | exact ⟨br_,f,rfl⟩ | exact br_ | simp [IsB,Below.refl]
 apply gx_;focus (intro vs xq hd;(try simp [hq_] at hd);simp only [pf_];go_simp;first | exact ⟨br_,rfl⟩ | exact rfl)
 refine zL IsB isB_stays ?_ ?_
 ·intro vs xq hd
  (try simp [hq_] at hd)
  simp only [pf_]
  go_simp
  exact br_
 refine zT rfl (fun vs xq hd=>?_)
 simp [zV,zAD,List.range,List.range.loop] at hd
 simp only [pf_]
 obtain ⟨e0,e1,e2,e3,e4,e5,-,-,e8,-,e10,-⟩:=hd
 generalize vs 0=u0 at *
 generalize vs 1=u1 at *
 generalize vs 2=u2 at *
 generalize vs 3=u3 at *
 generalize vs 4=u4 at *
 generalize vs 5=u5 at *
 generalize vs 6=u6 at *
 generalize vs 7=u7 at *
 generalize vs 8=u8 at *
 generalize vs 9=u9 at *
 generalize vs 10=u10 at *
 generalize vs 11=u11 at *
 subst e10
 have hW1:=zE W xq
 have hJ1:J [] (W.later xq):=hJ _ _ _ none h0 ⟨rfl,rfl,rfl,hW1.size,fun k hk _=>hW1.block k hk⟩ (fun r e=>by cases e)
 have hB2:=hB1.ext hW1
 have c2:=zC hW1 c2
 have c3:=zC hW1 c3
 have hWW:=zA hw0 hW1
 clear k0 K2 K3 h0 hB1 hreg e0 e1 e2 e3 e4 e5 e8
 have hpl:zGL R d≤R.length:=by unfold zGL;exact (List.takeWhile_sublist _).length_le
 have HP1:=zF (place_below R d)
 have HP2:=zF (place_above R d hs)
 generalize zGL R d=i0 at *
 generalize W.later xq=W1 at *
 have hb0:=hB2.c0
 have C3:zJ W1 b3 0 (.int .i64 d):=c3
 unfold zJ at hb0 c2 c3
 change Exit.then _ _ _ _ _
 have hcut:=fun k=>issuesOf_cut R d i0 k
 have HCUT:=zF hcut
 clear hcut
 by_cases hcz:capr=i0
 ·gi_wp2
  gi_loopw [26] (fun i wr=>i = .int .i64 0∧J [] wr) (fun _ _=>0)
  case atStart=>exact ⟨rfl,hJ1⟩
  case round =>
   obtain ⟨rfl,hJs⟩:=hrel
   have hz:R.length - i0=0:=by omega
   gi_wp2
   go_end0
   refine ⟨⟨_,rfl⟩,.inl ⟨[],?_,hJs⟩⟩
   rw [HCUT.out 0 (by omega) HP1.out (fun t h1 h2=>absurd h2 (by omega)) (fun t h1 h2=>absurd h2 (by omega))]
   rfl
 ·gi_wp2
  gi_loopw [26] (fun i wr=>∃ (k:Nat) (pre:List (Iss w0)),i = .int .i64 k∧k≤R.length - i0∧(Below w0.heap.size w0 wr∧zJ wr b3 0 (.int .i64 d))∧J pre wr∧Hid (pre.map (·.x)=(R.drop i0).take k∧∀ t,i0≤t→t < i0+k→(ht:t < R.length)→R[t].d=d)) (fun i _=>R.length - (intOf i).toNat)
  case atStart=>exact ⟨0,[],rfl,by omega,⟨hWW,C3⟩,hJ1,zF ⟨rfl,fun t h1 h2=>absurd h2 (by omega)⟩⟩
  case round =>
   obtain ⟨k,pre,rfl,hk,⟨hb,c3'⟩,hJs,HK⟩:=hrel
   clear hb0 c2 c3 C3 hJ1
   by_cases hlt:k < R.length - i0
   ·have hlt2:i0+k < R.length:=by omega
    obtain ⟨b',off',hh,⟨q0,q1,q2⟩,hnum,vi,vd',q3,q4,si,sd⟩:=(zZ hB.reg).2 (i0+k) hlt2
    cases hh
    have q0:=zC hb q0
    have q1:=zC hb q1
    have q2:=zC hb q2
    have q3:=zC hb q3
    have q4:=zC hb q4
    have c3:=c3'
    have C3:=zF c3'
    clear c3'
    have l3:=zAF c3
    have HX:=zF (HP2.out (i0+k) (by omega) hlt2)
    have HE:Hid (R[i0+k]=R[i0+k]):=rfl
    generalize hx:R[i0+k]=x at *
    have HXX:=zF hx
    clear hx HE
    obtain ⟨ai,ci,rfl,_⟩:=zD si
    obtain ⟨ad,cd,rfl,_⟩:=zD sd
    unfold zJ at q0 q1 q2 q3 q4 c3
    simp only [Nat.add_mul,← Nat.add_assoc] at q0 q1 q2 q3 q4
    by_cases hxd:x.d=d
    ·have hJ3:J pre (wr.alloc (.cells #[.int .i64 d,.int .i64 x.l,.int .u8 x.k,.slice ai x.items.length ci,.slice ad x.dims.length cd] 107)):=hJ _ _ _ none hJs (World.grownBy_alloc _ _ none) (fun r e=>by cases e)
     have hpl2:pre.length < R.length+1:=by
      have:=congrArg List.length HK.out.1
      rw [List.length_map,List.length_take,List.length_drop] at this
      omega
     have HK2:Hid ((pre++[(⟨x,ai,ci,ad,cd,⟨si,sd,hnum⟩⟩ : Iss w0)]).map (·.x)=(R.drop i0).take (k+1)∧∀ t,i0≤t→t < i0+(k+1)→(ht:t < R.length)→R[t].d=d):=by
      constructor
      ·have hkd:k < (R.drop i0).length:=by rw [List.length_drop];exact hlt
       rw [List.map_append,HK.out.1,List.take_succ_eq_append_getElem hkd,List.getElem_drop]
       simp only [HXX.out]
       rfl
      ·intro t h1 h2 ht
       by_cases e:t=i0+k
       ·subst e;rw [HXX.out];exact hxd
       ·exact HK.out.2 t h1 (by omega) ht
     obtain ⟨fn,tmps,assign,body,hy,hR⟩:=hY pre ⟨x,ai,ci,ad,cd,⟨si,sd,hnum⟩⟩ _ hJ3 hpl2
     simp only [Iss.enc,hxd] at hy
     gi_wp2
     refine hR.mono ?_
     rintro e W3 (⟨rfl,hJ4,hk4⟩ | ⟨rfl,hJx4⟩)
     ·gi_wp2
      go_roundw
      case rel =>
       exact ⟨k+1,_,by go_num,by omega,⟨(hb.alloc hb.size _).trans hk4.1,hk4.2 _ (zC (zB _ _) C3.out)⟩,hJ4,HK2⟩
      case measure=>simp [intOf];omega
     ·gi_wp2
      refine bodyPost_ret (results_none rfl _ _ _) rfl ?_
      refine ⟨⟨_,rfl⟩,.inr ⟨_,?_,hJx4⟩⟩
      rw [HK2.out.1]
      exact issuesOf_pre R d i0 (k+1) (by omega) HP1.out HK2.out.2
    ·gi_wp2
     refine ⟨fun _ h=>(by cases h),?_⟩
     have hJ3:J pre (wr.alloc (.cells #[.int .i64 x.d,.int .i64 x.l,.int .u8 x.k,.slice ai x.items.length ci,.slice ad x.dims.length cd] 107)):=hJ _ _ _ none hJs (World.grownBy_alloc _ _ none) (fun r e=>by cases e)
     gi_wp2
     refine bodyPost_ret (results_none rfl _ _ _) rfl ?_
     refine ⟨⟨_,rfl⟩,.inl ⟨pre,?_,hJ3⟩⟩
     rw [HCUT.out k (by omega) HP1.out HK.out.2 (fun t h1 h2=>by
      have:=hs (i0+k) t h1 h2
      rw [HXX.out] at this
      have:=HX.out
      omega)]
     exact HK.out.1
   ·gi_wp2
    go_end0
    refine ⟨⟨_,rfl⟩,.inl ⟨pre,?_,hJs⟩⟩
    have e:i0+k=R.length:=by omega
    rw [HCUT.out k (by omega) HP1.out HK.out.2 (fun t h1 h2=>absurd h2 (by omega))]
    exact HK.out.1
end
section
open Go.RowKit Go.Shelf
attribute [local go_sem] zAN Oper.grows Oper.growUpon Oper.semAt_some
theorem has_int (w:World) (pb:Nat) (vr vd:Value) (R:List Issue) (D:List Int) (d:Int) (hc:zJ w pb 1 vd) (hd:Sl zAJ 1 w vd D) (hs:Mount D) (hlen:D.length≤1000) :
  Calls prog 148 #[.pointer (some ⟨pb,0,none⟩),.int .i64 d] w fun e w'=>e = .returned (.bool (decide (d∈D)))∧w=w':=by
 obtain ⟨a,cap,rfl,_⟩:=zD hd
 have HD:=zF hd
 clear hd
 unfold zJ at hc
 go_enter func148,ntmps148
 go_wp2_with fail
 refine (search_int _ _ D d HD.out hs hlen).mono ?_
 rintro e w' ⟨⟨i,rfl⟩,rfl⟩
 go_wp2
 go_ret
 simp
theorem fresh_cell (W:World) (v:Value) (t:TypeId) : (W.alloc (.cells #[v] t)).cell? ⟨W.heap.size,0,none⟩=some v∧(W.alloc (.cells #[v] t)).frozen? ⟨W.heap.size,0,none⟩=false:=by
 constructor <;> simp
theorem two_a (w:World) (u v:Value) (s t:TypeId) (g:Nat) (h:w.heap.size=g) : zJ ((w.alloc (.cells #[u] s)).alloc (.cells #[v] t)) g 0 u:=by
 subst h
 exact (zDY w #[u] #[v] s t).2.1 0 _ rfl
theorem two_b (w:World) (u v:Value) (s t:TypeId) (g:Nat) (h:w.heap.size+1=g) : zJ ((w.alloc (.cells #[u] s)).alloc (.cells #[v] t)) g 0 v:=by
 subst h
 exact (zDY w #[u] #[v] s t).2.2 0 _ rfl
theorem fresh_alloc {W:World} {a:Addr} {v:Value} (o:Obj) (h:W.cell? a=some v∧W.frozen? a=false) : (W.alloc o).cell? a=some v∧(W.alloc o).frozen? a=false :=
 ⟨cell_kept h.1 (World.grownBy_alloc W o none) (fun r e=>by cases e),(frozen_kept h.1 (World.grownBy_alloc W o none) (fun r e=>by cases e)).trans h.2⟩
theorem last_num (w:World) (pb:Nat) (vr vd:Value) (R:List Issue) (D:List Int) (d:Int) (hB:BookAt w pb vr vd R D) (hs:zKX R) (hlen:R.length≤100) (hne:R≠[]) :
  Calls prog 110 #[.pointer (some ⟨pb,0,none⟩),.int .i64 d] w fun e w'=>e = .returned (.int .i64 (zAM R d).length)∧Below w.heap.size w w':=by
 refine (callsIn_wide (n:=3)).1 ?_
 refine callsIn_of_wp_marks func110 rfl trivial ?_ rfl
 simp only [ntmps110,List.size_toArray,List.length_cons,List.length_nil,Nat.reduceAdd,Nat.reduceSub,Array.replicate_succ,Array.replicate_zero,List.push_toArray,List.append_toArray,List.nil_append,List.cons_append]
 gi_wp2_with (refine ⟨trivial,?_⟩;gi_at_call 149;refine (callsIn_wide.2 (zNO _ _ _)).mono ?_;rintro e w' ⟨rfl,rfl⟩)
 have hB0:Below w.heap.size w (((w.alloc (.cells #[.int .i64 0] 3)).alloc (.cells #[.pointer (some ⟨pb,0,none⟩)] 187)).alloc (.cells #[.int .i64 d] 3)) :=
  (((Below.refl _ w).alloc (Nat.le_refl _) _).alloc (by simp) _).alloc (by simp;omega) _
 have hc:=fresh_alloc (.cells #[.int .i64 d] 3) (fresh_alloc (.cells #[.pointer (some ⟨pb,0,none⟩)] 187) (fresh_cell w (.int .i64 0) 3))
 have h2:zJ (((w.alloc (.cells #[.int .i64 0] 3)).alloc (.cells #[.pointer (some ⟨pb,0,none⟩)] 187)).alloc (.cells #[.int .i64 d] 3)) (w.heap.size+1) 0 (.pointer (some ⟨pb,0,none⟩)) :=
  two_a _ _ _ _ _ _ (by simp)
 have h3:zJ (((w.alloc (.cells #[.int .i64 0] 3)).alloc (.cells #[.pointer (some ⟨pb,0,none⟩)] 187)).alloc (.cells #[.int .i64 d] 3)) (w.heap.size+2) 0 (.int .i64 d) :=
  two_b _ _ _ _ _ _ (by simp)
 refine wpIn_rangeFunc_ownF (n:=3) rfl (by decide) (gf:=185) (lb:=#[.pointer (some ⟨w.heap.size+1,0,none⟩),.pointer (some ⟨w.heap.size+2,0,none⟩)]) rfl trivial (enters_of func185 (by kernel_rfl) rfl)
  (zJC 2 (by decide) w _ hB0 pb (w.heap.size+1) (w.heap.size+2) vr vd R D d hB h2 h3 hs hlen hne) kpB_t (kpB_b (by simp;omega)) (br_) (fun _=>rfl)
  (fun pre W=>(W.cell? ⟨w.heap.size,0,none⟩=some (.int .i64 pre.length)∧W.frozen? ⟨w.heap.size,0,none⟩=false)∧Below w.heap.size w W)
  (fun _ _ _=>False)
  (OwnFrom.and (Own.from (fun s A B row hs hg hr=>⟨cell_kept hs.1 hg hr,(frozen_kept hs.1 hg hr).trans hs.2⟩) _) (ownFrom_below (Nat.le_refl _) (by simp;omega)))
  (fun _ _ _ _ _ hs _ _=>hs)
  ⟨hc,hB0⟩
  (fun x=>{ tmps:=#[.pointer (some ⟨pb,0,none⟩),.int .i64 d,undef,undef,.int .i64 0,.pointer (some ⟨w.heap.size,0,none⟩),.pointer (some ⟨pb,0,none⟩),.int .i64 d,.func (.func 185) #[] #[.pointer (some ⟨w.heap.size+1,0,none⟩),.pointer (some ⟨w.heap.size+2,0,none⟩)],x.enc,undef,undef,undef],defers:=[] }) ?assign ?body ?done ?stop
 case assign =>
  intro l x W K hK
  gi_wp2
  simp [List.zip_toArray]
  exact hK
 case body =>
  rintro l pre x W ⟨⟨hc,hf⟩,hB⟩ hlt
  have hw:IntKind.i64.wrap ((pre.length:Int)+1)=(pre.length:Int)+1:=IntWalk.i64_in _ (by omega)
  gi_wp2
  exact ⟨KeepsOthers.setCell _ _ _,kpB_set (Nat.le_refl _) (by omega) _,⟨by rw [List.length_append,List.length_singleton];push_cast;exact World.cell?_setCell_same' _ _ _ (by rw [hc];rfl),by rw [World.frozen?_setCell];exact hf⟩,hB.setCell (p:=⟨w.heap.size,0,none⟩) (Nat.le_refl _) _⟩
 case done =>
  rintro D ys W hD hS ⟨⟨hc,_⟩,hB⟩ hK
  gi_wp2
  refine ⟨by simp,.inl ⟨_,_,rfl,run_takeDeferred hK,?_⟩⟩
  refine ⟨_,results_tmp rfl _ _ _,?_,hB.trans (belowK_b (w:=w) (Nat.le_refl _) W D _ _ (by simp at hD;omega) hK rfl rfl)⟩
  rw [← hS,List.length_map]
  simp
 case stop =>
  rintro D c pre W _ _ h _
  exact h.elim
end
section
open Go.RowKit Go.Shelf
attribute [local go_sem] zAN Oper.grows Oper.growUpon Oper.semAt_some
def Lay (W:World) (B:Nat) (cs:Array Value) (t:TypeId) : Prop:=W.heap[B]? = some (.cells cs t (0,0))
theorem Lay.lt {W:World} {B:Nat} {cs:Array Value} {t:TypeId} (h:Lay W B cs t) : B < W.heap.size:=(Array.getElem?_eq_some_iff.1 h).1
theorem Lay.cell {W:World} {B:Nat} {cs:Array Value} {t:TypeId} (h:Lay W B cs t) (j:Nat) (v:Value) (hv:cs[j]? = some v) : W.cell? ⟨B,j,none⟩=some v:=by
 simp [World.cell?,show W.heap[B]? = _ from h,hv]
theorem Lay.frozen {W:World} {B:Nat} {cs:Array Value} {t:TypeId} (h:Lay W B cs t) (j:Nat) : W.frozen? ⟨B,j,none⟩=false:=by simp [World.frozen?,show W.heap[B]? = _ from h]
theorem Lay.new (W:World) (t:TypeId) (cs:Array Value) : Lay (W.alloc (.cells cs t)) W.heap.size cs t:=World.alloc_heap_new W _
theorem Lay.kept {W W':World} {row:Option Nat} {B:Nat} {cs:Array Value} {t:TypeId} (h:Lay W B cs t) (hg:W.grownBy W' row) (hne:some B≠row) : Lay W' B cs t:=(hg.block B h.lt hne).trans h
theorem Lay.alloc {W:World} {B:Nat} {cs:Array Value} {t:TypeId} (h:Lay W B cs t) (o:Obj) : Lay (W.alloc o) B cs t:=h.kept (World.grownBy_alloc W o none) (by simp)
theorem Lay.keptN {W W':World} {row:Option Nat} {B:Nat} {cs:Array Value} {t:TypeId} (h:Lay W B cs t) (hg:W.grownBy W' row) (hr:∀ r,row=some r→∃ o:Obj,W.heap[r]? = some o∧o.isCells=false) : Lay W' B cs t :=
 h.kept hg (fun e=>by
  obtain ⟨o,ho,hc⟩:=hr B e.symm
  rw [show W.heap[B]? = _ from h] at ho
  cases ho
  cases hc)
theorem Lay.ext {W W':World} {B:Nat} {cs:Array Value} {t:TypeId} (h:Lay W B cs t) (hb:Below W.heap.size W W') : Lay W' B cs t:=(hb.block B h.lt).trans h
theorem Lay.ext2 {W W':World} {B:Nat} {cs:Array Value} {t:TypeId} (hb:Below W.heap.size W W') (h:Lay W B cs t) : Lay W' B cs t:=h.ext hb
theorem zEE {W W':World} (h:Below W.heap.size W W') : KeepsOthers W W':=⟨h.size,fun k o hk _=>(h.block k (Array.getElem?_eq_some_iff.1 hk).1).trans hk⟩
theorem kpB_below {n₀ b:Nat} {W W':World} (hn:n₀≤W.heap.size) (h:Below W.heap.size W W') : KpB n₀ b W W':=⟨h.mono hn,fun _ hv=>zC h hv⟩
theorem six_cells (W:World) (g h:Nat) (hne:g≠h) (v0 v1 v2 v3 v4 v5 u0 u1 u2 u3 u4 u5:Value) (k0:W.cell? ⟨g,0,none⟩=some u0) (k1:W.cell? ⟨g,1,none⟩=some u1) (k2:W.cell? ⟨g,2,none⟩=some u2) (k3:W.cell? ⟨g,3,none⟩=some u3) (k4:W.cell? ⟨g,4,none⟩=some u4) (k5:W.cell? ⟨h,0,none⟩=some u5) (W':World)
  (e:W'=(((((W.setCell ⟨g,0,none⟩ v0).setCell ⟨g,1,none⟩ v1).setCell ⟨g,2,none⟩ v2).setCell ⟨g,3,none⟩ v3).setCell ⟨g,4,none⟩ v4).setCell ⟨h,0,none⟩ v5) :
  W'.cell? ⟨g,0,none⟩=some v0∧W'.cell? ⟨g,1,none⟩=some v1∧W'.cell? ⟨g,2,none⟩=some v2∧W'.cell? ⟨g,3,none⟩=some v3∧W'.cell? ⟨g,4,none⟩=some v4∧W'.cell? ⟨h,0,none⟩=some v5:=by
 subst e
 have hn:h≠g:=fun e=>hne e.symm
 refine ⟨?_,?_,?_,?_,?_,?_⟩
 ·simp [World.cell?_setCell_other,hn,World.cell?_setCell_same',k0]
 ·simp [World.cell?_setCell_other,hn,World.cell?_setCell_same',k1]
 ·simp [World.cell?_setCell_other,hn,World.cell?_setCell_same',k2]
 ·simp [World.cell?_setCell_other,hn,World.cell?_setCell_same',k3]
 ·simp [World.cell?_setCell_other,hn,World.cell?_setCell_same',k4]
 ·refine World.cell?_setCell_same' _ _ _ ?_
  simp [World.cell?_setCell_other,hne,k5]
theorem six_keep (W:World) (g h:Nat) (v0 v1 v2 v3 v4 v5:Value) (W':World)
  (e:W'=(((((W.setCell ⟨g,0,none⟩ v0).setCell ⟨g,1,none⟩ v1).setCell ⟨g,2,none⟩ v2).setCell ⟨g,3,none⟩ v3).setCell ⟨g,4,none⟩ v4).setCell ⟨h,0,none⟩ v5) : KeepsOthers W W':=by
 subst e
 exact ((((((KeepsOthers.setCell _ _ _).trans (KeepsOthers.setCell _ _ _)).trans (KeepsOthers.setCell _ _ _)).trans (KeepsOthers.setCell _ _ _)).trans (KeepsOthers.setCell _ _ _)).trans (KeepsOthers.setCell _ _ _))
theorem six_below (n₀:Nat) (w W:World) (hb:Below n₀ w W) (g h:Nat) (hg:n₀≤g) (hh:n₀≤h) (v0 v1 v2 v3 v4 v5:Value) (W':World)
  (e:W'=(((((W.setCell ⟨g,0,none⟩ v0).setCell ⟨g,1,none⟩ v1).setCell ⟨g,2,none⟩ v2).setCell ⟨g,3,none⟩ v3).setCell ⟨g,4,none⟩ v4).setCell ⟨h,0,none⟩ v5) : Below n₀ w W':=by
 subst e
 exact ((((((hb.setCell (p:=⟨g,0,none⟩) hg _).setCell (p:=⟨g,1,none⟩) hg _).setCell (p:=⟨g,2,none⟩) hg _).setCell (p:=⟨g,3,none⟩) hg _).setCell (p:=⟨g,4,none⟩) hg _).setCell (p:=⟨h,0,none⟩) hh _)
theorem find_prefix (R:List Issue) (d l:Int) (pre:List Issue) (x:Issue) (hp:pre++[x] <+: zAM R d) (hn:∀ y∈pre,zEZ d l y=false) (hx:zEZ d l x=true) : zDB R d l=some x:=by
 have e:zDB R d l=(zAM R d).find? (zEZ d l):=by
  unfold zDB zAM
  rw [List.find?_filter]
  congr 1
  funext y
  unfold zEZ
  by_cases h:y.d=d
  ·by_cases h2:y.l=l <;> simp [h,h2]
  ·simp [h]
 obtain ⟨r,hr⟩:=hp
 rw [e,← hr,List.append_assoc,List.find?_append,List.find?_eq_none.2 (fun y hy=>by simp [hn y hy])]
 simp [hx]
theorem find_all (R:List Issue) (d l:Int) (hn:∀ y∈zAM R d,zEZ d l y=false) : zDB R d l=none:=by
 refine findR_none R d l fun j hj=>?_
 by_cases h:R[j].d=d
 ·exact hn _ (by unfold zAM;rw [List.mem_filter];exact ⟨List.getElem_mem hj,by simp [h]⟩)
 ·unfold zEZ;simp [h]
theorem find_iss0 (w0 w:World) (hw0:Below w0.heap.size w0 w) (pb:Nat) (vr vd:Value) (R:List Issue) (D:List Int) (d l:Int) (hB:BookAt w0 pb vr vd R D) (hs:zKX R) (hlen:R.length≤100) (hne:R≠[]) :
  Calls prog 124 #[.pointer (some ⟨pb,0,none⟩),.agg #[.int .i64 d,.int .i64 l]] w (RetFindW R d l w0 w):=by
 have hws:=hw0.size
 refine (callsIn_wide (n:=3)).1 ?_
 refine callsIn_of_wp_marks func124 rfl trivial ?_ rfl
 simp only [ntmps124,List.size_toArray,List.length_cons,List.length_nil,Nat.reduceAdd,Nat.reduceSub,Array.replicate_succ,Array.replicate_zero,List.push_toArray,List.append_toArray,List.nil_append,List.cons_append]
 gi_wp2_with (refine ⟨trivial,?_⟩;gi_at_call 149;refine (callsIn_wide.2 (zNO _ _ _)).mono ?_;rintro e w' ⟨rfl,rfl⟩)
 have a1:=((Lay.new w 34 #[.int .i64 d,.int .i64 l]).alloc (.cells zHS 107)).alloc (.cells #[.bool false] 4)
 have a2:=(Lay.new (w.alloc (.cells #[.int .i64 d,.int .i64 l] 34)) 107 zHS).alloc (.cells #[.bool false] 4)
 have a3:=Lay.new ((w.alloc (.cells #[.int .i64 d,.int .i64 l] 34)).alloc (.cells zHS 107)) 4 #[.bool false]
 have hB0:Below w.heap.size w (((w.alloc (.cells #[.int .i64 d,.int .i64 l] 34)).alloc (.cells zHS 107)).alloc (.cells #[.bool false] 4)) :=
  (((Below.refl _ w).alloc (Nat.le_refl _) _).alloc (by simp) _).alloc (by simp;omega) _
 have hsz:(((w.alloc (.cells #[.int .i64 d,.int .i64 l] 34)).alloc (.cells zHS 107)).alloc (.cells #[.bool false] 4)).heap.size=w.heap.size+3:=by simp
 simp only [World.size_alloc] at a2 a3
 unfold zHS at a1 a2 a3 hB0 hsz
 obtain ⟨W1,hW1⟩ : ∃ W1,((w.alloc (.cells #[.int .i64 d,.int .i64 l] 34)).alloc (.cells #[.int .i64 0,.int .i64 0,.int .u8 0,.slice none 0 0,.slice none 0 0] 107)).alloc (.cells #[.bool false] 4)=W1:=⟨_,rfl⟩
 rw [hW1] at a1 a2 a3 hB0 hsz ⊢
 clear hW1
 have h2:=two_a W1 (.pointer (some ⟨pb,0,none⟩)) (.int .i64 d) 187 3 (w.heap.size+1+1+1) (by omega)
 have h3:=two_b W1 (.pointer (some ⟨pb,0,none⟩)) (.int .i64 d) 187 3 (w.heap.size+1+1+1+1) (by omega)
 have a1:=(a1.alloc (.cells #[.pointer (some ⟨pb,0,none⟩)] 187)).alloc (.cells #[.int .i64 d] 3)
 have a2:=(a2.alloc (.cells #[.pointer (some ⟨pb,0,none⟩)] 187)).alloc (.cells #[.int .i64 d] 3)
 have a3:=(a3.alloc (.cells #[.pointer (some ⟨pb,0,none⟩)] 187)).alloc (.cells #[.int .i64 d] 3)
 have hB0:=(hB0.alloc hB0.size (.cells #[.pointer (some ⟨pb,0,none⟩)] 187)).alloc (by simp;omega) (.cells #[.int .i64 d] 3)
 have hsz:((W1.alloc (.cells #[.pointer (some ⟨pb,0,none⟩)] 187)).alloc (.cells #[.int .i64 d] 3)).heap.size=w.heap.size+5:=by simp [hsz]
 generalize (W1.alloc _).alloc _=W0 at *
 refine wpIn_rangeFunc_ownH (n:=3) rfl (by decide) (gf:=185) (lb:=#[.pointer (some ⟨w.heap.size+1+1+1,0,none⟩),.pointer (some ⟨w.heap.size+1+1+1+1,0,none⟩)]) rfl trivial (enters_of func185 (by kernel_rfl) rfl)
  (zJC 2 (by decide) w0 _ (zA hw0 hB0) pb (w.heap.size+1+1+1) (w.heap.size+1+1+1+1) vr vd R D d hB h2 h3 hs hlen hne) kpB_t (kpB_b (by omega)) (br_) (fun _=>rfl)
  (fun pre W=>((Lay W w.heap.size #[.int .i64 d,.int .i64 l] 34∧Lay W (w.heap.size+1) #[.int .i64 0,.int .i64 0,.int .u8 0,.slice none 0 0,.slice none 0 0] 107∧Lay W (w.heap.size+1+1) #[.bool false] 4)∧(∀ t∈pre,zEZ d l t.x=false))∧Below w.heap.size w W)
  (fun c pre W=>(c = .ret∧∃ p0 t,pre=p0++[t]∧(∀ t∈p0,zEZ d l t.x=false)∧zEZ d l t.x=true ∧
   (W.cell? ⟨w.heap.size+1,0,none⟩=some (.int .i64 t.x.d)∧W.cell? ⟨w.heap.size+1,1,none⟩=some (.int .i64 t.x.l)∧W.cell? ⟨w.heap.size+1,2,none⟩=some (.int .u8 t.x.k)∧W.cell? ⟨w.heap.size+1,3,none⟩=some (.slice t.ai t.x.items.length t.ci)∧W.cell? ⟨w.heap.size+1,4,none⟩=some (.slice t.ad t.x.dims.length t.cd)∧W.cell? ⟨w.heap.size+1+1,0,none⟩=some (.bool true)))∧Below w.heap.size w W)
  (OwnFrom.and (fun s A B row hs hg hr=>⟨⟨hs.1.1.keptN hg (fun r e=>(hr r e).2),hs.1.2.1.keptN hg (fun r e=>(hr r e).2),hs.1.2.2.keptN hg (fun r e=>(hr r e).2)⟩,hs.2⟩) (ownFrom_below (Nat.le_refl _) (by omega)))
  (fun c=>OwnFrom.and (fun s A B row hs hg hr=>by
   obtain ⟨hc,p0,t,h1,h2,h3,k0,k1,k2,k3,k4,k5⟩:=hs
   exact ⟨hc,p0,t,h1,h2,h3,cell_kept k0 hg (fun r e=>(hr r e).2),cell_kept k1 hg (fun r e=>(hr r e).2),cell_kept k2 hg (fun r e=>(hr r e).2),cell_kept k3 hg (fun r e=>(hr r e).2),cell_kept k4 hg (fun r e=>(hr r e).2),cell_kept k5 hg (fun r e=>(hr r e).2)⟩) (ownFrom_below (Nat.le_refl _) (by omega)))
  ⟨⟨⟨a1,a2,a3⟩,fun _ h=>by cases h⟩,hB0⟩
  (fun x a' W=>∃ Bx,w.heap.size+1+1 < Bx∧Lay W Bx #[.int .i64 x.x.d,.int .i64 x.x.l,.int .u8 x.x.k,.slice x.ai x.x.items.length x.ci,.slice x.ad x.x.dims.length x.cd] 107∧a' = { tmps:=#[.pointer (some ⟨pb,0,none⟩),.agg #[.int .i64 d,.int .i64 l],undef,.pointer (some ⟨w.heap.size,0,none⟩),.pointer (some ⟨w.heap.size+1,0,none⟩),.pointer (some ⟨w.heap.size+1+1,0,none⟩),.pointer (some ⟨Bx,0,none⟩),.pointer (some ⟨pb,0,none⟩),.pointer (some ⟨w.heap.size,0,none⟩),.int .i64 d,.func (.func 185) #[] #[.pointer (some ⟨w.heap.size+1+1+1,0,none⟩),.pointer (some ⟨w.heap.size+1+1+1+1,0,none⟩)],x.enc,undef,undef,undef,undef,undef,undef],defers:=[] })
  (fun x a' _ X Y row hs hg hr=>by obtain ⟨Bx,h1,h2,h3⟩:=hs;exact ⟨Bx,h1,h2.keptN hg (fun r e=>(hr r e).2),h3⟩)
  ?assign ?body ?done ?stop
 case assign =>
  rintro l0 pre x W K ⟨⟨⟨b1,b2,b3⟩,hn⟩,hB1⟩ hK
  simp [List.zip_toArray]
  have hK':=hK _ (W.alloc (.cells #[.int .i64 x.x.d,.int .i64 x.x.l,.int .u8 x.x.k,.slice x.ai x.x.items.length x.ci,.slice x.ad x.x.dims.length x.cd] 107)) ((KeepsOthers.alloc _ _).from _) (kpB_alloc (Nat.le_trans hws hB1.size) _) ⟨⟨⟨b1.alloc _,b2.alloc _,b3.alloc _⟩,hn⟩,hB1.alloc hB1.size _⟩ ⟨W.heap.size,b3.lt,Lay.new W _ _,rfl⟩
  clear hK
  unfold Iss.enc at hK' ⊢
  gi_wp2
  exact hK'
 case body =>
  rintro l0 pre x a' W hl ⟨r,hr⟩ ⟨⟨⟨b1,b2,b3⟩,hn⟩,hB1⟩ ⟨Bx,hBx,bX,rfl⟩ hlt
  have lX:=bX.lt
  have l1:=b1.lt
  have l2:=b2.lt
  have l3:=b3.lt
  have hsW:=hB1.size
  have hn1:w.heap.size≤W.heap.size:=hB1.size
  have BX:=zF bX
  have B1:=zF b1
  have B2:=zF b2
  have B3:=zF b3
  have c0:=bX.cell 0 _ rfl
  have c1:=bX.cell 1 _ rfl
  have c2:=bX.cell 2 _ rfl
  have c3:=bX.cell 3 _ rfl
  have c4:=bX.cell 4 _ rfl
  have d0:=b1.cell 0 _ rfl
  have d1:=b1.cell 1 _ rfl
  have HN:=zF hn
  have HBW:=zF hB1
  have HIR:zEZ d l x.x=(x.x.d == d && x.x.l == l):=rfl
  have HREF:=zF HIR
  clear bX b1 b2 b3 hn hB1 hr hB hs hlen h2 h3 a1 a2 a3 hB0 HIR
  have hnm:∀ W1,CallsIn (Fence.wide.inRound l0) 0 prog 160 #[.agg #[.int .i64 x.x.d,.int .i64 x.x.l,.int .u8 x.x.k,.slice x.ai x.x.items.length x.ci,.slice x.ad x.x.dims.length x.cd]] W1 (fun e w'=>e = .returned (.agg #[.int .i64 x.x.d,.int .i64 x.x.l])∧Below W1.heap.size W1 w'):=fun W1=>CallsIn.inRound l0 (callsIn_wide.2 (name_sheet W1 x.x _ _ _ _ _ _ _ _ rfl rfl))
  have hmx:prog.follows .mixedOrders=true:=by kernel_rfl
  by_cases g1:(x.x.d == d)=true
  ·by_cases g2:(x.x.l == l)=true
   ·gi_wp2
    gi_region_with_o (refine ⟨trivial,?_⟩;refine (hnm _).mono ?_;rintro e w' ⟨rfl,hb⟩;have EX:=Lay.ext2 hb BX.out;have E1:=Lay.ext2 hb B1.out;have E2:=Lay.ext2 hb B2.out;have E3:=Lay.ext2 hb B3.out;have hbw:=zA ((Below.refl _ W).drew) hb;have d0':=E1.cell 0 _ rfl;have d1':=E1.cell 1 _ rfl)
    all_goals have c0':=EX.cell 0 _ rfl
    all_goals have c1':=EX.cell 1 _ rfl
    all_goals have c2':=EX.cell 2 _ rfl
    all_goals have c3':=EX.cell 3 _ rfl
    all_goals have c4':=EX.cell 4 _ rfl
    all_goals have k0':=E2.cell 0 _ rfl
    all_goals have k1':=E2.cell 1 _ rfl
    all_goals have k2':=E2.cell 2 _ rfl
    all_goals have k3':=E2.cell 3 _ rfl
    all_goals have k4':=E2.cell 4 _ rfl
    all_goals have k5':=E3.cell 0 _ rfl
    all_goals have f0':=E2.frozen 0
    all_goals have f1':=E2.frozen 1
    all_goals have f2':=E2.frozen 2
    all_goals have f3':=E2.frozen 3
    all_goals have f4':=E2.frozen 4
    all_goals have f5':=E3.frozen 0
    all_goals gi_wp2
    all_goals exact ⟨((zEE hbw).trans (six_keep w' (w.heap.size+1) (w.heap.size+1+1) _ _ _ _ _ _ _ rfl)).from _,⟨rfl,pre,x,rfl,HN.out,by simp [zEZ,g1,g2],six_cells w' _ _ (by omega) _ _ _ _ _ _ _ _ _ _ _ _ k0' k1' k2' k3' k4' k5' _ rfl⟩,six_below _ w w' (zA HBW.out hbw) _ _ (by omega) (by omega) _ _ _ _ _ _ _ rfl⟩
   ·have g2':(x.x.l == l)=false:=by simpa using g2
    gi_wp2
    gi_region_with_o (refine ⟨trivial,?_⟩;refine (hnm _).mono ?_;rintro e w' ⟨rfl,hb⟩;have EX:=Lay.ext2 hb BX.out;have E1:=Lay.ext2 hb B1.out;have E2:=Lay.ext2 hb B2.out;have E3:=Lay.ext2 hb B3.out;have hbw:=zA ((Below.refl _ W).drew) hb;have d0':=E1.cell 0 _ rfl;have d1':=E1.cell 1 _ rfl)
    all_goals gi_wp2
    all_goals exact ⟨(zEE hbw).from _,kpB_below (Nat.le_trans hws hn1) hbw,⟨⟨⟨E1,E2,E3⟩,fun t ht=>by
     rcases List.mem_append.1 ht with h | h
     ·exact HN.out t h
     ·rw [List.mem_singleton] at h;subst h;unfold zEZ;simp [g2']⟩,zA HBW.out hbw⟩⟩
  ·have g1':(x.x.d == d)=false:=by simpa using g1
   gi_wp2
   gi_region_with_o (refine ⟨trivial,?_⟩;refine (hnm _).mono ?_;rintro e w' ⟨rfl,hb⟩;have EX:=Lay.ext2 hb BX.out;have E1:=Lay.ext2 hb B1.out;have E2:=Lay.ext2 hb B2.out;have E3:=Lay.ext2 hb B3.out;have hbw:=zA ((Below.refl _ W).drew) hb;have d0':=E1.cell 0 _ rfl;have d1':=E1.cell 1 _ rfl)
   all_goals gi_wp2
   all_goals exact ⟨(zEE hbw).from _,kpB_below (Nat.le_trans hws hn1) hbw,⟨⟨⟨E1,E2,E3⟩,fun t ht=>by
    rcases List.mem_append.1 ht with h | h
    ·exact HN.out t h
    ·rw [List.mem_singleton] at h;subst h;unfold zEZ;simp [g1']⟩,zA HBW.out hbw⟩⟩
 case done =>
  rintro D ys W hD hS ⟨⟨⟨b1,b2,b3⟩,hn⟩,hB1⟩ hK
  have k0:=b2.cell 0 _ rfl
  have k1:=b2.cell 1 _ rfl
  have k2:=b2.cell 2 _ rfl
  have k3:=b2.cell 3 _ rfl
  have k4:=b2.cell 4 _ rfl
  have k5:=b3.cell 0 _ rfl
  have f0:=b2.frozen 0
  have f1:=b2.frozen 1
  have f2:=b2.frozen 2
  have f3:=b2.frozen 3
  have f4:=b2.frozen 4
  have f5:=b3.frozen 0
  gi_wp2
  obtain ⟨Wd,hWd⟩ : ∃ Wd,(((((W.setCell ⟨w.heap.size+1,0,none⟩ (.int .i64 0)).setCell ⟨w.heap.size+1,1,none⟩ (.int .i64 0)).setCell ⟨w.heap.size+1,2,none⟩ (.int .u8 0)).setCell ⟨w.heap.size+1,3,none⟩ (.slice none 0 0)).setCell ⟨w.heap.size+1,4,none⟩ (.slice none 0 0)).setCell ⟨w.heap.size+1+1,0,none⟩ (.bool false)=Wd:=⟨_,rfl⟩
  rw [hWd]
  have hK':=(six_keep W _ _ _ _ _ _ _ _ Wd hWd.symm).same D _ hK rfl
  obtain ⟨y0,y1,y2,y3,y4,y5⟩:=six_cells W _ _ (by omega) _ _ _ _ _ _ _ _ _ _ _ _ k0 k1 k2 k3 k4 k5 Wd hWd.symm
  have hbd:=six_below _ w W hB1 (w.heap.size+1) (w.heap.size+1+1) (by omega) (by omega) _ _ _ _ _ _ Wd hWd.symm
  have kp:∀ (j b:Nat) (v:Value),Wd.cell? ⟨b,j,none⟩=some v→(Wd.putObj D (.deferred none)).cell? ⟨b,j,none⟩=some v:=fun j b v h=>cell_kept h (grownBy_putObj' Wd D (.deferred none)) (fun r e=>by cases e;exact ⟨_,hK',rfl⟩)
  refine ⟨by simp,.inl ⟨_,_,rfl,run_takeDeferred hK',?_⟩⟩
  refine ⟨.tuple #[.agg #[.int .i64 0,.int .i64 0,.int .u8 0,.slice none 0 0,.slice none 0 0],.bool false],by simp [results,results124,go_sem,kp _ _ _ y0,kp _ _ _ y1,kp _ _ _ y2,kp _ _ _ y3,kp _ _ _ y4,kp _ _ _ y5],hbd.trans (belowK_b (w:=w) (Nat.le_refl _) Wd D _ _ (by omega) hK' rfl rfl),.inr ⟨find_all R d l (fun y hy=>?_),rfl⟩⟩
  rw [← hS] at hy
  obtain ⟨t,ht,rfl⟩:=List.mem_map.1 hy
  exact hn t ht
 case stop =>
  rintro D c pre W hD hS ⟨⟨rfl,p0,t,rfl,h1,h2,k0,k1,k2,k3,k4,k5⟩,hB1⟩ hK
  gi_wp2
  have kp:∀ (j b:Nat) (v:Value),W.cell? ⟨b,j,none⟩=some v→(W.putObj D (.deferred none)).cell? ⟨b,j,none⟩=some v:=fun j b v h=>cell_kept h (grownBy_putObj' W D (.deferred none)) (fun r e=>by cases e;exact ⟨_,hK,rfl⟩)
  refine ⟨by simp,.inl ⟨_,_,rfl,run_takeDeferred hK,?_⟩⟩
  have hW:=hB1.trans (belowK_b (w:=w) (Nat.le_refl _) W D _ (.deferred none) (by omega) hK rfl rfl)
  refine ⟨.tuple #[.agg #[.int .i64 t.x.d,.int .i64 t.x.l,.int .u8 t.x.k,.slice t.ai t.x.items.length t.ci,.slice t.ad t.x.dims.length t.cd],.bool true],by simp [results,results124,go_sem,kp _ _ _ k0,kp _ _ _ k1,kp _ _ _ k2,kp _ _ _ k3,kp _ _ _ k4,kp _ _ _ k5],hW,.inl ⟨t.x,_,_,?_,rfl,t.lies.items,t.lies.dims,t.lies.num⟩⟩
  refine find_prefix R d l (p0.map (·.x)) t.x (by simpa using hS) (fun y hy=>?_) h2
  obtain ⟨u,hu,rfl⟩:=List.mem_map.1 hy
  exact h1 u hu
theorem find_iss (w:World) (pb:Nat) (vr vd:Value) (R:List Issue) (D:List Int) (d l:Int) (hB:BookAt w pb vr vd R D) (hs:zKX R) (hlen:R.length≤100) (hne:R≠[]) :
  Calls prog 124 #[.pointer (some ⟨pb,0,none⟩),.agg #[.int .i64 d,.int .i64 l]] w (RetFind R d l w):=by
 refine (find_iss0 w w (br_) pb vr vd R D d l hB hs hlen hne).mono ?_
 rintro e w' ⟨hb,h⟩
 refine ⟨hb,?_⟩
 rcases h with ⟨x,vi,vd',h1,h2,h3⟩ | h
 ·exact .inl ⟨x,vi,vd',h1,h2,h3.ext hb⟩
 ·exact .inr h
end
section
open Go.RowKit
attribute [local go_sem] zAN Oper.grows Oper.growUpon
theorem zBC {W:World} {B:Nat} {cs:Array Value} {t:TypeId} (h:Lay W B cs t) (j:Nat) (u:Value) : Lay (W.setCell ⟨B,j,none⟩ u) B (cs.setIfInBounds j u) t:=heap_setCell_same W B j cs t u h
theorem zBD {W:World} {B G:Nat} {cs:Array Value} {t:TypeId} (h:Lay W B cs t) (hne:B≠G) (j:Nat) (u:Value) : Lay (W.setCell ⟨G,j,none⟩ u) B cs t:=(Below.heap_setCell W ⟨G,j,none⟩ u B (by simpa using hne)).trans h
def NewBx (base:Nat) (cs:Array Value) (t:TypeId) (v:Value) (w:World) : Prop:=∃ b,v = .pointer (some ⟨b,0,none⟩)∧base≤b∧Lay w b cs t
theorem zDC (base:Nat) (cs:Array Value) (t:TypeId) : zCX (NewBx base cs t):=fun _ _ _ hb ⟨b,e,h1,h2⟩=>⟨b,e,h1,h2.ext hb⟩
def TwoBox (w1:World) (i j:Nat) (cs cs':Array Value) (t t':TypeId) (vs:Nat→Value) (w:World) : Prop :=
 ∃ ba bb,vs i = .pointer (some ⟨ba,0,none⟩)∧vs j = .pointer (some ⟨bb,0,none⟩)∧w1.heap.size≤ba∧w1.heap.size≤bb∧ba≠bb∧Lay w ba cs t∧Lay w bb cs' t'∧Below w1.heap.size w1 w
theorem lay_apart {W:World} {B G:Nat} {cs cs':Array Value} {t t':TypeId} (h:Lay W B cs t) (h':Lay W G cs' t') (hne:t≠t') : B≠G:=by
 rintro rfl
 unfold Lay at h h'
 rw [h] at h'
 cases h'
 exact hne rfl
def oldV (T:List (List Int)) (h:Int) (j:Nat) (n:Int) : Int:=if h < 0 then 0 else zPD (zHH (T.getD h.toNat []) j) (atD (T.getD h.toNat []) j) n
def zML (ms:List Int) (T:List (List Int)) (x:Has) (r:Report) (n:Int) : Prop:=zJO x r.k (zDL x r.l (oldV T x.h (ms.idxOf r.m) n))
structure ViewAt (w:World) (vp vt:Value) (X:List Has) (T:List (List Int)) : Prop where
 reports:Sl AtHas 3 w vp X
 takes:Sl zKW 1 w vt T
theorem ViewAt.ext {w w':World} {vp vt:Value} {X:List Has} {T:List (List Int)} (hb:Below w.heap.size w w') (h:ViewAt w vp vt X T) : ViewAt w' vp vt X T:=⟨zI zRN hb h.reports,zI zCC hb h.takes⟩
structure ViewOk (ms:List Int) (rs:List Report) (X:List Has) (T:List (List Int)) : Prop where
 len:X.length=rs.length
 row:∀ t∈T,t.length=ms.length∧∀ x∈t,0≤x∧x≤16777216000000
 has:∀ x∈X,-1≤x.h∧x.h < T.length∧0≤x.c∧x.c≤16777216000000∧I64 (x.l - 1)
 rep:∀ r∈rs,r.m∈ms∧1≤r.k∧r.k≤3
theorem old08_v (w:World) (vp vt:Value) (T:List (List Int)) (N:Nat) (h:Int) (j:Nat) (n:Int) (hT:Sl zKW 1 w vt T) (hrow:∀ t∈T,t.length=N∧∀ x∈t,0≤x∧x≤16777216000000) (hh:h < T.length) (hj:j < N) (hn:0≤n∧n≤200) :
  Calls prog 96 #[.agg #[vp,vt],.int .i64 h,.int .i64 j,.int .i64 n] w fun e w'=>e = .returned (.int .i64 (oldV T h j n))∧Below w.heap.size w w':=by
 unfold oldV
 by_cases h0:h < 0
 ·rw [if_pos h0]
  exact old08_none w vp vt h j n h0
 ·rw [if_neg h0]
  obtain ⟨k,rfl⟩ : ∃ k:Nat,h=k:=⟨h.toNat,by omega⟩
  have hk:k < T.length:=by omega
  have hr:=hrow _ (List.getElem_mem hk)
  rw [Int.toNat_natCast,show T.getD k []=T[k] by rw [List.getD_eq_getElem?_getD,List.getElem?_eq_getElem hk];rfl]
  exact old08 w vp vt T k j n hT hk (by omega) (fun x hx=>(hr.2 x hx).1) (by omega)
theorem oldV_bd {T:List (List Int)} {N:Nat} (hrow:∀ t∈T,t.length=N∧∀ x∈t,0≤x∧x≤16777216000000) {h:Int} (hh:h < T.length) {j:Nat} (hj:j < N) {n:Int} (hn:0≤n∧n≤200) : 0≤oldV T h j n∧oldV T h j n≤200:=by
 unfold oldV
 by_cases h0:h < 0
 ·rw [if_pos h0];omega
 ·rw [if_neg h0]
  obtain ⟨k,rfl⟩ : ∃ k:Nat,h=k:=⟨h.toNat,by omega⟩
  have hk:k < T.length:=by omega
  have hr:=hrow _ (List.getElem_mem hk)
  rw [Int.toNat_natCast,show T.getD k []=T[k] by rw [List.getD_eq_getElem?_getD,List.getElem?_eq_getElem hk];rfl]
  have h1:=sumTo_nn (fun x hx=>(hr.2 x hx).1) j
  have h2:0≤atD T[k] j:=by rw [atD_in (by omega)];exact (hr.2 _ (List.getElem_mem _)).1
  unfold zPD
  omega
theorem zOG (w:World) (v:Value) (l:List Int) (n:Int) (h:Sl zAJ 1 w v l) (hn:n∈l) :
  Calls prog 80 #[v,.int .i64 n] w fun e w'=>e = .returned (.int .i64 (l.idxOf n:Nat))∧Below w.heap.size w w':=by
 refine (zLY w v l n h).mono ?_
 rintro e w' ⟨rfl,rfl⟩
 exact ⟨by rw [zPY l n hn],br_⟩
theorem holds08 (w:World) (vr vn vm vh vs vp vt:Value) (o:Int) (ms:List Int) (rs:List Report) (X:List Has) (T:List (List Int)) (hms:Sl zAJ 1 w vm ms) (hrs:Sl zDD 5 w vs rs) (hV:ViewAt w vp vt X T) (hO:ViewOk ms rs X T)
  (i:Nat) (hi:i < rs.length) (hiX:i < X.length) (n:Int) (hn:0≤n∧n≤200) :
  Calls prog 147 #[.agg #[vr,vn,.int .i64 o,vm,vh,vs],.agg #[vp,vt],.int .i64 i,.int .i64 n] w (zAK (zML ms T X[i] rs[i] n) w):=by
 obtain ⟨hb1,B1,B2⟩:=zDY w #[vr,vn,.int .i64 o,vm,vh,vs] #[vp,vt] 32 130
 have c3:=B1 3 vm rfl
 have c5:=B1 5 vs rfl
 have d0:=B2 0 vp rfl
 have d1:=B2 1 vt rfl
 clear B1 B2
 obtain ⟨am,capm,rfl,_⟩:=zD hms
 obtain ⟨az,capz,rfl,_⟩:=zD hrs
 obtain ⟨ap,capp,rfl,_⟩:=zD hV.reports
 obtain ⟨at',capt,rfl,_⟩:=zD hV.takes
 have hX:=hO.has _ (List.getElem_mem hiX)
 have hR:=hO.rep _ (List.getElem_mem hi)
 have hrow:=zF hO.row
 have hms1:=zF (zI zN hb1 hms)
 have hT1:=zF (zI zCC hb1 hV.takes)
 obtain ⟨bz,oz,rfl,⟨r0,r1,r2,r3,r4⟩,hrn⟩:=(zZ (zI zAV hb1 hrs)).2 i hi
 obtain ⟨bp,op,rfl,⟨x0,x1,x2⟩,hxn⟩:=(zZ (zI zRN hb1 hV.reports)).2 i hiX
 have hix:ms.idxOf rs[i].m < ms.length:=List.idxOf_lt_length_of_mem hR.1
 have hob:=zF (oldV_bd hO.row hX.2.1 hix hn)
 have HI:=zF (And.intro hi hiX)
 have HPL:=zF hO.len
 clear hms hrs hV hO
 have hi1:(i:Int) < rs.length:=by omega
 have hi2:(i:Int) < X.length:=by omega
 generalize hr:rs[i]=r at *
 generalize hx:X[i]=x at *
 clear hr hx hi hiX
 have CA:=zF (And.intro c3 (And.intro c5 (And.intro d0 d1)))
 have CR:=zF (And.intro r0 (And.intro r1 (And.intro r2 (And.intro r3 r4))))
 have CX:=zF (And.intro x0 (And.intro x1 x2))
 have hwl:w.heap.size+1 < ((w.alloc (.cells #[vr,vn,.int .i64 o,.slice am ms.length capm,vh,.slice (some ⟨bz,oz,none⟩) rs.length capz] 32)).alloc (.cells #[.slice (some ⟨bp,op,none⟩) X.length capp,.slice at' T.length capt] 130)).heap.size:=by simp
 clear c3 c5 d0 d1 r0 r1 r2 r3 r4 x0 x1 x2
 go_enter func147,ntmps147
 go_wp2
 generalize (w.alloc _).alloc _=w1 at *
 have HB1:=zF hb1
 clear hb1
 have c5:∀ xq,(w1.later xq).cell? ⟨w.heap.size,5,none⟩=some (.slice (some ⟨bz,oz,none⟩) rs.length capz):=fun xq=>zC (zE w1 xq) CA.out.2.1
 have d0:∀ xq,(w1.later xq).cell? ⟨w.heap.size+1,0,none⟩=some (.slice (some ⟨bp,op,none⟩) X.length capp):=fun xq=>zC (zE w1 xq) CA.out.2.2.1
 have r0:∀ xq,(w1.later xq).cell? ⟨bz,oz+i*5,none⟩=some (.int .i64 r.num):=fun xq=>zC (zE w1 xq) CR.out.1
 have r1:∀ xq,(w1.later xq).cell? ⟨bz,oz+i*5+1,none⟩=some (.int .i64 r.m):=fun xq=>zC (zE w1 xq) CR.out.2.1
 have r2:∀ xq,(w1.later xq).cell? ⟨bz,oz+i*5+2,none⟩=some (.int .i64 r.d):=fun xq=>zC (zE w1 xq) CR.out.2.2.1
 have r3:∀ xq,(w1.later xq).cell? ⟨bz,oz+i*5+3,none⟩=some (.int .i64 r.l):=fun xq=>zC (zE w1 xq) CR.out.2.2.2.1
 have r4:∀ xq,(w1.later xq).cell? ⟨bz,oz+i*5+4,none⟩=some (.int .u8 r.k):=fun xq=>zC (zE w1 xq) CR.out.2.2.2.2
 have x0:∀ xq,(w1.later xq).cell? ⟨bp,op+i*3,none⟩=some (.int .i64 x.c):=fun xq=>zC (zE w1 xq) CX.out.1
 have x1:∀ xq,(w1.later xq).cell? ⟨bp,op+i*3+1,none⟩=some (.int .i64 x.l):=fun xq=>zC (zE w1 xq) CX.out.2.1
 have x2:∀ xq,(w1.later xq).cell? ⟨bp,op+i*3+2,none⟩=some (.int .i64 x.h):=fun xq=>zC (zE w1 xq) CX.out.2.2
 refine wp_region_growS 12 [5,6,7,8,9]
  (TwoBox w1 10 11 #[.int .i64 r.num,.int .i64 r.m,.int .i64 r.d,.int .i64 r.l,.int .u8 r.k] #[.int .i64 0,.int .i64 0,.int .i64 0] 116 168)
  (fun k v=>(k=5→v = .pointer (some ⟨w.heap.size+1,0,none⟩))∧(k=6→v = .slice (some ⟨bp,op,none⟩) X.length capp)∧(k=7→v = .int .i64 i)∧(k=8→v = .pointer (some ⟨bp,op+i*3,none⟩))∧(k=9→v = .agg #[.int .i64 x.c,.int .i64 x.l,.int .i64 x.h]))
  (by kernel_rfl) (by kernel_rfl) rfl ?_ ?_
 ·rintro vs vs' w' he ⟨ba,bb,h1,h2,h3⟩
  exact ⟨ba,bb,by rw [← he 10 (by decide) (by decide)];exact h1,by rw [← he 11 (by decide) (by decide)];exact h2,h3⟩
 simp only [tk_]
 iterate 10 (apply gx_;focus (intro vs xq hd;(try simp [hq_] at hd);simp only [pf_];go_simp;exact ⟨br_,rfl⟩))
 refine zL (NewBx w1.heap.size #[.int .i64 0,.int .i64 0,.int .i64 0,.int .i64 0,.int .u8 0] 116) (zDC _ _ _) ?_ ?_
 ·intro vs xq hd
  (try simp [hq_] at hd)
  simp only [pf_]
  go_simp
  exact ⟨zB _ _,_,rfl,(zE w1 xq).size,Lay.new _ _ _⟩
 refine zL (NewBx w1.heap.size #[.int .i64 0,.int .i64 0,.int .i64 0] 168) (zDC _ _ _) ?_ ?_
 ·intro vs xq hd
  (try simp [hq_] at hd)
  simp only [pf_]
  go_simp
  exact ⟨zB _ _,_,rfl,(zE w1 xq).size,Lay.new _ _ _⟩
 refine ⟨?_,?_,?_,?_⟩
 ·intro k hk v w' hf
  simp only [List.mem_cons,List.not_mem_nil,or_false] at hk
  rcases hk with rfl | rfl | rfl | rfl | rfl
  all_goals
   simp [zAD] at hf
   simp
   exact hf
 ·intro k op' hk hop vs w' hK hd
  obtain ⟨ba,bb,_,_,_,_,_,_,_,hbw⟩:=hK
  have d0:=zC hbw CA.out.2.2.1
  have x0:=zC hbw CX.out.1
  have x1:=zC hbw CX.out.2.1
  have x2:=zC hbw CX.out.2.2
  unfold zJ at d0 x0 x1 x2
  simp only [List.mem_cons,List.not_mem_nil,or_false] at hk
  rcases hk with rfl | rfl | rfl | rfl | rfl
  all_goals
   simp only [List.getElem?_cons_succ,List.getElem?_cons_zero,Option.some.injEq] at hop
   subst hop
   simp [Oper.waitsOn,Region.binds,List.filter_cons,List.filter_nil] at hd
   simp only [pf_]
  ·exact ⟨_,by go_simp;rfl,by simp⟩
  ·rw [hd]
   exact ⟨_,by go_simp;rfl,by simp⟩
  ·exact ⟨_,by go_simp;rfl,by simp⟩
  ·rw [hd.1,hd.2]
   exact ⟨_,by go_simp;rfl,by simp⟩
  ·rw [hd]
   exact ⟨_,by go_simp;rfl,by simp⟩
 ·intro vs w' hb hf
  have h4:=hf 4 (by decide) (by decide)
  have h10:=hf 10 (by decide) (by decide)
  have h11:=hf 11 (by decide) (by decide)
  simp [zAD] at h4 h10 h11
  clear hf
  obtain ⟨ba,e10,hba,hLa⟩:=h10
  obtain ⟨bb,e11,hbb,hLb⟩:=h11
  have hne:=lay_apart hLa hLb (by decide)
  have q0:=hLa.cell 0 _ rfl
  have q1:=hLa.cell 1 _ rfl
  have q2:=hLa.cell 2 _ rfl
  have q3:=hLa.cell 3 _ rfl
  have q4:=hLa.cell 4 _ rfl
  have f0:=hLa.frozen 0
  have f1:=hLa.frozen 1
  have f2:=hLa.frozen 2
  have f3:=hLa.frozen 3
  have f4:=hLa.frozen 4
  have hl:=hLa.lt
  have HLA:=zF hLa
  have HLB:=zF hLb
  clear hLa hLb
  simp only [pf_]
  rw [h4,e10]
  go_simp
  refine ⟨ba,bb,e10,e11,hba,hbb,hne,?_,?_,?_⟩
  ·exact zBC (zBC (zBC (zBC (zBC HLA.out 0 (.int .i64 r.num)) 1 (.int .i64 r.m)) 2 (.int .i64 r.d)) 3 (.int .i64 r.l)) 4 (.int .u8 r.k)
  ·exact zBD (zBD (zBD (zBD (zBD HLB.out hne.symm _ _) hne.symm _ _) hne.symm _ _) hne.symm _ _) hne.symm _ _
  ·exact zH hba (zH hba (zH hba (zH hba (zH hba hb))))
 ·intro vs w' hK hG
  obtain ⟨ba,bb,e10,e11,hba,hbb,hne,hLa,hLb,hbw⟩:=hK
  have h9:=(hG 9 (by decide)).2.2.2.2 rfl
  clear hG
  have q0:=hLb.cell 0 _ rfl
  have q1:=hLb.cell 1 _ rfl
  have q2:=hLb.cell 2 _ rfl
  have f0:=hLb.frozen 0
  have f1:=hLb.frozen 1
  have f2:=hLb.frozen 2
  have hl:=hLb.lt
  simp only [pf_]
  simp only [Nat.zero_add,Nat.reduceAdd]
  rw [e10,e11,h9]
  go_wp2
  have hLa2:=zBD (zBD (zBD hLa hne 0 (.int .i64 x.c)) hne 1 (.int .i64 x.l)) hne 2 (.int .i64 x.h)
  have hLb2:=zBC (zBC (zBC hLb 0 (.int .i64 x.c)) 1 (.int .i64 x.l)) 2 (.int .i64 x.h)
  have hbw2:=zH (j:=2) (u:=.int .i64 x.h) hbb (zH (j:=1) (u:=.int .i64 x.l) hbb (zH (j:=0) (u:=.int .i64 x.c) hbb hbw))
  clear q0 q1 q2 f0 f1 f2 hl hLa hLb c5 d0 r0 r1 r2 r3 r4 x0 x1 x2 hbw h9 e10 e11
  generalize ((w'.setCell _ _).setCell _ _).setCell _ _=w5 at *
  have HLA:=zF hLa2
  have HLB:=zF hLb2
  have HB5:=zF hbw2
  have hal:=hLa2.lt
  have hbl:=hLb2.lt
  have c3:∀ xq,(w5.later xq).cell? ⟨w.heap.size,3,none⟩=some (.slice am ms.length capm):=fun xq=>zC (zE w5 xq) (zC HB5.out CA.out.1)
  have d0:∀ xq,(w5.later xq).cell? ⟨w.heap.size+1,0,none⟩=some (.slice (some ⟨bp,op,none⟩) X.length capp):=fun xq=>zC (zE w5 xq) (zC HB5.out CA.out.2.2.1)
  have d1:∀ xq,(w5.later xq).cell? ⟨w.heap.size+1,1,none⟩=some (.slice at' T.length capt):=fun xq=>zC (zE w5 xq) (zC HB5.out CA.out.2.2.2)
  have r1:∀ xq,(w5.later xq).cell? ⟨ba,1,none⟩=some (.int .i64 r.m):=fun xq=>(HLA.out.ext (zE w5 xq)).cell 1 _ rfl
  have r3:∀ xq,(w5.later xq).cell? ⟨ba,3,none⟩=some (.int .i64 r.l):=fun xq=>(HLA.out.ext (zE w5 xq)).cell 3 _ rfl
  have x0:∀ xq,(w5.later xq).cell? ⟨bb,0,none⟩=some (.int .i64 x.c):=fun xq=>(HLB.out.ext (zE w5 xq)).cell 0 _ rfl
  have x1:∀ xq,(w5.later xq).cell? ⟨bb,1,none⟩=some (.int .i64 x.l):=fun xq=>(HLB.out.ext (zE w5 xq)).cell 1 _ rfl
  have x2:∀ xq,(w5.later xq).cell? ⟨bb,2,none⟩=some (.int .i64 x.h):=fun xq=>(HLB.out.ext (zE w5 xq)).cell 2 _ rfl
  have HXX:=zF hX
  have HRR:=zF hR
  clear hLa2 hLb2 hbw2 hX hR
  refine zK 14 (by kernel_rfl) (by kernel_rfl) ?_
  simp only [tk_]
  iterate 10 (apply gx_;focus (intro vs xq hd;(try simp [hq_] at hd);simp only [pf_];go_simp;exact ⟨br_,rfl⟩))
  refine zAE ?_
  apply Exists.intro
  refine ⟨fun vs xq hd=>?_,?_⟩
  ·(try simp [hq_] at hd)
   simp only [pf_]
   go_simp
   exact zOG _ _ ms r.m (zI zN (zA HB5.out (zE w5 xq)) hms1.out) HRR.out.1
  apply gx_;focus (intro vs xq hd;(try simp [hq_] at hd);simp only [pf_];go_simp;exact ⟨br_,rfl⟩)
  refine zAE ?_
  apply Exists.intro
  refine ⟨fun vs xq hd=>?_,?_⟩
  ·(try simp [hq_] at hd)
   simp only [pf_]
   go_simp
   exact old08_v _ _ _ T ms.length x.h (ms.idxOf r.m) n (zI zCC (zA HB5.out (zE w5 xq)) hT1.out) hrow.out HXX.out.2.1 hix hn
  refine zAE ?_
  apply Exists.intro
  refine ⟨fun vs xq hd=>?_,?_⟩
  ·(try simp [hq_] at hd)
   simp only [pf_]
   go_simp
   exact held08 _ x r.l _ (by have:=hob.out;have:=HXX.out;unfold I64;omega) HXX.out.2.2.2.2
  refine zT rfl (fun vs xq hd=>?_)
  simp [zV,zAD,List.range,List.range.loop] at hd
  simp only [pf_]
  obtain ⟨e0,e1,e2,e3,e4,e5,e6,e7,e8,e9,e10,e11,e12,e13⟩:=hd
  simp only [Nat.zero_add,Nat.reduceAdd] at *
  simp only [e0,e1,e2,e3,e4,e5,e6,e7,e8,e9,e10,e11,e12,e13]
  clear e0 e1 e2 e3 e4 e5 e6 e7 e8 e9 e10 e11 e12 e13
  have HH:Hid (zML ms T x r n↔zJO x r.k (zDL x r.l (oldV T x.h (ms.idxOf r.m) n))):=Iff.rfl
  generalize zDL x r.l (oldV T x.h (ms.idxOf r.m) n)=z at *
  have k4:=(HLA.out.ext (zE w5 xq)).cell 4 _ rfl
  have k0:=x0 xq
  have hbx:=zE w5 xq
  clear c3 d0 d1 r1 r3 x0 x1 x2
  generalize w5.later xq=w6 at *
  have HBF:=zF (zA HB1.out (zA HB5.out hbx))
  have k4:w6.cell? ⟨ba,4,none⟩=some (.int .u8 r.k):=k4
  clear hbx HLA HLB HB5
  by_cases h1:r.k=1
  ·have h1':(r.k == 1)=true:=by simpa using h1
   have HV:Hid (zML ms T x r n↔0 < z):=HH.out.trans (by unfold zJO;rw [if_pos h1])
   clear h1 HH
   go_wp2
   go_ret
   exact ⟨_,rfl,by rw [HV.out];simp,HBF.out⟩
  ·have h1':(r.k == 1)=false:=by simpa using h1
   by_cases h2:r.k=2
   ·have h2':(r.k == 2)=true:=by simpa using h2
    have HV:Hid (zML ms T x r n↔0 < z∧z=x.c):=HH.out.trans (by unfold zJO;rw [if_neg h1,if_pos h2])
    clear h1 h2 HH
    by_cases h3:0 < z
    ·go_wp2
     go_ret
     exact ⟨_,rfl,by rw [HV.out];simp [h3],HBF.out⟩
    ·go_wp2
     go_ret
     exact ⟨_,rfl,by rw [HV.out];simp;omega,HBF.out⟩
   ·have h2':(r.k == 2)=false:=by simpa using h2
    have HV:Hid (zML ms T x r n↔z=0):=HH.out.trans (by unfold zJO;rw [if_neg h1,if_neg h2])
    clear h1 h2 HH
    go_wp2
    go_ret
    exact ⟨_,rfl,by rw [HV.out];simp,HBF.out⟩
end
end Go.Proofs.YtpolpdegpbahiaaGreatDoor
namespace Go.Proofs.YtpolpdegpbahiaaGreatDoor
def meet (a b:Span) : Span:=⟨max a.lo b.lo,min a.hi b.hi⟩
theorem meet_has {a b:Span} {n:Int} : (meet a b).has n↔a.has n∧b.has n:=by unfold meet Span.has;simp only;omega
section
variable (H:Report→Has) (B:Report→Int)
def cutOf (r:Report) : Span:=zBN (H r) (B r) r.l r.k
open Classical in
noncomputable def zKS (L:List Span) : List Report→Option (List Span)
 | []=>some L
 | r :: rs=>if 0≤(H r).h then (if (meet (L.getD (H r).h.toNat zDV) (cutOf H B r)).lo≤(meet (L.getD (H r).h.toNat zDV) (cutOf H B r)).hi then zKS (L.set (H r).h.toNat (meet (L.getD (H r).h.toNat zDV) (cutOf H B r))) rs else none)
   else if cutOf H B r=zDV then none else zKS L rs
def NumLeft (rs:List Report) (k:Nat) (n:Int) : Prop:=∀ r∈rs,(H r).h=k→(cutOf H B r).has n
theorem leftGo_some {L L':List Span} {rs:List Report} (hin:∀ r∈rs,(H r).h < L.length) (hne:∀ k (hk:k < L.length),L[k].lo≤L[k].hi) (h:zKS H B L rs=some L') :
  (∀ r∈rs,(H r).h < 0→cutOf H B r≠zDV)∧∃ hl:L'.length=L.length,∀ k (hk:k < L.length),L'[k].lo≤L'[k].hi∧∀ n,L'[k].has n↔L[k].has n∧NumLeft H B rs k n:=by
 induction rs generalizing L with
 | nil =>
   simp only [zKS,Option.some.injEq] at h
   subst h
   exact ⟨fun r hr=>by simp at hr,rfl,fun k hk=>⟨hne k hk,fun n=>⟨fun hn=>⟨hn,fun r hr=>by simp at hr⟩,fun hn=>hn.1⟩⟩⟩
 | cons r rs ih =>
   simp only [zKS] at h
   by_cases h0:0≤(H r).h
   ·rw [if_pos h0] at h
    split at h
    ·rename_i hm
     have hr:=hin r (List.mem_cons_self ..)
     generalize hk0:(H r).h.toNat=k0 at *
     have hk0':(H r).h=k0:=by omega
     have hkl:k0 < L.length:=by omega
     have hg:L.getD k0 zDV=L[k0]:=by rw [List.getD_eq_getElem?_getD,List.getElem?_eq_getElem hkl];rfl
     rw [hg] at h hm
     obtain ⟨h1,hl,h2⟩:=ih (L:=L.set k0 (meet L[k0] (cutOf H B r))) (fun r' hr'=>by rw [List.length_set];exact hin r' (List.mem_cons_of_mem _ hr')) (fun k hk=>by
      rw [List.length_set] at hk
      by_cases e:k0=k
      ·subst e;simp only [List.getElem_set_self];exact hm
      ·rw [List.getElem_set_ne e];exact hne k hk) h
     rw [List.length_set] at hl
     refine ⟨fun r' hr' hn=>?_,hl,fun k hk=>?_⟩
     ·rcases List.mem_cons.1 hr' with rfl | hr'
      ·omega
      ·exact h1 r' hr' hn
     ·obtain ⟨h3,h4⟩:=h2 k (by rw [List.length_set];exact hk)
      refine ⟨h3,fun n=>(h4 n).trans ?_⟩
      by_cases e:k0=k
      ·subst e
       simp only [List.getElem_set_self]
       rw [meet_has]
       constructor
       ·rintro ⟨⟨a1,a2⟩,a3⟩
        refine ⟨a1,fun r' hr' he=>?_⟩
        rcases List.mem_cons.1 hr' with rfl | hr'
        ·exact a2
        ·exact a3 r' hr' he
       ·rintro ⟨a1,a2⟩
        exact ⟨⟨a1,a2 r (List.mem_cons_self ..) hk0'⟩,fun r' hr' he=>a2 r' (List.mem_cons_of_mem _ hr') he⟩
      ·rw [List.getElem_set_ne e]
       constructor
       ·rintro ⟨a1,a2⟩
        refine ⟨a1,fun r' hr' he=>?_⟩
        rcases List.mem_cons.1 hr' with rfl | hr'
        ·omega
        ·exact a2 r' hr' he
       ·rintro ⟨a1,a2⟩
        exact ⟨a1,fun r' hr' he=>a2 r' (List.mem_cons_of_mem _ hr') he⟩
    ·cases h
   ·rw [if_neg h0] at h
    split at h
    ·cases h
    ·rename_i hc
     obtain ⟨h1,hl,h2⟩:=ih (fun r' hr'=>hin r' (List.mem_cons_of_mem _ hr')) hne h
     refine ⟨fun r' hr' hn=>?_,hl,fun k hk=>?_⟩
     ·rcases List.mem_cons.1 hr' with rfl | hr'
      ·exact hc
      ·exact h1 r' hr' hn
     ·obtain ⟨h3,h4⟩:=h2 k hk
      refine ⟨h3,fun n=>(h4 n).trans ⟨fun ⟨a1,a2⟩=>⟨a1,fun r' hr' he=>?_⟩,fun ⟨a1,a2⟩=>⟨a1,fun r' hr' he=>a2 r' (List.mem_cons_of_mem _ hr') he⟩⟩⟩
      rcases List.mem_cons.1 hr' with rfl | hr'
      ·omega
      ·exact a2 r' hr' he
theorem leftGo_none {L:List Span} {rs:List Report} (hin:∀ r∈rs,(H r).h < L.length) (h:zKS H B L rs=none) :
  (∃ r∈rs,(H r).h < 0∧cutOf H B r=zDV)∨∃ k,∃ hk:k < L.length,∀ n,¬ (L[k].has n∧NumLeft H B rs k n):=by
 induction rs generalizing L with
 | nil=>simp [zKS] at h
 | cons r rs ih =>
   simp only [zKS] at h
   by_cases h0:0≤(H r).h
   ·rw [if_pos h0] at h
    have hr:=hin r (List.mem_cons_self ..)
    generalize hk0:(H r).h.toNat=k0 at *
    have hk0':(H r).h=k0:=by omega
    have hkl:k0 < L.length:=by omega
    have hg:L.getD k0 zDV=L[k0]:=by rw [List.getD_eq_getElem?_getD,List.getElem?_eq_getElem hkl];rfl
    rw [hg] at h
    split at h
    ·rcases ih (L:=L.set k0 (meet L[k0] (cutOf H B r))) (fun r' hr'=>by rw [List.length_set];exact hin r' (List.mem_cons_of_mem _ hr')) h with ⟨r',hr',h1⟩ | ⟨k,hk,h1⟩
     ·exact .inl ⟨r',List.mem_cons_of_mem _ hr',h1⟩
     ·rw [List.length_set] at hk
      refine .inr ⟨k,hk,fun n ⟨a1,a2⟩=>h1 n ⟨?_,fun r' hr' he=>a2 r' (List.mem_cons_of_mem _ hr') he⟩⟩
      by_cases e:k0=k
      ·subst e
       simp only [List.getElem_set_self]
       exact meet_has.2 ⟨a1,a2 r (List.mem_cons_self ..) hk0'⟩
      ·rw [List.getElem_set_ne e];exact a1
    ·rename_i hm
     refine .inr ⟨k0,hkl,fun n ⟨a1,a2⟩=>hm ?_⟩
     have:=meet_has.2 ⟨a1,a2 r (List.mem_cons_self ..) hk0'⟩
     unfold Span.has at this
     omega
   ·rw [if_neg h0] at h
    split at h
    ·rename_i hc
     exact .inl ⟨r,List.mem_cons_self ..,by omega,hc⟩
    ·rcases ih (fun r' hr'=>hin r' (List.mem_cons_of_mem _ hr')) h with ⟨r',hr',h1⟩ | ⟨k,hk,h1⟩
     ·exact .inl ⟨r',List.mem_cons_of_mem _ hr',h1⟩
     ·exact .inr ⟨k,hk,fun n ⟨a1,a2⟩=>h1 n ⟨a1,fun r' hr' he=>a2 r' (List.mem_cons_of_mem _ hr') he⟩⟩
end
open Classical in
noncomputable def hull (p:Int→Prop) (lo:Int) : Nat→Option Span
 | 0=>none
 | j+1=>if p (lo+j) then some (match hull p lo j with | none=>⟨lo+j,lo+j⟩ | some s=>⟨s.lo,lo+j⟩) else hull p lo j
theorem hull_none {p:Int→Prop} {lo:Int} {j:Nat} (h:hull p lo j=none) : ∀ n,lo≤n→n < lo+j→¬ p n:=by
 induction j with
 | zero=>intro n h1 h2;omega
 | succ j ih =>
   simp only [hull] at h
   split at h
   ·cases h
   ·rename_i hp
    intro n h1 h2
    by_cases e:n=lo+j
    ·subst e;exact hp
    ·exact ih h n h1 (by omega)
theorem zQW {p:Int→Prop} {lo:Int} {j:Nat} {s:Span} (h:hull p lo j=some s) : lo≤s.lo∧s.lo≤s.hi∧s.hi < lo+j∧p s.lo∧p s.hi∧∀ n,lo≤n→n < lo+j→p n→s.has n:=by
 induction j generalizing s with
 | zero=>cases h
 | succ j ih =>
   simp only [hull] at h
   split at h
   ·rename_i hp
    cases hh:hull p lo j with
    | none =>
      rw [hh] at h
      simp only [Option.some.injEq] at h
      subst h
      refine ⟨by simp only;omega,Int.le_refl _,by simp only;omega,hp,hp,fun n h1 h2 h3=>?_⟩
      by_cases e:n=lo+j
      ·subst e;exact ⟨Int.le_refl _,Int.le_refl _⟩
      ·exact absurd h3 (hull_none hh n h1 (by omega))
    | some t =>
      rw [hh] at h
      simp only [Option.some.injEq] at h
      subst h
      obtain ⟨a1,a2,a3,a4,a5,a6⟩:=ih hh
      refine ⟨a1,by simp only;omega,by simp only;omega,a4,hp,fun n h1 h2 h3=>?_⟩
      by_cases e:n=lo+j
      ·subst e;exact ⟨by simp only;omega,Int.le_refl _⟩
      ·have:=a6 n h1 (by omega) h3
       unfold Span.has at *
       simp only
       omega
   ·rename_i hp
    obtain ⟨a1,a2,a3,a4,a5,a6⟩:=ih h
    refine ⟨a1,a2,by omega,a4,a5,fun n h1 h2 h3=>?_⟩
    by_cases e:n=lo+j
    ·subst e;exact absurd h3 hp
    ·exact a6 n h1 (by omega) h3
theorem hull_eq {p:Int→Prop} {lo hi:Int} (h:lo≤hi) {s:Span} (hs:s.lo≤s.hi) (hin:∀ n,s.has n↔(lo≤n∧n≤hi)∧p n) : hull p lo (hi - lo+1).toNat=some s:=by
 cases hh:hull p lo (hi - lo+1).toNat with
 | none =>
   have h1:=(hin s.lo).1 ⟨Int.le_refl _,hs⟩
   exact absurd h1.2 (hull_none hh _ h1.1.1 (by omega))
 | some t =>
   obtain ⟨a1,a2,a3,a4,a5,a6⟩:=zQW hh
   have h1:=(hin s.lo).1 ⟨Int.le_refl _,hs⟩
   have h2:=(hin s.hi).1 ⟨hs,Int.le_refl _⟩
   have h3:=(hin t.lo).2 ⟨⟨a1,by omega⟩,a4⟩
   have h4:=(hin t.hi).2 ⟨⟨by omega,by omega⟩,a5⟩
   have h5:=a6 s.lo h1.1.1 (by omega) h1.2
   have h6:=a6 s.hi h2.1.1 (by omega) h2.2
   unfold Span.has at *
   obtain ⟨sl,sh⟩:=s
   obtain ⟨tl,th⟩:=t
   simp only [Option.some.injEq,Span.mk.injEq] at *
   omega
theorem hull_no {p:Int→Prop} {lo hi:Int} (hin:∀ n,¬ ((lo≤n∧n≤hi)∧p n)) : hull p lo (hi - lo+1).toNat=none:=by
 cases hh:hull p lo (hi - lo+1).toNat with
 | none=>rfl
 | some t =>
   obtain ⟨a1,a2,a3,a4,a5,a6⟩:=zQW hh
   exact absurd ⟨⟨a1,by omega⟩,a4⟩ (hin t.lo)
end Go.Proofs.YtpolpdegpbahiaaGreatDoor
namespace Go.Proofs.YtpolpdegpbahiaaGreatDoor
open Tryz
section
open Go.RowKit
attribute [local go_sem] zAN Oper.grows Oper.growUpon
open Classical in
noncomputable def zCR (P:Nat→Prop) (rs:List Report) : Nat→List Int
 | 0=>[]
 | k+1=>zCR P rs k++(if P k then [((rs[k]?).elim 0 (·.num))] else [])
theorem zRT {P:Nat→Prop} {rs:List Report} {k:Nat} (hk:k < rs.length) (h:P k) : zCR P rs (k+1)=zCR P rs k++[rs[k].num]:=by
 simp only [zCR,if_pos h,List.getElem?_eq_getElem hk,Option.elim]
theorem failTo_no {P:Nat→Prop} {rs:List Report} {k:Nat} (h:¬ P k) : zCR P rs (k+1)=zCR P rs k:=by
 simp only [zCR,if_neg h,List.append_nil]
theorem failTo_le (P:Nat→Prop) (rs:List Report) (k:Nat) : (zCR P rs k).length≤k:=by
 induction k with
 | zero=>simp [zCR]
 | succ k ih =>
   simp only [zCR,List.length_append]
   split <;> simp <;> omega
theorem zRC {P:Nat→Prop} {rs:List Report} {k:Nat} : zCR P rs k=[]↔∀ j,j < k→¬ P j:=by
 induction k with
 | zero=>simp [zCR]
 | succ k ih =>
   simp only [zCR,List.append_eq_nil_iff,ih]
   constructor
   ·rintro ⟨h1,h2⟩ j hj
    by_cases e:j=k
    ·subst e
     split at h2
     ·cases h2
     ·assumption
    ·exact h1 j (by omega)
   ·intro h
    exact ⟨fun j hj=>h j (by omega),by rw [if_neg (h k (by omega))]⟩
theorem failTo_I64 {P:Nat→Prop} {rs:List Report} (h:∀ x∈rs,I64 x.num) (k:Nat) (hk:k≤rs.length) : ∀ n∈zCR P rs k,I64 n:=by
 induction k with
 | zero=>simp [zCR]
 | succ k ih =>
   intro n hn
   simp only [zCR,List.mem_append] at hn
   rcases hn with hn | hn
   ·exact ih (by omega) n hn
   ·split at hn
    ·simp [List.getElem?_eq_getElem (show k < rs.length by omega)] at hn
     subst hn
     exact h _ (List.getElem_mem _)
    ·cases hn
def zET (ms:List Int) (rs:List Report) (X:List Has) (T:List (List Int)) (hp n:Int) (i:Nat) : Prop:=∃ (h1:i < X.length) (h2:i < rs.length),X[i].h=hp∧¬ zML ms T X[i] rs[i] n
theorem every_bit:∀ n,n < 17→∀ k,k < n→bits BinOp.and IntKind.i64 ((2 ^ n - 1) / 2 ^ k) 1=1:=by decide
theorem fails08 (w:World) (vr vn vm vh vs vp vt:Value) (o:Int) (ms:List Int) (rs:List Report) (X:List Has) (T:List (List Int)) (hms:Sl zAJ 1 w vm ms) (hrs:Sl zDD 5 w vs rs) (hV:ViewAt w vp vt X T) (hO:ViewOk ms rs X T) (hr10:rs.length≤10)
  (hp n:Int) (hn:0≤n∧n≤200) :
  Calls prog 107 #[.agg #[vr,vn,.int .i64 o,vm,vh,vs],.agg #[vp,vt],.int .i64 (2 ^ rs.length - 1),.int .i64 hp,.int .i64 n] w fun e w' =>
   ∃ u,e = .returned u∧Sl zAJ 1 w' u (zCR (zET ms rs X T hp n) rs rs.length)∧Below w.heap.size w w':=by
 obtain ⟨i0,hi,hz0,hz1,hz2⟩:=info_parts zDM
 obtain ⟨hb1,B1,B2⟩:=zDY w #[vr,vn,.int .i64 o,vm,vh,vs] #[vp,vt] 32 130
 have hb0:=B1 0 vr rfl
 have hb1':=B1 1 vn rfl
 have hb2:=B1 2 (.int .i64 o) rfl
 have hb3:=B1 3 vm rfl
 have hb4:=B1 4 vh rfl
 have hb5:=B1 5 vs rfl
 have d0:=B2 0 vp rfl
 have d1:=B2 1 vt rfl
 clear B1 B2
 have CA:=zF (And.intro hb0 (And.intro hb1' (And.intro hb2 (And.intro hb3 (And.intro hb4 (And.intro hb5 (And.intro d0 d1)))))))
 clear hb0 hb1' hb2 hb3 hb4 hb5 d0 d1
 obtain ⟨az,capz,rfl,hmz⟩:=zD hrs
 obtain ⟨ap,capp,rfl,_⟩:=zD hV.reports
 have hms1:=zF (zI zN hb1 hms)
 have hrs1:=zF (zI zAV hb1 hrs)
 have hV1:=zF (hV.ext hb1)
 have HO:=zF hO
 have hNum:Hid (∀ x∈rs,I64 x.num):=fun x hx=>by
  obtain ⟨k,hk,rfl⟩:=List.getElem_of_mem hx
  obtain ⟨_,_,_,_,hr⟩:=(zZ hrs).2 k hk
  exact hr.1
 have HPL:=zF hO.len
 clear hms hrs hV hO
 have hwl:w.heap.size+1 < ((w.alloc (.cells #[vr,vn,.int .i64 o,vm,vh,.slice az rs.length capz] 32)).alloc (.cells #[.slice ap X.length capp,vt] 130)).heap.size:=by simp
 go_enter func107,ntmps107
 go_wp2
 generalize (w.alloc _).alloc _=w1 at *
 have HB1:=zF hb1
 clear hb1
 go_loopw [11,12] (fun q i wr=>∃ k:Nat,i = .int .i64 k∧k≤rs.length∧wr.ownsRow w1.heap.size 3 1 q (zCR (zET ms rs X T hp n) rs k).length ((zCR (zET ms rs X T hp n) rs k).map (Value.int .i64))∧Below w1.heap.size w1 wr) (fun _ i _=>rs.length - (intOf i).toNat)
 case atStart=>exact ⟨0,rfl,by omega,World.ownsRow_nil _ _ _ _,br_⟩
 case round =>
  obtain ⟨k,rfl,hk,hown,hb⟩:=hrel
  have HOWN:=zF hown
  have HB:=zF hb
  clear hown hb
  have c5:=zC HB.out CA.out.2.2.2.2.2.1
  have c0:=zC HB.out CA.out.1
  have c1:=zC HB.out CA.out.2.1
  have c2:=zC HB.out CA.out.2.2.1
  have c3:=zC HB.out CA.out.2.2.2.1
  have c4:=zC HB.out CA.out.2.2.2.2.1
  have d0:=zC HB.out CA.out.2.2.2.2.2.2.1
  have d1:=zC HB.out CA.out.2.2.2.2.2.2.2
  unfold zJ at c0 c1 c2 c3 c4 c5 d0 d1
  by_cases hlt:k < rs.length
  ·have hkX:k < X.length:=by rw [HPL.out];exact hlt
   obtain ⟨bp,op,rfl,⟨x0,x1,x2⟩,hxn⟩:=(zZ (zI zRN HB.out hV1.out.reports)).2 k hkX
   unfold zJ at x0 x1 x2
   have hbit:=every_bit rs.length (by omega) k hlt
   have hkl:(k:Int) < X.length:=by omega
   have hyes:Hid (zET ms rs X T hp n k→zCR (zET ms rs X T hp n) rs (k+1)=zCR (zET ms rs X T hp n) rs k++[rs[k].num]):=fun h=>zRT hlt h
   have hno:Hid (¬ zET ms rs X T hp n k→zCR (zET ms rs X T hp n) rs (k+1)=zCR (zET ms rs X T hp n) rs k):=fun h=>failTo_no h
   have hle:=failTo_le (zET ms rs X T hp n) rs k
   by_cases hh:X[k].h=hp
   ·have hh':(X[k].h == hp)=true:=by simpa using hh
    have hcall:=zF (holds08 wr vr vn vm vh (.slice az rs.length capz) (.slice (some ⟨bp,op,none⟩) X.length capp) vt o ms rs X T (zI zN HB.out hms1.out) (zI zAV HB.out hrs1.out) (hV1.out.ext HB.out) HO.out k hlt hkX n hn)
    have hfv:Hid (zET ms rs X T hp n k↔¬ zML ms T X[k] rs[k] n):=⟨fun ⟨_,_,_,h⟩=>h,fun h=>⟨hkX,hlt,hh,h⟩⟩
    generalize X[k]=x at *
    clear hh
    go_wp2_with fail
    refine hcall.out.mono ?_
    intro e w2 hret
    rcases hret.both with ⟨hp1,rfl,hb2⟩ | ⟨hn1,rfl,hb2⟩
    ·have hf:=zF (hno.out (fun h=>hfv.out.1 h hp1))
     have hbb:=zF (zA HB.out hb2)
     have hown2:=zF (zAA hb2 HOWN.out)
     clear hp1 hret hcall hyes hno hfv
     go_wp2
     go_roundw
     ·exact ⟨k+1,by go_num,by omega,by rw [hf.out];exact hown2.out,hbb.out⟩
     ·simp [intOf];omega
    ·have hf:=zF (hyes.out (hfv.out.2 hn1))
     have hbb:=zA HB.out hb2
     have hown2:=zAA hb2 HOWN.out
     obtain ⟨bz,oz,rfl,⟨r0,_⟩,_⟩:=(zZ (zI zAV hbb hrs1.out)).2 k hlt
     have c5:=zC hbb CA.out.2.2.2.2.2.1
     clear hn1 hret hcall hyes hno hfv c0 c1 c2 c3 c4 d0 d1 x0 x1 x2
     generalize rs[k].num=q at *
     unfold zJ at r0 c5
     go_wp2_with (at_builtin;refine wpList_append_own _ rfl _ _ 28 rfl w1.heap.size 3 i0 (.int .i64 0) 1 8 underlying28 hi hz0 hz1 hz2 rfl (by decide) _ _ _ rfl (hown2.alloc _) ⟨w2.heap.size,0,none⟩ 1 1 [.int .i64 q] rfl rfl (cell_one_new _ _ _) (by simp [Value.oneCell']) (by unfold maxLen;omega) (by omega) (by have:=hbb.size;simp;omega) ?_;intro v' w4 hown' hgrow _)
     have hb4:=(hbb.alloc hbb.size (.cells #[.int .i64 q] 3)).grown hgrow (by have:=hbb.size;simp;omega) (fun k e=>(hown2.lt k e).1)
     go_roundw
     ·exact ⟨k+1,by go_num,by omega,by rw [hf.out];simpa using hown',hb4⟩
     ·simp [intOf];omega
   ·have hh':(X[k].h == hp)=false:=by simpa using hh
    have hfv:Hid (¬ zET ms rs X T hp n k):=fun ⟨_,_,h,_⟩=>hh h
    generalize X[k]=x at *
    clear hh
    go_wp2
    go_roundw
    ·exact ⟨k+1,by go_num,by omega,by rw [hno.out hfv.out];exact HOWN.out,HB.out⟩
    ·simp [intOf];omega
  ·go_wp2
   go_ret
   obtain rfl:k=rs.length:=by omega
   exact ⟨_,rfl,zBG HOWN.out (failTo_I64 hNum.out _ (Nat.le_refl _)),zA HB1.out HB.out⟩
end
section
open Go.RowKit
attribute [local go_sem] zAN Oper.grows Oper.growUpon
def zKP (ms:List Int) (rs:List Report) (X:List Has) (T:List (List Int)) (k:Int) (n:Int) : Prop:=∀ i,i < rs.length→¬ zET ms rs X T k n i
noncomputable def zBL (ms:List Int) (rs:List Report) (X:List Has) (T:List (List Int)) (k:Int) (lo:Int) (j:Nat) : Option Span:=hull (zKP ms rs X T k) lo j
theorem countsOf_yes {ms:List Int} {rs:List Report} {X:List Has} {T:List (List Int)} {k lo:Int} {j:Nat} (h:zKP ms rs X T k (lo+j)) :
  zBL ms rs X T k lo (j+1)=some (zFR ((zBL ms rs X T k lo j).getD ⟨0,0⟩) (zBL ms rs X T k lo j).isSome (lo+j)):=by
 unfold zBL
 simp only [hull,if_pos h]
 cases hh:hull (zKP ms rs X T k) lo j with
 | none=>rfl
 | some s =>
   obtain ⟨h1,h2,h3,_⟩:=zQW hh
   simp only [Option.getD_some,Option.isSome_some,zFR,if_true]
   rw [Int.min_eq_left (by omega),Int.max_eq_right (by omega)]
theorem countsOf_no {ms:List Int} {rs:List Report} {X:List Has} {T:List (List Int)} {k lo:Int} {j:Nat} (h:¬ zKP ms rs X T k (lo+j)) : zBL ms rs X T k lo (j+1)=zBL ms rs X T k lo j:=by
 unfold zBL
 simp only [hull,if_neg h]
theorem counts08 (w:World) (vr vn vm vh vs vp vt:Value) (o:Int) (ms:List Int) (hs:List Heap) (rs:List Report) (X:List Has) (T:List (List Int)) (hms:Sl zAJ 1 w vm ms) (hhs:Sl zHA 4 w vh hs) (hrs:Sl zDD 5 w vs rs) (hV:ViewAt w vp vt X T) (hO:ViewOk ms rs X T) (hr10:rs.length≤10)
  (k:Nat) (hk:k < hs.length) (hb:0≤hs[k].lo∧hs[k].lo≤hs[k].hi∧hs[k].hi≤200) :
  Calls prog 62 #[.agg #[vr,vn,.int .i64 o,vm,vh,vs],.agg #[vp,vt],.int .i64 (2 ^ rs.length - 1),.int .i64 k] w fun e w' =>
   e = .returned (.tuple #[.agg #[.int .i64 ((zBL ms rs X T k hs[k].lo (hs[k].hi - hs[k].lo+1).toNat).getD ⟨0,0⟩).lo,.int .i64 ((zBL ms rs X T k hs[k].lo (hs[k].hi - hs[k].lo+1).toNat).getD ⟨0,0⟩).hi],.bool (zBL ms rs X T k hs[k].lo (hs[k].hi - hs[k].lo+1).toNat).isSome])∧Below w.heap.size w w':=by
 obtain ⟨hb1,B1,B2⟩:=zDY w #[vr,vn,.int .i64 o,vm,vh,vs] #[vp,vt] 32 130
 have hb0:=B1 0 vr rfl
 have hb1':=B1 1 vn rfl
 have hb2:=B1 2 (.int .i64 o) rfl
 have hb3:=B1 3 vm rfl
 have hb4:=B1 4 vh rfl
 have hb5:=B1 5 vs rfl
 have d0:=B2 0 vp rfl
 have d1:=B2 1 vt rfl
 clear B1 B2
 have CA:=zF (And.intro hb0 (And.intro hb1' (And.intro hb2 (And.intro hb3 (And.intro hb4 (And.intro hb5 (And.intro d0 d1)))))))
 obtain ⟨ah,caph,rfl,hmh⟩:=zD hhs
 obtain ⟨bh,oh,rfl,⟨_,_,h2,h3⟩,_⟩:=(zZ (zI zCL hb1 hhs)).2 k hk
 have hms1:=zF (zI zN hb1 hms)
 have hrs1:=zF (zI zAV hb1 hrs)
 have hV1:=zF (hV.ext hb1)
 have HO:=zF hO
 have CH:=zF (And.intro h2 h3)
 have hkh:(k:Int) < hs.length:=by omega
 clear hms hrs hV hO hhs
 generalize hs[k].lo=lo at *
 generalize hs[k].hi=hi at *
 unfold zJ at hb4 h2
 clear hb0 hb1' hb2 hb3 hb5 d0 d1 h3
 have L1:=Lay.new ((w.alloc (.cells #[vr,vn,.int .i64 o,vm,.slice (some ⟨bh,oh,none⟩) hs.length caph,vs] 32)).alloc (.cells #[vp,vt] 130)) 38 #[.int .i64 0,.int .i64 0]
 have L2:=Lay.new (((w.alloc (.cells #[vr,vn,.int .i64 o,vm,.slice (some ⟨bh,oh,none⟩) hs.length caph,vs] 32)).alloc (.cells #[vp,vt] 130)).alloc (.cells #[.int .i64 0,.int .i64 0] 38)) 38 #[.int .i64 0,.int .i64 0]
 replace L1:=L1.ext (zB _ (.cells #[.int .i64 0,.int .i64 0] 38))
 simp only [World.size_alloc] at L1 L2
 have hwl:((w.alloc (.cells #[vr,vn,.int .i64 o,vm,.slice (some ⟨bh,oh,none⟩) hs.length caph,vs] 32)).alloc (.cells #[vp,vt] 130)).heap.size=w.heap.size+1+1:=by simp
 have hbn:=zA (zB ((w.alloc (.cells #[vr,vn,.int .i64 o,vm,.slice (some ⟨bh,oh,none⟩) hs.length caph,vs] 32)).alloc (.cells #[vp,vt] 130)) (.cells #[.int .i64 0,.int .i64 0] 38)) (zB _ (.cells #[.int .i64 0,.int .i64 0] 38))
 have hb4n:=zC hbn hb4
 have h2n:=zC hbn h2
 unfold zJ at hb4n h2n
 go_enter func62,ntmps62
 go_wp2
 generalize (w.alloc _).alloc _=w1 at *
 generalize (w1.alloc _).alloc _=w3 at *
 have HB1:=zF hb1
 have HL1:=zF L1
 have HL2:=zF L2
 have HBN:=zF hbn
 have HH4:=zF (And.intro hb4 h2)
 have hn0:Hid (zBL ms rs X T k lo 0=none):=rfl
 clear hb4n h2n hb1 L1 L2 hbn hb4 h2
 go_loopw [11,12] (fun f i wr=>∃ (j:Nat) (s:Span),i = .int .i64 (lo+j)∧j≤(hi - lo+1).toNat∧f = .bool (zBL ms rs X T k lo j).isSome∧Hid (s=(zBL ms rs X T k lo j).getD ⟨0,0⟩) ∧
  Lay wr (w.heap.size+1+1+1) #[.int .i64 s.lo,.int .i64 s.hi] 38∧Lay wr (w.heap.size+1+1) #[.int .i64 0,.int .i64 0] 38∧Below w1.heap.size w1 wr) (fun _ i _=>(hi+1 - intOf i).toNat)
 case atStart=>exact ⟨0,⟨0,0⟩,by simp,by omega,by rw [hn0.out];rfl,by rw [hn0.out];rfl,HL2.out,HL1.out,HBN.out⟩
 case round =>
  obtain ⟨j,s,rfl,hj,rfl,HS,hL2,hL1,hb⟩:=hrel
  have HB:=zF hb
  have c4:=zC HB.out CA.out.2.2.2.2.1
  have c0:=zC HB.out CA.out.1
  have c1:=zC HB.out CA.out.2.1
  have c2:=zC HB.out CA.out.2.2.1
  have c3:=zC HB.out CA.out.2.2.2.1
  have c5:=zC HB.out CA.out.2.2.2.2.2.1
  have d0:=zC HB.out CA.out.2.2.2.2.2.2.1
  have d1:=zC HB.out CA.out.2.2.2.2.2.2.2
  have h3:=zC HB.out CH.out.2
  have q0:wr.cell? ⟨w.heap.size+1+1+1,0,none⟩=some (.int .i64 s.lo):=hL2.cell 0 _ rfl
  have q1:wr.cell? ⟨w.heap.size+1+1+1,1,none⟩=some (.int .i64 s.hi):=hL2.cell 1 _ rfl
  have HLL:=zF (And.intro hL1 hL2)
  unfold zJ at c0 c1 c2 c3 c4 c5 d0 d1 h3
  clear hb hL1 hL2
  by_cases hlt:lo+j≤hi
  ·have hyes:Hid (zKP ms rs X T k (lo+j)→zBL ms rs X T k lo (j+1)=some (zFR s (zBL ms rs X T k lo j).isSome (lo+j))):=fun h=>by rw [countsOf_yes h,HS.out]
   have hno:Hid (¬ zKP ms rs X T k (lo+j)→zBL ms rs X T k lo (j+1)=zBL ms rs X T k lo j):=fun h=>countsOf_no h
   have hcall:=zF (fails08 wr vr vn vm (.slice (some ⟨bh,oh,none⟩) hs.length caph) vs vp vt o ms rs X T (zI zN HB.out hms1.out) (zI zAV HB.out hrs1.out) (hV1.out.ext HB.out) HO.out hr10 k (lo+j) (by omega))
   have hnil:Hid (zCR (zET ms rs X T k (lo+j)) rs rs.length=[]↔zKP ms rs X T k (lo+j)):=zRC
   generalize zCR (zET ms rs X T k (lo+j)) rs rs.length=F at *
   go_wp2_with fail
   clear c0 c1 c2 c3 c4 c5 d0 d1 h3 q0 q1
   refine hcall.out.mono ?_
   rintro e w2 ⟨u,rfl,hu,hb2⟩
   obtain ⟨au,cu,rfl,hmu⟩:=zD hu
   have hbb:=zF (zA HB.out hb2)
   have hLL:=zF (And.intro (HLL.out.1.ext hb2) (HLL.out.2.ext hb2))
   clear hu hb2 hcall HLL HB
   by_cases hF:F=[]
   ·have hP:=hnil.out.1 hF
    have hnew:=zF (hyes.out hP)
    have hF0:(F.length:Int)=0:=by rw [hF];rfl
    have q0:=hLL.out.2.cell 0 _ rfl
    have q1:=hLL.out.2.cell 1 _ rfl
    clear hF hP hyes hno hnil
    go_wp2_with fail
    clear q0 q1
    refine (wider08 w2 s _ _).mono ?_
    rintro e w4 ⟨rfl,hb4⟩
    have hb5:=zF (zA hbb.out hb4)
    have hL1:=hLL.out.1.ext hb4
    have hL2:=hLL.out.2.ext hb4
    clear hb4 hLL hbb
    have q0:=hL2.cell 0 _ rfl
    have q1:=hL2.cell 1 _ rfl
    have f0:=hL2.frozen 0
    have f1:=hL2.frozen 1
    have hl:=hL2.lt
    have HW:Hid (zBL ms rs X T k lo (j+1)=some (zFR s (zBL ms rs X T k lo j).isSome (lo+j))):=hnew
    clear hnew
    generalize zFR s (zBL ms rs X T k lo j).isSome (lo+j)=z at *
    have HL2':=zF (zBC (zBC hL2 0 (.int .i64 z.lo)) 1 (.int .i64 z.hi))
    have HL1':=zF (zBD (zBD hL1 (show w.heap.size+1+1≠w.heap.size+1+1+1 by omega) 0 (.int .i64 z.lo)) (show w.heap.size+1+1≠w.heap.size+1+1+1 by omega) 1 (.int .i64 z.hi))
    have hle:w1.heap.size≤w.heap.size+1+1+1:=by omega
    have HB':=zF (zH (j:=1) (u:=.int .i64 z.hi) hle (zH (j:=0) (u:=.int .i64 z.lo) hle hb5.out))
    clear hL1 hL2 hb5
    go_wp2
    go_roundw
    ·exact ⟨j+1,z,by go_num,by omega,by rw [HW.out];rfl,by rw [HW.out];rfl,HL2'.out,HL1'.out,HB'.out⟩
    ·simp [intOf];omega
   ·have hnew:=zF (hno.out (fun h=>hF (hnil.out.2 h)))
    have hF0:0 < (F.length:Int):=by
     have:=List.length_pos_iff.2 hF
     omega
    clear hF hyes hno hnil
    go_wp2
    go_roundw
    ·exact ⟨j+1,s,by go_num,by omega,by rw [hnew.out],by rw [hnew.out];exact HS,hLL.out.2,hLL.out.1,hbb.out⟩
    ·simp [intOf];omega
  ·obtain rfl:j=(hi - lo+1).toNat:=by omega
   have f0:=HLL.out.1.frozen 0
   have f1:=HLL.out.1.frozen 1
   have p0:wr.cell? ⟨w.heap.size+1+1,0,none⟩=some (.int .i64 0):=HLL.out.1.cell 0 _ rfl
   have p1:wr.cell? ⟨w.heap.size+1+1,1,none⟩=some (.int .i64 0):=HLL.out.1.cell 1 _ rfl
   have hl:=HLL.out.1.lt
   have hle:w.heap.size≤w.heap.size+1+1:=by omega
   have HB':=zF (zH (j:=1) (u:=.int .i64 s.hi) hle (zH (j:=0) (u:=.int .i64 s.lo) hle (zA HB1.out HB.out)))
   clear HLL
   go_wp2
   refine bodyPost_ret (v:=.tuple #[.agg #[.int .i64 s.lo,.int .i64 s.hi],.bool (zBL ms rs X T k lo (hi - lo+1).toNat).isSome]) (by simp [results,results62,go_sem,p0,p1,hl]) rfl ?_
   exact ⟨by rw [← HS.out],HB'.out⟩
end
end Go.Proofs.YtpolpdegpbahiaaGreatDoor
