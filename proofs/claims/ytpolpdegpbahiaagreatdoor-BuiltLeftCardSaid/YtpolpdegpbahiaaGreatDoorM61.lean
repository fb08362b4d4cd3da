/- The reference: the view of a truth. -/
import Derived.Test.YtpolpdegpbahiaaGreatDoorM60
set_option linter.all false
set_option maxRecDepth 100000
set_option maxHeartbeats 12800000

namespace Go.Proofs.YtpolpdegpbahiaaGreatDoor
open Tryz
open Go.RowKit Go.Shelf
attribute [local go_sem] zAN Oper.grows Oper.growUpon Oper.wild Oper.wildUpon
theorem infoHas:(prog.info? 168).map (fun i=>(i.zero,i.size,i.bytes))=some (some (.agg #[.int .i64 0,.int .i64 0,.int .i64 0]),3,24):=by kernel_rfl
theorem zPT:(prog.info? 28).map (fun i=>(i.zero,i.size,i.bytes))=some (some (.slice none 0 0),1,24):=by kernel_rfl
def zIY (x:Has) : List Value:=[.int .i64 x.c,.int .i64 x.l,.int .i64 x.h]
structure BoxB (w:World) (B:Nat) (vr vn vm vh vs:Value) (o:Int) : Prop where
 c0:zJ w B 0 vr
 c1:zJ w B 1 vn
 c2:zJ w B 2 (.int .i64 o)
 c3:zJ w B 3 vm
 c4:zJ w B 4 vh
 c5:zJ w B 5 vs
theorem BoxB.ext {w w':World} {B:Nat} {vr vn vm vh vs:Value} {o:Int} (hb:Below w.heap.size w w') (h:BoxB w B vr vn vm vh vs o) : BoxB w' B vr vn vm vh vs o :=
 ⟨zC hb h.c0,zC hb h.c1,zC hb h.c2,zC hb h.c3,zC hb h.c4,zC hb h.c5⟩
theorem zHC (w:World) (vr vn vm vh vs:Value) (o:Int) (t:TypeId) : BoxB (w.alloc (.cells #[vr,vn,.int .i64 o,vm,vh,vs] t)) w.heap.size vr vn vm vh vs o :=
 ⟨zU _ _ _ 0 _ rfl,zU _ _ _ 1 _ rfl,zU _ _ _ 2 _ rfl,zU _ _ _ 3 _ rfl,zU _ _ _ 4 _ rfl,zU _ _ _ 5 _ rfl⟩
theorem grown_beyond {wb w w':World} {g:Option Nat} {v:Nat} (h:wb.grownBy w (some v)) (hg:w.grownBy w' g) (hr:∀ r,g=some r→wb.heap.size≤r) : wb.grownBy w' (some v) :=
 ⟨hg.os.trans h.os,hg.tape.trans h.tape,hg.output.trans h.output,Nat.le_trans h.size hg.size,fun k hk hne=>(hg.block k (Nat.lt_of_lt_of_le hk h.size) (fun e=>by have:=hr k e.symm;omega)).trans (h.block k hk hne)⟩
theorem zOU {es:List TypeId} {w w':World} {v:Nat} {cs:Array Value} {t:TypeId} (h:w.grownBy w' (some v)) (hl:Lay w v cs t) (hne:t ∉ es) : zEK es w w':=fun k cur e q he hc=>by
 refine (h.block k (Array.getElem?_eq_some_iff.1 hc).1 (fun hk=>?_)).trans hc
 cases hk
 rw [show w.heap[v]? = _ from hl] at hc
 cases hc
 exact hne he
theorem ints_flat (L:List Int) : L.flatMap (fun x=>[Value.int .i64 x])=L.map (Value.int .i64):=by
 induction L with
 | nil=>rfl
 | cons x L ih=>simp [List.flatMap_cons,ih]
theorem bel_grown {w w':World} {g:Option Nat} (h:Below w.heap.size w w') : w.grownBy w' g:=⟨h.os,h.tape,h.output,h.size,fun k hk _=>h.block k hk⟩
structure View1 (wa wr:World) (z v:Nat) (vp:Value) (L:List Has) : Prop where
 below:Below wa.heap.size wa wr
 lo:wa.heap.size≤z∧z < v
 res:Lay wr z #[.slice none 0 0,.slice none 0 0] 130
 box:Lay wr v #[vp,.slice none 0 0] 130
 own:wr.ownsRow (v+1) 168 3 vp L.length (L.flatMap zIY)
theorem View1.app {wa wr w7:World} {z v:Nat} {vp v':Value} {L:List Has} {x:Has} (h:View1 wa wr z v vp L) (hown:w7.ownsRow (v+1) 168 3 v' (L.length+1) (L.flatMap zIY++zIY x)) (hg:wr.grownBy w7 vp.ownBlock) :
  Lay w7 v #[vp,.slice none 0 0] 130∧View1 wa (w7.setCell ⟨v,0,none⟩ v') z v v' (L++[x]):=by
 have hlo:=h.lo
 have hb:Lay w7 v #[vp,.slice none 0 0] 130:=h.box.kept hg (fun e=>by have:=(h.own.lt _ e.symm).1;omega)
 have hz:Lay w7 z #[.slice none 0 0,.slice none 0 0] 130:=h.res.kept hg (fun e=>by have:=(h.own.lt _ e.symm).1;omega)
 refine ⟨hb,zH (by omega) (zAI h.own hg h.below (by omega)),hlo,zBD hz (by omega) 0 v',zBC hb 0 v',?_⟩
 have:=zJG (g:=v) (j:=0) (u:=v') hown (by omega)
 rw [List.length_append,List.flatMap_append]
 simpa [zIY] using this
structure View2 (wb wr:World) (z v:Nat) (vp vt:Value) (L:List (List Int)) : Prop where
 grown:wb.grownBy wr (some v)
 lo:z < v∧v < wb.heap.size
 res:Lay wr z #[.slice none 0 0,.slice none 0 0] 130
 box:Lay wr v #[vp,vt] 130
 own:∃ cs,wr.ownsRow wb.heap.size 28 1 vt L.length cs∧zDW [3] zFT 1 wr cs L
theorem viewX_I64 {b:Built} (h:zM b=0) {S:List Int} {x:Has} (hx:x∈zBS b S) : I64 x.c∧I64 x.l∧I64 x.h:=by
 unfold zBS at hx
 obtain ⟨r,hr,rfl⟩:=List.mem_map.1 hx
 have h1:=zFP b S r.m r.d
 have h2:=zGZ h S r.m r.d
 have h3:=zFG (zW h).1 S r.m (zEP (zAR (zAS (zW h).1).1) (zEN h hr).2.2.2)
 have h4:=(zW h).2.2.2.1
 refine ⟨by unfold I64;omega,?_,by unfold I64;omega⟩
 show I64 (zQ S r.m b.ns.notes r.d)
 unfold I64
 omega
theorem zRB (w:World) (vr vn vm vh vs vz:Value) (b:Built) (S:List Int) (hB:BuiltAt w vr vn vm vh vs b) (hS:Sl zAJ 1 w vz S) (hv:zM b=0) (hT:IsT (zCA b.ns.notes) S) :
  Calls prog 60 #[.agg #[vr,vn,.int .i64 b.of,vm,vh,vs],vz] w fun e w'=>∃ vp vt,e = .returned (.agg #[vp,vt])∧OnT [168,28,3] (fun w'=>ViewAt w' vp vt (zBS b S) (zBO b S)) w'∧Below w.heap.size w w':=by
 obtain ⟨i0,hif,iz0,iz1,iz2⟩:=info_parts zDM
 obtain ⟨j0,hjf,jz0,jz1,jz2⟩:=info_parts infoHas
 obtain ⟨l0,hlf,lz0,lz1,lz2⟩:=info_parts zPT
 obtain ⟨az,capz,rfl,hmz⟩:=zD hS
 obtain ⟨am,capm,rfl,hmm⟩:=zD hB.ms
 obtain ⟨ah,caph,rfl,hmh⟩:=zD hB.hs
 obtain ⟨as',caps,rfl,hmss⟩:=zD hB.rs
 have hb1:=zB w (.cells #[vr,vn,.int .i64 b.of,.slice am b.ms.length capm,.slice ah b.hs.length caph,.slice as' b.rs.length caps] 32)
 have HBOX:=zF (zHC w vr vn (.slice am b.ms.length capm) (.slice ah b.hs.length caph) (.slice as' b.rs.length caps) b.of 32)
 have HB:=zF (hB.ext hb1)
 have HS:=zF (zI zN hb1 hS)
 have hbu:=(zW hv).2
 have hm12:b.ms.length≤12:=hbu.2.1
 have hh4:b.hs.length≤4:=hbu.2.2.1
 have hr10:b.rs.length≤10:=hbu.2.2.2.1
 have HV:=zF hv
 have HT:=zF hT
 have hLs:=zAR (zAS (zW hv).1).1
 have hrep:Hid (∀ r∈b.rs,In r.m 1 999∧r.d∈nums b.ns.reg):=fun r hr=>by
  have h1:=zEN hv hr
  refine ⟨?_,zEP hLs h1.2.2.2⟩
  obtain ⟨k,hk,he⟩:=List.getElem_of_mem h1.2.2.1
  rw [← he]
  exact (hbu.2.2.2.2.1 k hk hk).1
 have hmach:Hid (∀ m∈b.ms,In m 1 999):=fun m hm=>by
  obtain ⟨k,hk,rfl⟩:=List.getElem_of_mem hm
  exact (hbu.2.2.2.2.1 k hk hk).1
 have hheap:Hid (∀ x∈b.hs,x.d∈nums b.ns.reg):=fun x hx=>by
  obtain ⟨k,hk,rfl⟩:=List.getElem_of_mem hx
  exact zEP hLs (hbu.2.2.2.2.2.1 k hk hk).1
 have hl0:(w.alloc (.cells #[vr,vn,.int .i64 b.of,.slice am b.ms.length capm,.slice ah b.hs.length caph,.slice as' b.rs.length caps] 32)).heap.size=w.heap.size+1:=by simp
 clear hB hS hbu hLs hv hT
 go_enter func60,ntmps60
 go_wp2
 generalize w.alloc _=wa at *
 have hm0:View1 wa ((wa.alloc (.cells #[.slice none 0 0,.slice none 0 0] 130)).alloc (.cells #[.slice none 0 0,.slice none 0 0] 130)) (w.heap.size+1) (w.heap.size+1+1) (.slice none 0 0) []:=by
  have e1:=Lay.new wa 130 #[.slice none 0 0,.slice none 0 0]
  have e2:=Lay.new (wa.alloc (.cells #[.slice none 0 0,.slice none 0 0] 130)) 130 #[.slice none 0 0,.slice none 0 0]
  rw [World.size_alloc] at e2
  rw [hl0] at e1 e2
  exact ⟨zA (zB _ _) (zB _ _),⟨by omega,by omega⟩,e1.alloc _,e2,World.ownsRow_nil _ _ _ _⟩
 generalize (wa.alloc _).alloc _=w1 at *
 have hX:Hid (∀ k,(h:k < b.rs.length)→(zBS b S).take (k+1)=(zBS b S).take k++[zAB b S b.rs[k].m b.rs[k].d]):=fun k h=>by
  have hl:k < (zBS b S).length:=by unfold zBS;rw [List.length_map];exact h
  rw [List.take_succ_eq_append_getElem hl,viewX_at hl h]
 have hXl:Hid (∀ k,k≤b.rs.length→((zBS b S).take k).length=k):=fun k hk=>by unfold zBS;rw [List.length_take,List.length_map];omega
 have hgo:w.heap.size < wa.heap.size:=by omega
 go_loopw [6] (fun i wr=>∃ (k:Nat) (vp:Value),i = .int .i64 k∧k≤b.rs.length∧Hid (View1 wa wr (w.heap.size+1) (w.heap.size+1+1) vp ((zBS b S).take k))) (fun i _=>b.rs.length - (intOf i).toNat)
 case atStart=>exact ⟨0,_,rfl,by omega,zF hm0⟩
 case round =>
  clear hm0
  obtain ⟨k,vp,rfl,hk,HM⟩:=hrel
  have c5:=zC HM.out.below HBOX.out.c5
  have hXk:=hXl.out k hk
  by_cases hlt:k < b.rs.length
  ·obtain ⟨br,or',rfl,⟨r0,r1,r2,r3,r4⟩,hrn⟩:=(zZ HB.out.rs).2 k hlt
   have hrr:=hrep.out _ (List.getElem_mem hlt)
   have hnew:=zF (hX.out k hlt)
   have hcall:=zF (fun W (hb:Below wa.heap.size wa W)=>hasOf08 W vr vn (.slice am b.ms.length capm) (.slice ah b.hs.length caph) (.slice (some ⟨br,or',none⟩) b.rs.length caps) (.slice az S.length capz) b S b.rs[k].m b.rs[k].d (HB.out.ext hb) (zI zN hb HS.out) HV.out HT.out hrr.1 hrr.2)
   have CR:=zF (And.intro r1 r2)
   have hkl:(k:Int) < b.rs.length:=by omega
   generalize zAB b S b.rs[k].m b.rs[k].d=x at *
   have HLK:=zF hXk
   generalize (zBS b S).take k=L at *
   generalize b.rs[k].m=rm at *
   generalize b.rs[k].d=rd at *
   clear r0 r1 r2 r3 r4 hrn hrr
   unfold zJ at c5
   go_wp2
   clear c5
   refine zBI 19 18 [17] (fun a c=>a.grownBy c vp.ownBlock) (fun c=>wr.grownBy c vp.ownBlock) (fun _ _ hb h=>zCJ hb h) (zAX _ _ _ rfl rfl rfl rfl)
    (fun c=>c.ownsRow (w.heap.size+1+1+1) 168 3 vp L.length (L.flatMap zIY)∧w.heap.size+1+1+1≤c.heap.size) (fun _ _ hb h=>⟨zAA hb h.1,Nat.le_trans h.2 hb.size⟩) ⟨zAA ⟨rfl,rfl,rfl,Nat.le_refl _,fun _ _=>rfl⟩ HM.out.own,HM.out.box.lt⟩ (by kernel_rfl) (by kernel_rfl) ?_
   simp only [tk_]
   apply gw_ (by rfl)
   ·intro vs w2 hw hd
    (try simp [hq_] at hd)
    simp only [pf_]
    go_simp
    exact ⟨br_,rfl⟩
   apply gw_ (by rfl)
   ·intro vs w2 hw hd
    (try simp [hq_] at hd)
    have k0:=zCD HM.out.own hw (by omega) (show zJ wr (w.heap.size+1+1) 0 vp from HM.out.box.cell 0 _ rfl);unfold zJ at k0
    simp only [pf_]
    go_simp
    exact ⟨br_,rfl⟩
   apply gw_ (by rfl)
   ·intro vs w2 hw hd
    (try simp [hq_] at hd)
    have hB2:=zAI HM.out.own hw HM.out.below (by omega);have k0:=zC hB2 HBOX.out.c0;have k1:=zC hB2 HBOX.out.c1;have k2:=zC hB2 HBOX.out.c2;have k3:=zC hB2 HBOX.out.c3;have k4:=zC hB2 HBOX.out.c4;have k5:=zC hB2 HBOX.out.c5;unfold zJ at k0 k1 k2 k3 k4 k5
    simp only [pf_]
    go_simp
    exact ⟨br_,rfl⟩
   apply gw_ (by rfl)
   ·intro vs w2 hw hd
    (try simp [hq_] at hd)
    simp only [pf_]
    go_simp
    exact ⟨br_,rfl⟩
   apply gw_ (by rfl)
   ·intro vs w2 hw hd
    (try simp [hq_] at hd)
    simp only [pf_]
    go_simp
    exact ⟨br_,rfl⟩
   apply gw_ (by rfl)
   ·intro vs w2 hw hd
    (try simp [hq_] at hd)
    have hB2:=zAI HM.out.own hw HM.out.below (by omega);have k5:=zC hB2 HBOX.out.c5;unfold zJ at k5
    simp only [pf_]
    go_simp
    exact ⟨br_,rfl⟩
   apply gw_ (by rfl)
   ·intro vs w2 hw hd
    (try simp [hq_] at hd)
    simp only [pf_]
    go_simp
    exact ⟨br_,rfl⟩
   apply gw_ (by rfl)
   ·intro vs w2 hw hd
    (try simp [hq_] at hd)
    simp only [pf_]
    go_simp
    exact ⟨br_,rfl⟩
   apply gw_ (by rfl)
   ·intro vs w2 hw hd
    (try simp [hq_] at hd)
    simp only [pf_]
    go_simp
    exact ⟨br_,rfl⟩
   apply gw_ (by rfl)
   ·intro vs w2 hw hd
    (try simp [hq_] at hd)
    have hB2:=zAI HM.out.own hw HM.out.below (by omega);have k1:=zC hB2 CR.out.1;unfold zJ at k1
    simp only [pf_]
    go_simp
    exact ⟨br_,rfl⟩
   apply gw_ (by rfl)
   ·intro vs w2 hw hd
    (try simp [hq_] at hd)
    simp only [pf_]
    go_simp
    exact ⟨br_,rfl⟩
   apply gw_ (by rfl)
   ·intro vs w2 hw hd
    (try simp [hq_] at hd)
    have hB2:=zAI HM.out.own hw HM.out.below (by omega);have k5:=zC hB2 HBOX.out.c5;unfold zJ at k5
    simp only [pf_]
    go_simp
    exact ⟨br_,rfl⟩
   apply gw_ (by rfl)
   ·intro vs w2 hw hd
    (try simp [hq_] at hd)
    simp only [pf_]
    go_simp
    exact ⟨br_,rfl⟩
   apply gw_ (by rfl)
   ·intro vs w2 hw hd
    (try simp [hq_] at hd)
    simp only [pf_]
    go_simp
    exact ⟨br_,rfl⟩
   apply gw_ (by rfl)
   ·intro vs w2 hw hd
    (try simp [hq_] at hd)
    simp only [pf_]
    go_simp
    exact ⟨br_,rfl⟩
   apply gw_ (by rfl)
   ·intro vs w2 hw hd
    (try simp [hq_] at hd)
    have hB2:=zAI HM.out.own hw HM.out.below (by omega);have k1:=zC hB2 CR.out.2;unfold zJ at k1
    simp only [pf_]
    go_simp
    exact ⟨br_,rfl⟩
   apply gw_ (by rfl)
   ·intro vs w2 hw hd
    (try simp [hq_] at hd)
    have hB2:=zAI HM.out.own hw HM.out.below (by omega)
    simp only [pf_]
    go_simp
    refine (hcall.out _ hB2).mono ?_
    rintro e w9 ⟨rfl,hb9⟩
    exact ⟨rfl,hb9⟩
   refine zCW (OneV (zIY x)) (zNT _) (by rfl) (.inl (by rfl)) ?_ ?_
   ·intro vs w2 hw hd
    (try simp [hq_] at hd)
    simp only [pf_]
    go_simp
    exact ⟨zB _ _,oneV_new (zIY x) _ _⟩
   refine zDJ (fun v w'=>Hid (w'.ownsRow (w.heap.size+1+1+1) 168 3 v (L.length+1) (L.flatMap zIY++zIY x))) (fun _ _ _ hb h=>zF (zAA hb h.out)) (by rfl) ?_ ?_
   ·intro vs w2 hw hi hd
    (try simp [hq_] at hd)
    simp only [pf_]
    obtain ⟨e3,⟨bb,e5,hbb⟩,_⟩:=hd
    refine zBQ (.tmp 20) (.tmp 36) 128 (by rfl) (w.heap.size+1+1+1) 168 j0 _ 3 24 underlying128 hjf jz0 jz1 jz2 rfl (by decide) vp _ _ (by exact e3) hi.1 (vs 17) ⟨bb,0,none⟩ 1 1 e5 (zIY x) (by rfl) rfl (fun j u hj=>by
     rw [zBP];exact hbb j u hj) (fun u hu=>by simp [zIY] at hu;rcases hu with rfl | rfl | rfl <;> rfl) (by unfold maxLen;omega) (by omega) hi.2 (fun v' w' h1 h2=>⟨zAH hw h2,h2,h1⟩)
   refine zDI rfl (fun vs w7 hw hd=>?_)
   simp [zV,zAD,List.range,List.range.loop,List.filter_cons,List.filter_nil] at hd
   simp only [pf_]
   obtain ⟨e0,e1,e2,e3,e4,e5,e6,e7,e8,e9,e10,e11,e12,e13,e14,e15,e16,h18⟩:=hd
   obtain ⟨hl7,hm7⟩:=HM.out.app h18.out hw
   obtain ⟨g7,cap7,e18⟩:=zCT h18.out
   rw [e18] at hm7
   rw [HLK.out] at e18 hm7
   simp only [Nat.zero_add,Nat.reduceAdd] at e0 e1 e2 e3 e4 e5 e6 e7 e8 e9 e10 e11 e12 e13 e14 e15 e16 e18 ⊢
   simp only [e0,e1,e2,e3,e4,e5,e6,e7,e8,e9,e10,e11,e12,e13,e14,e15,e16,e18]
   have hm7:=zF hm7
   have c7:=hl7.cell 0 _ rfl
   have f7:=hl7.frozen 0
   clear h18 hw hl7 e0 e1 e2 e3 e4 e5 e6 e7 e8 e9 e10 e11 e12 e13 e14 e15 e16 e18 hcall CR
   generalize vs 17=u17 at *
   go_wp2
   go_roundw
   ·exact ⟨k+1,_,by go_num,by omega,zF (by rw [hnew.out];exact hm7.out)⟩
   ·simp [intOf];omega
  ·obtain rfl:k=b.rs.length:=by omega
   have hXall:(zBS b S).take b.rs.length=zBS b S:=List.take_of_length_le (by unfold zBS;rw [List.length_map];exact Nat.le_refl _)
   rw [hXall] at HM
   have hVP:=zF ((zGO (F:=IsHas) (enc:=zIY) (sz:=3) (w:=wr) (zBS b S) (fun x hx=>⟨rfl,fun _=>⟨rfl,viewX_I64 HV.out hx⟩⟩)).sl HM.out.own isHas_at)
   have hvlt:=HM.out.box.lt
   have hzv:=HM.out.lo
   have hm2:View2 wr wr (w.heap.size+1) (w.heap.size+1+1) vp (.slice none 0 0) []:=⟨zAX _ _ _ rfl rfl rfl rfl,⟨by omega,hvlt⟩,HM.out.res,HM.out.box,[],World.ownsRow_nil _ _ _ _,zJK _ _ _ _⟩
   have HM1:=zF (And.intro HM.out.below (And.intro HM.out.box hzv))
   have hTl:Hid (∀ k,k≤b.hs.length→((zBO b S).take k).length=k):=fun k hk=>by unfold zBO;rw [List.length_take,List.length_map,List.length_range];omega
   have hTs:Hid (∀ k,(h:k < b.hs.length)→(zBO b S).take (k+1)=(zBO b S).take k++[zSD b S k]):=fun k h=>by
    have hl:k < (zBO b S).length:=by unfold zBO;rw [List.length_map,List.length_range];exact h
    have he:(zBO b S)[k]=zSD b S k:=by simp only [zBO,List.getElem_map,List.getElem_range]
    rw [List.take_succ_eq_append_getElem hl,he]
   have hTall:Hid ((zBO b S).take b.hs.length=zBO b S):=List.take_of_length_le (by unfold zBO;rw [List.length_map,List.length_range];exact Nat.le_refl _)
   clear HM hXk hXall
   unfold zJ at c5
   go_wp2
   clear c5
   generalize wr=wb at *
   go_loopw [7] (fun i wq=>∃ (k:Nat) (vt:Value),i = .int .i64 k∧k≤b.hs.length∧Hid (View2 wb wq (w.heap.size+1) (w.heap.size+1+1) vp vt ((zBO b S).take k))) (fun i _=>b.hs.length - (intOf i).toNat)
   case atStart=>exact ⟨0,_,rfl,by omega,zF hm2⟩
   case round =>
    clear hm2
    obtain ⟨k,vt,rfl,hk,HW⟩:=hrel
    have hBA:=zF (HM1.out.1.grown HW.out.grown HM1.out.1.size (fun r e=>by cases e;have:=HM1.out.2.2;omega))
    have c4:=zC hBA.out HBOX.out.c4
    unfold zJ at c4
    by_cases hlt:k < b.hs.length
    ·obtain ⟨bh,oh,rfl,⟨g0,g1,g2,g3⟩,_⟩:=(zZ HB.out.hs).2 k hlt
     have GH:=zF g0
     have hnewT:=zF (hTs.out k hlt)
     have hlenT:=hTl.out k hk
     have hdn:=hheap.out _ (List.getElem_mem hlt)
     have hTK:Hid (∀ j,(h:j < b.ms.length)→(zSD b S k).take (j+1)=(zSD b S k).take j++[if (zAB b S b.ms[j] b.hs[k].d).h=k then (zAB b S b.ms[j] b.hs[k].d).c else 0]):=fun j h=>by
      have hl:j < (zSD b S k).length:=by unfold zSD;rw [List.length_map];exact h
      have he:(zSD b S k)[j]=zKM b S k b.ms[j]:=by simp only [zSD,List.getElem_map]
      have e:(b.hs[k]?).elim 0 (·.d)=b.hs[k].d:=by rw [List.getElem?_eq_getElem hlt];rfl
      have e2:zKM b S k b.ms[j]=if (zAB b S b.ms[j] b.hs[k].d).h=k then (zAB b S b.ms[j] b.hs[k].d).c else 0:=by unfold zKM;rw [e]
      rw [List.take_succ_eq_append_getElem hl,he,e2]
     have hRl:Hid ((zSD b S k).take b.ms.length=zSD b S k):=List.take_of_length_le (by unfold zSD;rw [List.length_map];exact Nat.le_refl _)
     have hRn:Hid ((zSD b S k).length=b.ms.length):=by unfold Hid zSD;rw [List.length_map]
     have hRI:Hid (∀ x∈zSD b S k,I64 x):=fun x hx=>by
      unfold zSD at hx
      obtain ⟨m,_,rfl⟩:=List.mem_map.1 hx
      have:=take_bd HV.out S k m
      unfold I64
      omega
     have hcallD:=zF (fun W (hb:Below wa.heap.size wa W) (m:Int) (hm:In m 1 999)=>hasOf08 W vr vn (.slice am b.ms.length capm) (.slice (some ⟨bh,oh,none⟩) b.hs.length caph) (.slice as' b.rs.length caps) (.slice az S.length capz) b S m b.hs[k].d (HB.out.ext hb) (zI zN hb HS.out) HV.out HT.out hm hdn)
     have hkl:(k:Int) < b.hs.length:=by omega
     clear g0 g1 g2 g3 hdn
     generalize b.hs[k].d=d at *
     generalize (zBO b S).take k=L at *
     generalize zSD b S k=RT at *
     go_wp2
     clear c4
     go_loopw [8,9] (fun q i wi=>∃ j:Nat,i = .int .i64 j∧j≤b.ms.length∧Hid (wi.ownsRow wr.heap.size 3 1 q j ((RT.take j).map (Value.int .i64)))∧Hid (Below wr.heap.size wr wi)) (fun _ i _=>b.ms.length - (intOf i).toNat)
     case atStart=>exact ⟨0,rfl,by omega,zF (World.ownsRow_nil _ _ _ _),zF (br_)⟩
     case round =>
      obtain ⟨j,rfl,hj,HO,HBI⟩:=hrel
      have hBI:=zF (zA hBA.out HBI.out)
      have c3:=zC hBI.out HBOX.out.c3
      unfold zJ at c3
      by_cases hlj:j < b.ms.length
      ·obtain ⟨bm,om,rfl,m0,hm0⟩:=(zZ HB.out.ms).2 j hlj
       have hcall:=zF (fun W hb=>hcallD.out W hb b.ms[j] (hmach.out _ (List.getElem_mem hlj)))
       have hnewR:=zF (hTK.out j hlj)
       have GM:=zF m0
       clear m0 hm0
       generalize b.ms[j]=m at *
       generalize zAB b S m d=x at *
       have hjl:(j:Int) < b.ms.length:=by omega
       go_wp2
       clear c3
       have k0:∀ xq,(wr.later xq).cell? ⟨w.heap.size,0,none⟩=some vr:=fun xq=>zC (zA hBI.out (zE wr xq)) HBOX.out.c0
       have k1:∀ xq,(wr.later xq).cell? ⟨w.heap.size,1,none⟩=some vn:=fun xq=>zC (zA hBI.out (zE wr xq)) HBOX.out.c1
       have k2:∀ xq,(wr.later xq).cell? ⟨w.heap.size,2,none⟩=some (.int .i64 b.of):=fun xq=>zC (zA hBI.out (zE wr xq)) HBOX.out.c2
       have k3:∀ xq,(wr.later xq).cell? ⟨w.heap.size,3,none⟩=some (.slice (some ⟨bm,om,none⟩) b.ms.length capm):=fun xq=>zC (zA hBI.out (zE wr xq)) HBOX.out.c3
       have k4:∀ xq,(wr.later xq).cell? ⟨w.heap.size,4,none⟩=some (.slice (some ⟨bh,oh,none⟩) b.hs.length caph):=fun xq=>zC (zA hBI.out (zE wr xq)) HBOX.out.c4
       have k5:∀ xq,(wr.later xq).cell? ⟨w.heap.size,5,none⟩=some (.slice as' b.rs.length caps):=fun xq=>zC (zA hBI.out (zE wr xq)) HBOX.out.c5
       have km:∀ xq,(wr.later xq).cell? ⟨bm,om+j,none⟩=some (.int .i64 m):=fun xq=>by
        have:=zC (zA hBI.out (zE wr xq)) GM.out
        rw [Nat.mul_one] at this
        exact this
       have kh:∀ xq,(wr.later xq).cell? ⟨bh,oh+k*4,none⟩=some (.int .i64 d):=fun xq=>zC (zA hBI.out (zE wr xq)) GH.out
       refine zK 15 (by kernel_rfl) (by kernel_rfl) ?_
       simp only [tk_]
       iterate 13 (apply gx_;focus (intro vs xq hd;(try simp [hq_] at hd);simp only [pf_];go_simp;exact ⟨br_,rfl⟩))
       refine zAE ?_
       apply Exists.intro
       refine ⟨fun vs xq hd=>?_,?_⟩
       ·(try simp [hq_] at hd)
        simp only [pf_]
        go_simp
        refine (hcall.out _ (zA hBI.out (zE wr xq))).mono ?_
        rintro e w9 ⟨rfl,hb9⟩
        exact ⟨rfl,hb9⟩
       refine zL (NewBx wr.heap.size #[.int .i64 0,.int .i64 0,.int .i64 0] 168) (zDC _ _ _) ?_ ?_
       ·intro vs xq hd
        (try simp [hq_] at hd)
        simp only [pf_]
        go_simp
        exact ⟨zB _ _,_,rfl,(zE wr xq).size,Lay.new _ _ _⟩
       refine zT rfl (fun vs xq hd=>?_)
       simp [zV,zAD,List.range,List.range.loop] at hd
       simp only [pf_]
       obtain ⟨e0,e1,e2,e3,e4,e5,e6,e7,e8,e9,e10,e11,e12,e13,gb,e14,hgb,hLb⟩:=hd
       simp only [Nat.zero_add,Nat.reduceAdd] at e0 e1 e2 e3 e4 e5 e6 e7 e8 e9 e10 e11 e12 e13 e14 ⊢
       simp only [e0,e1,e2,e3,e4,e5,e6,e7,e8,e9,e10,e11,e12,e13,e14]
       have hb8:=zE wr xq
       clear e0 e1 e2 e3 e4 e5 e6 e7 e8 e9 e10 e11 e12 e13 e14 k0 k1 k2 k3 k4 k5 km kh hcall
       generalize wr.later xq=w8 at *
       have q0:=hLb.cell 0 _ rfl
       have q1:=hLb.cell 1 _ rfl
       have q2:=hLb.cell 2 _ rfl
       have f0:=hLb.frozen 0
       have f1:=hLb.frozen 1
       have f2:=hLb.frozen 2
       have hl:=hLb.lt
       have hb9:Below wr.heap.size wr (((w8.setCell ⟨gb,0,none⟩ (.int .i64 x.c)).setCell ⟨gb,1,none⟩ (.int .i64 x.l)).setCell ⟨gb,2,none⟩ (.int .i64 x.h)):=zH hgb (zH hgb (zH hgb hb8))
       have hL9:Lay (((w8.setCell ⟨gb,0,none⟩ (.int .i64 x.c)).setCell ⟨gb,1,none⟩ (.int .i64 x.l)).setCell ⟨gb,2,none⟩ (.int .i64 x.h)) gb #[.int .i64 x.c,.int .i64 x.l,.int .i64 x.h] 168:=zBC (zBC (zBC hLb 0 (.int .i64 x.c)) 1 (.int .i64 x.l)) 2 (.int .i64 x.h)
       have HB9:=zF hb9
       have HL9:=zF hL9
       clear hLb hb9 hL9 hb8
       go_step
       go_simp
       generalize ((w8.setCell _ _).setCell _ _).setCell _ _=w9 at *
       clear q0 q1 q2 f0 f1 f2 hl
       have q0:=HL9.out.cell 0 _ rfl
       have q2:=HL9.out.cell 2 _ rfl
       have ho9:=zAA HB9.out HO.out
       have hs9:=Nat.le_trans HBI.out.size HB9.out.size
       by_cases hxk:x.h=k
       ·have hxk':(x.h == (k:Int))=true:=by simpa using hxk
        rw [if_pos hxk] at hnewR
        clear hxk
        go_wp2_with (at_builtin;refine wpList_append_own _ rfl _ _ 28 rfl _ 3 i0 (.int .i64 0) 1 8 underlying28 hif iz0 iz1 iz2 rfl (by decide) _ _ _ rfl (ho9.alloc _) ⟨w9.heap.size,0,none⟩ 1 1 [.int .i64 x.c] rfl rfl (cell_one_new _ _ _) (by simp [Value.oneCell']) (by unfold maxLen;omega) (by omega) (by simp;omega) ?_;intro v' w4 hown' hgrow _)
        have hbz:=(zA (zA HBI.out HB9.out) (zB _ _)).grown hgrow (zA (zA HBI.out HB9.out) (zB _ _)).size (fun r e=>(HO.out.lt r e).1)
        have HR1:=zF (And.intro hown' hbz)
        clear hown' hgrow hbz
        go_roundw
        ·exact ⟨j+1,by go_num,by omega,zF (by rw [hnewR.out,List.map_append];exact HR1.out.1),zF HR1.out.2⟩
        ·simp [intOf];omega
       ·have hxk':(x.h == (k:Int))=false:=by simpa using hxk
        rw [if_neg hxk] at hnewR
        clear hxk
        go_wp2_with (at_builtin;refine wpList_append_own _ rfl _ _ 28 rfl _ 3 i0 (.int .i64 0) 1 8 underlying28 hif iz0 iz1 iz2 rfl (by decide) _ _ _ rfl (ho9.alloc _) ⟨w9.heap.size,0,none⟩ 1 1 [.int .i64 0] rfl rfl (cell_one_new _ _ _) (by simp [Value.oneCell']) (by unfold maxLen;omega) (by omega) (by simp;omega) ?_;intro v' w4 hown' hgrow _)
        have hbz:=(zA (zA HBI.out HB9.out) (zB _ _)).grown hgrow (zA (zA HBI.out HB9.out) (zB _ _)).size (fun r e=>(HO.out.lt r e).1)
        have HR1:=zF (And.intro hown' hbz)
        clear hown' hgrow hbz
        go_roundw
        ·exact ⟨j+1,by go_num,by omega,zF (by rw [hnewR.out,List.map_append];exact HR1.out.1),zF HR1.out.2⟩
        ·simp [intOf];omega
      ·obtain rfl:j=b.ms.length:=by omega
       have ho:=HO.out
       rw [hRl.out] at ho
       have hon:OnT [3] (fun w=>Sl zAJ 1 w u8 RT) wr:=(zGO (F:=IsInt) (enc:=fun x=>[.int .i64 x]) (sz:=1) (w:=wr) RT (fun x hx=>⟨rfl,fun _=>⟨rfl,hRI.out x hx⟩⟩)).sl (by rw [hRn.out,ints_flat];exact ho) isInt_at
       obtain ⟨au,cu,rfl,_⟩:=zD hon.now
       have HON:=zF hon
       obtain ⟨cs,hoc,hri⟩:=HW.out.own
       have hoc1:=zAA HBI.out hoc
       have hbx:=HW.out.box.ext HBI.out
       have hrs:=HW.out.res.ext HBI.out
       have kv:=hbx.cell 1 _ rfl
       have HOC:=zF hoc1
       have HBXX:=zF hbx
       have HRI:=zF (hri.keep (zAQ HBI.out))
       have HRS:=zF hrs
       have hzl:=HW.out.lo
       have hgr0:=zF (zAH HW.out.grown (bel_grown HBI.out))
       have hgsz:=hgr0.out.size
       clear ho hon hoc hri hoc1 hbx hrs
       go_wp2_with (
        at_builtin
        refine wpList_append_own _ rfl _ _ 56 rfl _ 28 l0 (.slice none 0 0) 1 24 underlying56 hlf lz0 lz1 lz2 rfl (by decide) _ _ _ rfl (HOC.out.alloc _) ⟨wr.heap.size,0,none⟩ 1 1 [.slice au RT.length cu] rfl rfl (cell_one_new _ _ _) (by simp [Value.oneCell']) (by unfold maxLen;omega) (by omega) (by simp;omega) ?_
        intro v' w4 hown' hgrow _
        obtain ⟨g',cap',rfl⟩:=zCT hown'
        have hbxa:=HBXX.out.alloc (.cells #[.slice au RT.length cu] 28)
        have hbx4:=hbxa.kept hgrow (fun e=>by have:=(HOC.out.lt _ e.symm).1;omega)
        have kc:=hbx4.cell 1 _ rfl
        have kf:=hbx4.frozen 1
        have kl:=hbx4.lt)
       have hge:∀ r,vt.ownBlock=some r→wb.heap.size≤r:=fun r e=>(HOC.out.lt r e).1
       have hba:=zB wr (.cells #[.slice au RT.length cu] 28)
       have hK1:zEK [3] wr w4:=(zAQ hba).trans (zCE hgrow (HOC.out.alloc _) (by decide))
       have hK2:=hK1.trans (zHV (j:=1) (u:=.slice (some ⟨g',0,none⟩) (L.length+1) cap') (es:=[3]) (show w4.heap[w.heap.size+1+1]? = _ from hbx4) (by decide))
       have hrs4:=(HRS.out.alloc (.cells #[.slice au RT.length cu] 28)).kept hgrow (fun e=>by have:=hge _ e.symm;omega)
       have hfin:View2 wb (w4.setCell ⟨w.heap.size+1+1,1,none⟩ (.slice (some ⟨g',0,none⟩) (L.length+1) cap')) (w.heap.size+1) (w.heap.size+1+1) vp (.slice (some ⟨g',0,none⟩) (L.length+1) cap') (L++[RT]):=by
        refine ⟨zHR (grown_beyond (zAH hgr0.out (bel_grown hba)) hgrow hge),hzl,zBD hrs4 (by omega) _ _,zBC hbx4 1 _,cs++[.slice au RT.length cu],?_,?_⟩
        ·have:=zJG (g:=w.heap.size+1+1) (j:=1) (u:=.slice (some ⟨g',0,none⟩) (L.length+1) cap') hown' (by omega)
         rw [List.length_append]
         exact this
        ·exact (HRI.out.keep hK2).snoc rfl ((HON.out.keep hK2).mono (fun w h=>⟨_,rfl,h⟩))
       have HFIN:=zF hfin
       clear hown' hgrow hba hK1 hK2 hrs4 hfin hge hbxa hbx4 kc kf kl kv
       go_roundw
       ·exact ⟨k+1,_,by go_num,by omega,zF (by rw [hnewT.out];have h:=HFIN.out;rw [hlenT] at h;exact h)⟩
       ·simp [intOf];omega
    ·obtain rfl:k=b.hs.length:=by omega
     have hw:=HW.out
     rw [hTall.out] at hw
     obtain ⟨cs,hoc,hri⟩:=hw.own
     have hT:=hri.sl hoc zME
     have hP:=hVP.out.keep (zOU hw.grown HM1.out.2.1 (by decide))
     obtain ⟨apv,cpv,rfl,_⟩:=zD hP.now
     obtain ⟨atv,ctv,rfl,_⟩:=zD hT.now
     have HT9:=zF hT
     have HP9:=zF hP
     have q0:=hw.box.cell 0 _ rfl
     have q1:=hw.box.cell 1 _ rfl
     have z0:=hw.res.cell 0 _ rfl
     have z1:=hw.res.cell 1 _ rfl
     have zf0:=hw.res.frozen 0
     have zf1:=hw.res.frozen 1
     have zl:=hw.res.lt
     have HRS:=zF hw.res
     clear hw hoc hri hT hP
     go_wp2
     refine bodyPost_ret (v:=.agg #[.slice apv (zBS b S).length cpv,.slice atv (zBO b S).length ctv]) (by simp [results,results60,go_sem,z0,z1,zl]) rfl ?_
     have hk1:=zHV (j:=0) (u:=.slice apv (zBS b S).length cpv) (es:=[168,28,3]) (show wr.heap[w.heap.size+1]? = _ from HRS.out) (by decide)
     have hk2:=hk1.trans (zHV (j:=1) (u:=.slice atv (zBO b S).length ctv) (es:=[168,28,3]) (show _=some (Obj.cells _ _ _) from zBC HRS.out 0 (.slice apv (zBS b S).length cpv)) (by decide))
     refine ⟨_,_,rfl,((((HP9.out.weak (by decide)).both (HT9.out.weak (by decide))).mono (fun w h=>⟨h.1,h.2⟩)).keep hk2),?_⟩
     exact zH (by omega) (zH (by omega) ((zA hb1 hBA.out)))
end Go.Proofs.YtpolpdegpbahiaaGreatDoor
