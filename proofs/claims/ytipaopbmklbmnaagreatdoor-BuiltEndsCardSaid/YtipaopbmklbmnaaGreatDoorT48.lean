/- Lemmas. -/
import Derived.Test.YtipaopbmklbmnaaGreatDoorT47
set_option linter.all false
set_option maxRecDepth 100000
set_option maxHeartbeats 0
namespace Go.Proofs.YtipaopbmklbmnaaGreatDoor
section
open Tryz
open Go.RowKit Go.Shelf
attribute [local go_sem] zAE Oper.grows Oper.growUpon
def RetAddK (b:Built) (r:Report) (w:World) (e:Ending) (w':World) : Prop :=
 Below w.heap.size w w'/\((zFZ b r≠0/\e = .returned (.tuple #[.agg #[.slice none 0 0,.slice none 0 0,.int .i64 0,.slice none 0 0,.slice none 0 0,.slice none 0 0],.int .i64 (zFZ b r)])) \/
  (zFZ b r=0/\∃ vr vn vm vh vs,e = .returned (.tuple #[.agg #[vr,vn,.int .i64 b.of,vm,vh,vs],.int .i64 0])/\BuiltN w.heap.size w' vr vn vm vh vs (addB b r)/\Capd vr b.ns.reg.length/\Capd vn b.ns.notes.length/\Capd vh b.hs.length))
theorem add_builtK (w:World) (vr vn vm vh vs:Value) (b:Built) (r:Report) (h:BuiltArg w vr vn vm vh vs b) (hT:Tiny b) (hr:RNum r) :
  Calls prog 44 #[.agg #[vr,vn,.int .i64 b.of,vm,vh,vs],.agg #[.int .i64 r.num,.int .i64 r.m,.int .i64 r.d,.int .i64 r.l,.int .u8 r.k]] w (RetAddK b r w):=by
 obtain ⟨i0,hi0,hz0,hz1,hz2⟩:=info_parts zOO;obtain ⟨ar,cr,rfl,_⟩:=zD h.at_.reg;obtain ⟨an,cn,rfl,_⟩:=zD h.at_.notes;obtain ⟨am,cm,rfl,_⟩:=zD h.at_.ms;obtain ⟨ah,ch,rfl,_⟩:=zD h.at_.hs;obtain ⟨az,cz,rfl,_⟩:=zD h.at_.rs;have hOf:I64 b.of:=h.at_.of;have hb1:=zB w (.cells #[.slice ar b.ns.reg.length cr,.slice an b.ns.notes.length cn,.int .i64 b.of,.slice am b.ms.length cm,.slice ah b.hs.length ch,.slice az b.rs.length cz] 32);have L0:=Lay.new w 32 #[.slice ar b.ns.reg.length cr,.slice an b.ns.notes.length cn,.int .i64 b.of,.slice am b.ms.length cm,.slice ah b.hs.length ch,.slice az b.rs.length cz];have L1:=Lay.new (w.alloc (.cells #[.slice ar b.ns.reg.length cr,.slice an b.ns.notes.length cn,.int .i64 b.of,.slice am b.ms.length cm,.slice ah b.hs.length ch,.slice az b.rs.length cz] 32)) 49 #[.int .i64 r.num,.int .i64 r.m,.int .i64 r.d,.int .i64 r.l,.int .u8 r.k];have L2:=Lay.new ((w.alloc (.cells #[.slice ar b.ns.reg.length cr,.slice an b.ns.notes.length cn,.int .i64 b.of,.slice am b.ms.length cm,.slice ah b.hs.length ch,.slice az b.rs.length cz] 32)).alloc (.cells #[.int .i64 r.num,.int .i64 r.m,.int .i64 r.d,.int .i64 r.l,.int .u8 r.k] 49)) 32 #[.slice none 0 0,.slice none 0 0,.int .i64 0,.slice none 0 0,.slice none 0 0,.slice none 0 0];have hb2:=zB (w.alloc (.cells #[.slice ar b.ns.reg.length cr,.slice an b.ns.notes.length cn,.int .i64 b.of,.slice am b.ms.length cm,.slice ah b.hs.length ch,.slice az b.rs.length cz] 32)) (.cells #[.int .i64 r.num,.int .i64 r.m,.int .i64 r.d,.int .i64 r.l,.int .u8 r.k] 49);have hb3:=zB ((w.alloc (.cells #[.slice ar b.ns.reg.length cr,.slice an b.ns.notes.length cn,.int .i64 b.of,.slice am b.ms.length cm,.slice ah b.hs.length ch,.slice az b.rs.length cz] 32)).alloc (.cells #[.int .i64 r.num,.int .i64 r.m,.int .i64 r.d,.int .i64 r.l,.int .u8 r.k] 49)) (.cells #[.slice none 0 0,.slice none 0 0,.int .i64 0,.slice none 0 0,.slice none 0 0,.slice none 0 0] 32);replace L0:=L0.ext (zA hb2 hb3);replace L1:=L1.ext hb3;rw [World.size_alloc] at L1;rw [World.size_alloc,World.size_alloc] at L2;have hbe:=zA (zA hb1 hb2) hb3;have c0:=L0.cell 0 _ rfl;have c1:=L0.cell 1 _ rfl;have c2:=L0.cell 2 _ rfl;have c3:=L0.cell 3 _ rfl;have c4:=L0.cell 4 _ rfl;have c5:=L0.cell 5 _ rfl;have HTT:=zE hT;have H0:=zE h;clear h hT hb1 hb2 hb3;go_enter func44,ntmps44;go_wp2_with fail;clear c0 c1 c2 c3 c4 c5;have hsz:w.heap.size+1+1 < (((w.alloc (.cells #[.slice ar b.ns.reg.length cr,.slice an b.ns.notes.length cn,.int .i64 b.of,.slice am b.ms.length cm,.slice ah b.hs.length ch,.slice az b.rs.length cz] 32)).alloc (.cells #[.int .i64 r.num,.int .i64 r.m,.int .i64 r.d,.int .i64 r.l,.int .u8 r.k] 49)).alloc (.cells #[.slice none 0 0,.slice none 0 0,.int .i64 0,.slice none 0 0,.slice none 0 0,.slice none 0 0] 32)).heap.size:=L2.lt;generalize ((w.alloc _).alloc _).alloc _=w1 at *;generalize hg4:w.heap.size+1+1=g4 at *;generalize hg3:w.heap.size+1=g3 at *;have hgw:w.heap.size < g3/\g3 < g4:=by omega
 clear hg4 hg3;refine (zET _ _ _ _ _ _ b (H0.out.ext hbe)).mono ?_;rintro e wB ⟨rfl,hb2⟩;have hbe:=zA hbe hb2;have L0:=zE (L0.ext hb2);have L1:=zE (L1.ext hb2);have L2:=zE (L2.ext hb2);have hsz:g4 < wB.heap.size:=L2.out.lt;clear hb2;by_cases k0:zF b=0
 case neg =>
  have HA:=zE (addCode_bad (r:=r) k0);have k0':(zF b != 0)=true:=by simpa using k0
  have K0:=zE k0;clear k0;have L2':=L2.out;have r0:=L2'.cell 0 _ rfl;have r1:=L2'.cell 1 _ rfl;have r2:=L2'.cell 2 _ rfl;have r3:=L2'.cell 3 _ rfl;have r4:=L2'.cell 4 _ rfl;have r5:=L2'.cell 5 _ rfl;have q0:=L2'.frozen 0;have q1:=L2'.frozen 1;have q2:=L2'.frozen 2;have q3:=L2'.frozen 3;have q4:=L2'.frozen 4;have q5:=L2'.frozen 5;go_wp2;refine bodyPost_ret (v:=.tuple #[.agg #[.slice none 0 0,.slice none 0 0,.int .i64 0,.slice none 0 0,.slice none 0 0,.slice none 0 0],.int .i64 (zF b)]) ?_ rfl ⟨?_,.inl ⟨by rw [HA.out];exact K0.out,by rw [HA.out]⟩⟩
  ·simp [results,results44,go_sem,r0,r1,r2,r3,r4,r5,hsz]
  ·repeat (refine zI (by omega) ?_)
   exact hbe
 have k0':(zF b != 0)=false:=by simpa using k0
 have K0:=zE k0;clear k0;by_cases k1:b.rs.length=10
 case pos =>
  have HA:=zE (addCode_full (r:=r) K0.out k1);have k1':((b.rs.length:Int) == 10)=true:=by simp [k1]
  clear k1;have L2':=L2.out;have r0:=L2'.cell 0 _ rfl;have r1:=L2'.cell 1 _ rfl;have r2:=L2'.cell 2 _ rfl;have r3:=L2'.cell 3 _ rfl;have r4:=L2'.cell 4 _ rfl;have r5:=L2'.cell 5 _ rfl;have q0:=L2'.frozen 0;have q1:=L2'.frozen 1;have q2:=L2'.frozen 2;have q3:=L2'.frozen 3;have q4:=L2'.frozen 4;have q5:=L2'.frozen 5;have c5:=L0.out.cell 5 _ rfl;go_wp2;refine bodyPost_ret (v:=.tuple #[.agg #[.slice none 0 0,.slice none 0 0,.int .i64 0,.slice none 0 0,.slice none 0 0,.slice none 0 0],.int .i64 9]) ?_ rfl ⟨?_,.inl ⟨by rw [HA.out];decide,by rw [HA.out]⟩⟩
  ·simp [results,results44,go_sem,r0,r1,r2,r3,r4,r5,hsz]
  ·repeat (refine zI (by omega) ?_)
   exact hbe
 have k1':((b.rs.length:Int) == 10)=false:=by simp;omega
 have K1:=zE k1;clear k1;have c5:=L0.out.cell 5 _ rfl;go_wp2_with fail;clear c5;have hAt:=zE (H0.out.ext hbe);have hmn:=HTT.out.2.1;have hhn:=HTT.out.2.2.1;have hrn:=HTT.out.2.2.2;have hzb:∀ c,Below wB.heap.size wB c->wB.heap.size<=c.heap.size:=fun _ h=>h.size
 refine zBU 16 13 [10,12] (fun a c=>∀ e,e≠49->zBZ wB.heap.size e a c) (fun c=>Below wB.heap.size wB c) (fun _ _ hb h=>zA h hb) ⟨rfl,rfl,rfl,Nat.le_refl _,fun _ _=>rfl⟩ (fun _=>True) (fun _ _ _ h=>h) trivial (by kernel_rfl) (by kernel_rfl) ?_;simp only [tk_];apply gw_ (by rfl)
 ·intro vs w2 hw hd
  (try simp [hq_] at hd)
  simp only [pf_];go_simp;exact ⟨br_,rfl⟩
 apply gw_ (by rfl)
 ·intro vs w2 hw hd
  (try simp [hq_] at hd)
  have k2:=(L0.out.ext hw).cell 2 _ rfl;simp only [pf_];go_simp;exact ⟨br_,rfl⟩
 apply gw_ (by rfl)
 ·intro vs w2 hw hd
  (try simp [hq_] at hd)
  simp only [pf_];go_simp;exact ⟨br_,rfl⟩
 apply gw_ (by rfl)
 ·intro vs w2 hw hd
  (try simp [hq_] at hd)
  have k3:=(L0.out.ext hw).cell 3 _ rfl;simp only [pf_];go_simp;exact ⟨br_,rfl⟩
 refine zCC (fun v w'=>New zAM 1 3 wB.heap.size w' v b.ms) (fun _ _ _ hb h=>h.ext zN hb) (by rfl) (.inr (.inr (fun _ _ _ hT h=>h.same zFP (hT _ (by decide))))) ?_ ?_
 ·intro vs w2 hw hd
  (try simp [hq_] at hd)
  simp only [pf_];go_simp;refine (clone_int _ _ b.ms (hAt.out.ext hw).at_.ms (by omega)).mono ?_;rintro e c2 ⟨u,rfl,hnew,hb⟩;exact ⟨_,rfl,hb,hnew.weak hw.size⟩
 apply gw_ (by rfl)
 ·intro vs w2 hw hd
  (try simp [hq_] at hd)
  simp only [pf_];go_simp;exact ⟨br_,rfl⟩
 apply gw_ (by rfl)
 ·intro vs w2 hw hd
  (try simp [hq_] at hd)
  have k4:=(L0.out.ext hw).cell 4 _ rfl;simp only [pf_];go_simp;exact ⟨br_,rfl⟩
 refine zCC (fun v w'=>New zDO 4 42 wB.heap.size w' v b.hs) (fun _ _ _ hb h=>h.ext zCU hb) (by rfl) (.inr (.inr (fun _ _ _ hT h=>h.same zEF (hT _ (by decide))))) ?_ ?_
 ·intro vs w2 hw hd
  (try simp [hq_] at hd)
  simp only [pf_];go_simp;refine (clone_heap _ _ b.hs (hAt.out.ext hw).at_.hs (by omega)).mono ?_;rintro e c2 ⟨u,rfl,hnew,hb⟩;exact ⟨_,rfl,hb,hnew.weak hw.size⟩
 apply gw_ (by rfl)
 ·intro vs w2 hw hd
  (try simp [hq_] at hd)
  simp only [pf_];go_simp;exact ⟨br_,rfl⟩
 apply gw_ (by rfl)
 ·intro vs w2 hw hd
  (try simp [hq_] at hd)
  have k5:=(L0.out.ext hw).cell 5 _ rfl;simp only [pf_];go_simp;exact ⟨br_,rfl⟩
 refine zCC (fun v w'=>w'.ownsRow wB.heap.size 49 5 v b.rs.length (zDJ b.rs)) (fun _ _ _ hb h=>zAC hb h) (by rfl) (.inl (by rfl)) ?_ ?_
 ·intro vs w2 hw hd
  (try simp [hq_] at hd)
  simp only [pf_];go_simp;refine (clone_report _ _ b.rs (hAt.out.ext hw).at_.rs (by omega)).mono ?_;rintro e c2 ⟨u,rfl,hnew,hb⟩;obtain ⟨cs,hown⟩:=hnew.2;obtain rfl:=own_flat hnew.1 hown;exact ⟨_,rfl,hb,own_weak hw.size hown⟩
 apply gw_ (by rfl)
 ·intro vs w2 hw hd
  (try simp [hq_] at hd)
  have LL:=L1.out.ext hw;have k0:=LL.cell 0 _ rfl;have k1:=LL.cell 1 _ rfl;have k2:=LL.cell 2 _ rfl;have k3:=LL.cell 3 _ rfl;have k4:=LL.cell 4 _ rfl;simp only [pf_];go_simp;exact ⟨br_,rfl⟩
 refine zCC (fun v w'=>BoxRep r v w') (boxRep_stays r) (by rfl) (.inl (by rfl)) ?_ ?_
 ·intro vs w2 hw hd
  (try simp [hq_] at hd)
  simp only [pf_];go_simp;have B:=zR w2 #[.int .i64 r.num,.int .i64 r.m,.int .i64 r.d,.int .i64 r.l,.int .u8 r.k] 49;exact ⟨zB _ _,_,rfl,B 0 _ rfl,B 1 _ rfl,B 2 _ rfl,B 3 _ rfl,B 4 _ rfl⟩
 refine zFD (fun v w'=>w'.ownsRow wB.heap.size 49 5 v (b.rs.length+1) (zDJ (b.rs++[r]))) (fun _ _ _ hb h=>zAC hb h) (by rfl) ?_ ?_
 ·intro vs w2 hw hi hd
  (try simp [hq_] at hd)
  simp only [pf_];obtain ⟨e3,⟨bb,e5,hbb⟩,_⟩:=hd;refine zEG (.tmp 31) (.tmp 33) 30 (by rfl) wB.heap.size 49 i0 _ 5 40 underlying30 hi0 hz0 hz1 hz2 rfl (by decide) (vs 10) b.rs.length _ (by rfl) e3 (vs 12) ⟨bb,0,none⟩ 1 1 e5 (zOG r) (by rfl) rfl (boxRep_cells hbb) (encR_one r) (by unfold maxLen;omega) (by omega) hw.size (fun v' w' h1 h2=>⟨zEX e3 h2 hw (Nat.le_refl _),fun e hne=>same_grown h2 e3 hne,?_⟩);rw [zQJ];exact h1
 refine zCC (fun v w'=>∃ a c d,v = .agg #[.slice none 0 0,.slice none 0 0,.int .i64 b.of,a,c,d]/\New zAM 1 3 wB.heap.size w' a b.ms/\New zDO 4 42 wB.heap.size w' c b.hs/\w'.ownsRow wB.heap.size 49 5 d (b.rs.length+1) (zDJ (b.rs++[r]))) (fun _ _ _ hb ⟨a,c,d,h,h1,h2,h3⟩=>⟨a,c,d,h,h1.ext zN hb,h2.ext zCU hb,zAC hb h3⟩) (by rfl) (.inr (.inl (by kernel_rfl))) ?_ ?_
 ·intro vs w2 hw hd
  (try simp [hq_] at hd)
  obtain ⟨e1,e4,e7,e13⟩:=hd;obtain ⟨a4,p4,q4,_⟩:=e4.cap;obtain ⟨a7,p7,q7,_⟩:=e7.cap;obtain ⟨g13,p13,q13⟩:=zDM e13;simp only [pf_];go_simp;exact ⟨br_,_,_,_,⟨rfl,rfl,rfl⟩,by rw [<- q4];exact e4,by rw [<- q7];exact e7,by rw [<- q13];exact e13⟩
 refine zCC (fun v w'=>∃ g,v = .pointer (some ⟨g,0,none⟩)/\wB.heap.size<=g/\Lay w' g #[.slice none 0 0,.slice none 0 0,.int .i64 0,.slice none 0 0,.slice none 0 0,.slice none 0 0] 32) (fun _ _ _ hb ⟨g,h,h1,h2⟩=>⟨g,h,h1,h2.ext hb⟩) (by rfl) (.inr (.inr (fun _ _ _ hT ⟨g,h,h1,h2⟩=>⟨g,h,h1,h2.same (hT _ (by decide)) h1⟩))) ?_ ?_
 ·intro vs w2 hw hd
  (try simp [hq_] at hd)
  simp only [pf_];go_simp;have hx:=zB w2 (.cells #[.slice none 0 0,.slice none 0 0,.int .i64 0,.slice none 0 0,.slice none 0 0,.slice none 0 0] 32);exact ⟨hx,Lay.new _ _ _⟩
 refine zEU rfl (fun vs w3 hw hd=>?_);simp [zW,zAI,List.range,List.range.loop,List.filter_cons,List.filter_nil] at hd;simp only [pf_];obtain ⟨_,_,_,_,_,_,_,_,_,_,_,_,⟨ua,uc,ud,e14,sa,sc,sd⟩,g7,e15,hg7,L7⟩:=hd;generalize vs 0=u0 at *;generalize vs 1=u1 at *;generalize vs 2=u2 at *;generalize vs 3=u3 at *;generalize vs 4=u4 at *;generalize vs 5=u5 at *;generalize vs 6=u6 at *;generalize vs 7=u7 at *;generalize vs 8=u8 at *;generalize vs 9=u9 at *;generalize vs 10=u10 at *;generalize vs 11=u11 at *;generalize vs 12=u12 at *;generalize vs 13=u13 at *;generalize vs 14=u14 at *;generalize vs 15=u15 at *;subst e14 e15;obtain ⟨a4,p4,rfl,_⟩:=sa.cap;obtain ⟨a7,p7,rfl,_⟩:=sc.cap;obtain ⟨g13,p13,rfl⟩:=zDM sd;have c0:=L7.cell 0 _ rfl;have c1:=L7.cell 1 _ rfl;have c2:=L7.cell 2 _ rfl;have c3:=L7.cell 3 _ rfl;have c4:=L7.cell 4 _ rfl;have c5:=L7.cell 5 _ rfl;have q0:=L7.frozen 0;have q1:=L7.frozen 1;have q2:=L7.frozen 2;have q3:=L7.frozen 3;have q4:=L7.frozen 4;have q5:=L7.frozen 5;have l7:=L7.lt;go_wp2_with fail;obtain ⟨L7',hgr⟩:=lay_set6 L7 (.slice none 0 0) (.slice none 0 0) (.int .i64 b.of) (.slice a4 b.ms.length p4) (.slice a7 b.hs.length p7) (.slice (some ⟨g13,0,none⟩) (b.rs.length+1) p13);have SM:=zE (sa.same zFP (zDT hgr L7 (by decide)));have SH:=zE (sc.same zEF (zDT hgr L7 (by decide)));have SR:=zE (zFA (zDT hgr L7 (by decide)) (Nat.le_refl _) sd);have L0:=zE ((L0.out.ext hw).kept hgr (by simp;omega));have L2:=zE ((L2.out.ext hw).kept hgr (by simp;omega));have hbe:=(zA hbe hw).grown hgr (zA hbe hw).size (fun k e=>by cases e;omega);have L7:=zE L7';have hzb4:=Nat.le_trans hw.size hgr.size;clear hgr L7' c0 c1 c2 c3 c4 c5 q0 q1 q2 q3 q4 q5 l7 hw sa sc sd L1 hAt hzb;generalize (((((w3.setCell _ _).setCell _ _).setCell _ _).setCell _ _).setCell _ _).setCell _ _=w4 at *;have hA4:=zE (H0.out.ext hbe);have hn16:=HTT.out.1.2;have hr80:=HTT.out.1.1.1;have hLo:=zE (zJ zFR hbe (issue_lo H0.out.at_.reg));have K0:=zH (show zK w4 w.heap.size 0 (.slice ar b.ns.reg.length cr) from L0.out.cell 0 _ rfl);have K1:=zH (show zK w4 w.heap.size 1 (.slice an b.ns.notes.length cn) from L0.out.cell 1 _ rfl);refine zM 11 (by kernel_rfl) (by kernel_rfl) ?_;simp only [tk_];iterate 4 (apply gx_;focus (intro vs xq hd;(try simp [hq_] at hd);simp only [pf_];go_simp;exact ⟨br_,rfl⟩))
 refine zL (fun v w'=>New (zDU w.heap.size) 5 118 wB.heap.size w' v b.ns.reg) (fun _ _ _ hb h=>h.ext zFR hb) ?_ ?_
 ·intro vs xq hd
  (try simp [hq_] at hd)
  simp only [pf_];go_simp;have hbl:=zG w4 xq;refine (clone_issueB _ _ _ b.ns.reg (zJ zFR hbl hLo.out) (by omega)).mono ?_;rintro e c2 ⟨u,rfl,hnew,hb⟩;exact ⟨_,rfl,hb,hnew.weak (Nat.le_trans hzb4 hbl.size)⟩
 refine zL (fun v w'=>∃ u,v = .agg #[u]/\New (zDU w.heap.size) 5 118 wB.heap.size w' u b.ns.reg) (fun _ _ _ hb ⟨u,h1,h⟩=>⟨u,h1,h.ext zFR hb⟩) ?_ ?_
 ·intro vs xq hd
  (try simp [hq_] at hd)
  simp only [pf_];obtain ⟨ay,py,qy,_⟩:=hd.cap;have hx:=hd;rw [qy] at hx;go_simp;first | exact br_ | exact ⟨br_,hx⟩ | exact ⟨br_,_,rfl,hx⟩
 iterate 3 (apply gx_;focus (intro vs xq hd;(try simp [hq_] at hd);simp only [pf_];go_simp;exact ⟨br_,rfl⟩))
 refine zL (fun v w'=>New zBL 10 74 wB.heap.size w' v b.ns.notes) (fun _ _ _ hb h=>h.ext zAN hb) ?_ ?_
 ·intro vs xq hd
  (try simp [hq_] at hd)
  simp only [pf_];go_simp;have hbl:=zG w4 xq;refine (clone_note _ _ b.ns.notes (hA4.out.ext hbl).at_.notes (by omega)).mono ?_;rintro e c2 ⟨u,rfl,hnew,hb⟩;exact ⟨_,rfl,hb,hnew.weak (Nat.le_trans hzb4 hbl.size)⟩
 refine zL (fun v w'=>∃ a c,v = .agg #[a,c]/\New (zDU w.heap.size) 5 118 wB.heap.size w' a b.ns.reg/\New zBL 10 74 wB.heap.size w' c b.ns.notes) (fun _ _ _ hb ⟨a,c,h1,h,h2⟩=>⟨a,c,h1,h.ext zFR hb,h2.ext zAN hb⟩) ?_ ?_
 ·intro vs xq hd
  (try simp [hq_] at hd)
  simp only [pf_];go_simp;obtain ⟨⟨u,e5,h5⟩,h9⟩:=hd;obtain ⟨ay,py,rfl,_⟩:=h5.cap;obtain ⟨az',pz,qz,_⟩:=h9.cap;rw [qz] at h9;go_simp;first | exact br_ | exact ⟨br_,h5,h9⟩ | exact ⟨br_,_,_,⟨rfl,rfl⟩,h5,h9⟩ | exact ⟨br_,_,_,rfl,h5,h9⟩
 refine zQ rfl (fun vs xq hd=>?_);simp [zW,zAI,List.range,List.range.loop] at hd;simp only [pf_];obtain ⟨_,_,_,_,_,_,_,_,_,_,ua,uc,e10,sa,sc⟩:=hd;generalize vs 0=u0 at *;generalize vs 1=u1 at *;generalize vs 2=u2 at *;generalize vs 3=u3 at *;generalize vs 4=u4 at *;generalize vs 5=u5 at *;generalize vs 6=u6 at *;generalize vs 7=u7 at *;generalize vs 8=u8 at *;generalize vs 9=u9 at *;generalize vs 10=u10 at *;subst e10;obtain ⟨a0,p0,rfl,hp0⟩:=sa.cap;obtain ⟨a1,p1,rfl,hp1⟩:=sc.cap;have hbl:=zG w4 xq;have L7x:=L7.out.ext hbl;have c0:=L7x.cell 0 _ rfl;have c1:=L7x.cell 1 _ rfl;have q0:=L7x.frozen 0;have q1:=L7x.frozen 1;have l7:=L7x.lt;go_wp2_with fail;obtain ⟨L7',hgr⟩:=lay_set2 L7x (.slice a0 b.ns.reg.length p0) (.slice a1 b.ns.notes.length p1);have elen:(b.rs++[r]).length=b.rs.length+1:=by simp
 have SRx:=zAC hbl SR.out;have MID:=zE (AddMid.mk (zb:=wB.heap.size) (L:=b.rs++[r]) (sc.same zGM (zDT hgr L7x (by decide))) ((SM.out.ext zN hbl).same zFP (zDT hgr L7x (by decide))) ((SH.out.ext zCU hbl).same zEF (zDT hgr L7x (by decide)))
  (by rw [elen];exact zFA (zDT hgr L7x (by decide)) (Nat.le_refl _) SRx) L7' ((L2.out.ext hbl).kept hgr (by simp;omega)))
 have hbe:=(zA hbe hbl).grown hgr (zA hbe hbl).size (fun k e=>by cases e;omega);have hrow0:∃ cs,Hid (((((w4.later xq).setCell ⟨g7,0,none⟩ (.slice a0 b.ns.reg.length p0)).setCell ⟨g7,1,none⟩ (.slice a1 b.ns.notes.length p1))).ownsRow wB.heap.size 118 5 (.slice a0 b.ns.reg.length p0) b.ns.reg.length cs) /\
   Hid (zJT wB.heap.size w.heap.size 0 (((w4.later xq).setCell ⟨g7,0,none⟩ (.slice a0 b.ns.reg.length p0)).setCell ⟨g7,1,none⟩ (.slice a1 b.ns.notes.length p1)) cs b.ns.reg):=by
  obtain ⟨cs,hown⟩:=sa.2;have hown2:=zFA (zDT hgr L7x (e:=118) (base:=0) (by decide)) (Nat.zero_le _) hown;by_cases hn:0 < b.ns.reg.length
  ·obtain ⟨gI,pI,e,_⟩:=zIQ hown hn
   cases e;refine ⟨cs,zE hown2,zE (zPV (zDT hgr L7x (by decide)) (zDT hgr L7x (by decide)) (fun k hk=>?_) (issRowK_new sa.1 hown))⟩;exact hgr.block k (by omega) (fun e=>by cases e;omega)
  ·refine ⟨cs,zE hown2,zE ⟨hown2.1,fun j hj=>absurd hj (by omega)⟩⟩
 clear L7' hgr hbl L7x c0 c1 q0 q1 l7 L7 L2 SM SH SR SRx sa sc K0 K1 hLo L0;generalize ((w4.later xq).setCell _ _).setCell _ _=w5 at *;go_loopw [53] (fun i wr=>∃ (k:Nat) (cs:List Value),i = .int .i64 k/\k<=b.ns.reg.length/\Hid (Below w.heap.size w wr)/\Hid (wr.ownsRow wB.heap.size 118 5 (.slice a0 b.ns.reg.length p0) b.ns.reg.length cs) /\
  Hid (zJT wB.heap.size w.heap.size k wr cs b.ns.reg)/\Hid (AddMid wB.heap.size g4 g7 wr (.slice a0 b.ns.reg.length p0) (.slice a1 b.ns.notes.length p1) (.slice a4 b.ms.length p4) (.slice a7 b.hs.length p7) (.slice (some ⟨g13,0,none⟩) (b.rs.length+1) p13) b (b.rs++[r]))/\wB.heap.size<=wr.heap.size) (fun i _=>b.ns.reg.length - (intOf i).toNat)
 case atStart =>obtain ⟨cs,h1,h2⟩:=hrow0;exact ⟨0,cs,rfl,Nat.zero_le _,zE hbe,h1,h2,MID,by first | omega | (have:=MID.out.box.lt;omega)⟩
 case round =>
  clear hrow0 MID hbe hA4;obtain ⟨k,cs,rfl,hk,hbe,HOWN,HROW,MID,hzr⟩:=hrel;by_cases hlt:k < b.ns.reg.length
  ·obtain ⟨gI,pI,e,hgI⟩:=zIQ HOWN.out (by omega)
   cases e;have c0:=MID.out.box.cell 0 _ rfl;have hki:(k:Int) < b.ns.reg.length:=by omega
   go_wp2;clear c0;have hro:=HROW.out;obtain ⟨hnum,vi,vd,r0,r1,r2,r3,r4,_,hlo⟩:=hro.2 k hlt;obtain ⟨si,sd⟩:=hlo (Nat.le_refl _);obtain ⟨ai,pi,rfl,_⟩:=zD si;obtain ⟨ad,pd,rfl,_⟩:=zD sd;have sm16:=(HTT.out.1.1.2 k hlt).1;have sm8:=(HTT.out.1.1.2 k hlt).2;have SI:=zE si;have SD:=zE sd;have HR4:=zE r4;have HCI:=zE (fun (c:World) (h:c.ownsRow wB.heap.size 118 5 (.slice (some ⟨gI,0,none⟩) b.ns.reg.length p0) b.ns.reg.length cs)=>(show zK c gI (k*5+3) (.slice ai b.ns.reg[k].items.length pi)/\zK c gI (k*5+4) (.slice ad b.ns.reg[k].dims.length pd) from ⟨by have:=h.cells (g:=gI) rfl _ _ r3;rw [zAZ] at this;exact this,by have:=h.cells (g:=gI) rfl _ _ r4;rw [zAZ] at this;exact this⟩));have HFZ:=zE (fun (c:World) (h:c.ownsRow wB.heap.size 118 5 (.slice (some ⟨gI,0,none⟩) b.ns.reg.length p0) b.ns.reg.length cs)=>zPR h);have hgn:w.heap.size < gI:=by omega
   clear hro r0 r1 r2 r3 r4 hlo si sd;refine zBU 17 14 [] (fun a c=>∀ e,e≠118->zBZ 0 e a c) (fun c=>wr.grownBy c (some gI)) (fun _ _ hb h=>zCG hb h) (zBH _ _ _ rfl rfl rfl rfl)
    (fun c=>Below wr.heap.size wr c) (fun _ _ hb h=>zA h hb) ⟨rfl,rfl,rfl,Nat.le_refl _,fun _ _=>rfl⟩ (by kernel_rfl) (by kernel_rfl) ?_
   simp only [tk_];apply gw_ (by rfl)
   ·intro vs w2 hw hd
    (try simp [hq_] at hd)
    simp only [pf_];go_simp;exact ⟨br_,rfl⟩
   apply gw_ (by rfl)
   ·intro vs w2 hw hd
    (try simp [hq_] at hd)
    simp only [pf_];go_simp;exact ⟨br_,rfl⟩
   apply gw_ (by rfl)
   ·intro vs w2 hw hd
    (try simp [hq_] at hd)
    simp only [pf_];go_simp;exact ⟨br_,rfl⟩
   apply gw_ (by rfl)
   ·intro vs w2 hw hd
    (try simp [hq_] at hd)
    simp only [pf_];go_simp;exact ⟨br_,rfl⟩
   apply gw_ (by rfl)
   ·intro vs w2 hw hd
    (try simp [hq_] at hd)
    simp only [pf_];go_simp;exact ⟨br_,rfl⟩
   refine zEC (by rfl) (by kernel_rfl) ?_;apply Exists.intro;refine ⟨fun vs w2 hw hi hd=>?_,?_⟩
   ·(try simp [hq_] at hd)
    have q3:=(HCI.out _ (zAC hi HOWN.out)).1;unfold zK at q3;simp only [pf_];go_simp;exact ⟨br_,rfl⟩
   refine zCC (fun v w'=>Sl (Fr wB.heap.size 97 zBV) 2 w' v b.ns.reg[k].items) (fun _ _ _ hb h=>zJ (zFG zAX) hb h) (by rfl) (.inr (.inr (fun _ _ _ hT h=>zCH zDZ ((hT _ (by decide)).mono (Nat.zero_le _)) h))) ?_ ?_
   ·intro vs w2 hw hd
    (try simp [hq_] at hd)
    simp only [pf_];go_simp;refine (clone_item _ _ b.ns.reg[k].items (sl_unlo (sl_lo zDZ SI.out (fun j hj=>hw.block j (by omega) (fun e=>by cases e;omega)))) (by omega)).mono ?_;rintro e c2 ⟨u,rfl,hnew,hb⟩;exact ⟨_,rfl,hb,(hnew.weak (Nat.le_trans hzr hw.size)).fr⟩
   apply gw_ (by rfl)
   ·intro vs w2 hw hd
    (try simp [hq_] at hd)
    simp only [pf_];go_simp;exact ⟨br_,rfl⟩
   apply gw_ (by rfl)
   ·intro vs w2 hw hd
    (try simp [hq_] at hd)
    simp only [pf_];go_simp;exact ⟨br_,rfl⟩
   apply gw_ (by rfl)
   ·intro vs w2 hw hd
    (try simp [hq_] at hd)
    simp only [pf_];go_simp;exact ⟨br_,rfl⟩
   refine zEC (by rfl) (by kernel_rfl) ?_;apply Exists.intro;refine ⟨fun vs w2 hw hi hd=>?_,?_⟩
   ·(try simp [hq_] at hd)
    have q4:=(HCI.out _ (zAC hi HOWN.out)).2;unfold zK at q4;simp only [pf_];go_simp;exact ⟨br_,rfl⟩
   refine zCC (fun v w'=>Sl (Fr wB.heap.size 167 zGJ) 3 w' v b.ns.reg[k].dims) (fun _ _ _ hb h=>zJ (zFG zBS) hb h) (by rfl) (.inr (.inr (fun _ _ _ hT h=>zCH zHA ((hT _ (by decide)).mono (Nat.zero_le _)) h))) ?_ ?_
   ·intro vs w2 hw hd
    (try simp [hq_] at hd)
    simp only [pf_];go_simp;refine (clone_dim _ _ b.ns.reg[k].dims (sl_unlo (sl_lo zHA SD.out (fun j hj=>hw.block j (by omega) (fun e=>by cases e;omega)))) (by omega)).mono ?_;rintro e c2 ⟨u,rfl,hnew,hb⟩;exact ⟨_,rfl,hb,(hnew.weak (Nat.le_trans hzr hw.size)).fr⟩
   apply gw_ (by rfl)
   ·intro vs w2 hw hd
    (try simp [hq_] at hd)
    simp only [pf_];go_simp;exact ⟨br_,rfl⟩
   apply gw_ (by rfl)
   ·intro vs w2 hw hd
    (try simp [hq_] at hd)
    simp only [pf_];go_simp;exact ⟨br_,rfl⟩
   refine zFD (fun _ w'=>∃ u,Sl (Fr wB.heap.size 97 zBV) 2 w' u b.ns.reg[k].items/\w'.ownsRow wB.heap.size 118 5 (.slice (some ⟨gI,0,none⟩) b.ns.reg.length p0) b.ns.reg.length (cs.set (k*5+3) u)) (fun _ _ _ hb ⟨u,h1,h2⟩=>⟨u,zJ (zFG zAX) hb h1,zAC hb h2⟩) (by rfl) ?_ ?_
   ·intro vs w2 hw hi hd
    (try simp [hq_] at hd)
    simp only [pf_];obtain ⟨e13,s6,_⟩:=hd;have hh:=zAC hi HOWN.out;have q3:=(HCI.out _ hh).1;have z3:=HFZ.out _ hh (k*5+3);obtain ⟨a6,p6,q6,_⟩:=zD s6;obtain ⟨hs1,hs2⟩:=hh.stored (k*5+3) (.slice a6 b.ns.reg[k].items.length p6);have hfin:wr.grownBy (w2.setCell ⟨gI,k*5+3,none⟩ (.slice a6 b.ns.reg[k].items.length p6)) (some gI)/\(∀ e,e≠118->zBZ 0 e w2 (w2.setCell ⟨gI,k*5+3,none⟩ (.slice a6 b.ns.reg[k].items.length p6))) /\
      ∃ u,Sl (Fr wB.heap.size 97 zBV) 2 (w2.setCell ⟨gI,k*5+3,none⟩ (.slice a6 b.ns.reg[k].items.length p6)) u b.ns.reg[k].items/\(w2.setCell ⟨gI,k*5+3,none⟩ (.slice a6 b.ns.reg[k].items.length p6)).ownsRow wB.heap.size 118 5 (.slice (some ⟨gI,0,none⟩) b.ns.reg.length p0) b.ns.reg.length (cs.set (k*5+3) u) :=
     ⟨zAG hw hs2,fun e hne=>zEJ hs2 hh hne,_,zCH zDZ (zEJ hs2 hh (by decide)) (by rw [<- q6];exact s6),hs1⟩
    have HFIN:=zE hfin;have lI:=zAD q3;clear hfin hs1 hs2 hh s6;unfold zK at q3;unfold Oper.wild;go_simp;exact HFIN.out
   apply gw_ (by rfl)
   ·intro vs w2 hw hd
    (try simp [hq_] at hd)
    simp only [pf_];go_simp;exact ⟨br_,rfl⟩
   apply gw_ (by rfl)
   ·intro vs w2 hw hd
    (try simp [hq_] at hd)
    simp only [pf_];go_simp;exact ⟨br_,rfl⟩
   refine zEU rfl (fun vs w6 hw hd=>?_);simp [zW,zAI,List.range,List.range.loop,List.filter_cons,List.filter_nil] at hd;simp only [pf_];obtain ⟨_,_,_,_,_,_,_,_,_,_,_,s11,_,_,⟨ui,si,hown6⟩,_,e16⟩:=hd;generalize vs 0=u0 at *;generalize vs 1=u1 at *;generalize vs 2=u2 at *;generalize vs 3=u3 at *;generalize vs 4=u4 at *;generalize vs 5=u5 at *;generalize vs 6=u6 at *;generalize vs 7=u7 at *;generalize vs 8=u8 at *;generalize vs 9=u9 at *;generalize vs 10=u10 at *;generalize vs 11=u11 at *;generalize vs 12=u12 at *;generalize vs 13=u13 at *;generalize vs 14=u14 at *;generalize vs 15=u15 at *;generalize vs 16=u16 at *;obtain ⟨a11,p11,rfl,_⟩:=zD s11;subst e16;have c4:zK w6 gI (k*5+4) (.slice ad b.ns.reg[k].dims.length pd):=by have:=hown6.cells (g:=gI) rfl (k*5+4) _ (by rw [List.getElem?_set_ne (by omega)];exact HR4.out);rw [zAZ] at this;exact this
   have z4:=zPR hown6 (k*5+4);have lI:=zAD c4;obtain ⟨hown7,hgr7⟩:=hown6.stored (k*5+4) (.slice a11 b.ns.reg[k].dims.length p11);have hgt:=zAG hw hgr7;have hbe7:=zE (hbe.out.grown hgt hbe.out.size (fun j e=>by cases e;omega));have MID7:=zE (MID.out.same (fun e hne=>zEJ hgt HOWN.out hne));have HROW7:=zE (issRowK_step (zPV (zEJ hgt HOWN.out (by decide)) (zEJ hgt HOWN.out (by decide)) (fun j hj=>hgt.block j (by omega) (fun e=>by cases e;omega)) HROW.out) hlt _ _ (zCH zDZ (zEJ hgr7 hown6 (by decide)) si) (zCH zHA (zEJ hgr7 hown6 (by decide)) s11));have hzr7:=Nat.le_trans hzr hgt.size;have HOWN7:=zE hown7;unfold zK at c4;clear hgr7 hgt si s11 hown6 hown7 hw HOWN HROW MID SI SD HCI HFZ HR4 hbe;go_wp2;clear c4 z4 lI;generalize w6.setCell _ _=w7 at *;go_roundw
   ·exact ⟨k+1,_,by go_num,by omega,hbe7,HOWN7,HROW7,MID7,hzr7⟩
   ·simp [intOf];omega
  ·have hkn:k=b.ns.reg.length:=by omega
   subst hkn;have hki:¬ ((b.ns.reg.length:Int) < b.ns.reg.length):=by omega
   have c0:=MID.out.box.cell 5 _ rfl;have hrise:=ok_rise (code_zero K0.out).2;have hor:=MID.out.rs;rw [elen] at hor;go_wp2_with (go_at_call 99;refine (sortStable _ wB.heap.size g13 p13 b.rs r (by omega) hor hrise).mono ?_);rintro e w7 ⟨⟨v,rfl⟩,hown7,hgr7⟩;have hli:(insS b.rs r).length=b.rs.length+1:=(zNC b.rs r).length_eq;have hg13:=hor.lt g13 rfl;have hbe7:=hbe.out.grown hgr7 hbe.out.size (fun j e=>by cases e;omega);have MID7:=MID.out.put (L':=insS b.rs r) (fun e hne=>zEJ hgr7 hor hne) rfl (by rw [hli];exact hown7);have hownI:=zFA (zEJ hgr7 hor (by decide)) (Nat.zero_le _) HOWN.out;have hrowI:=issRow_same (zEJ hgr7 hor (by decide)) (zEJ hgr7 hor (by decide)) (issRowK_row HROW.out (Nat.le_refl _));have hnum:∀ x∈insS b.rs r,RNum x:=fun x hx=>by
    rcases List.mem_cons.1 ((zNC b.rs r).mem_iff.1 hx) with h | h
    ·rw [h];exact hr
    ·exact rep_num H0.out.at_.rs x h
   have BN:=zE (MID7.built hrowI hownI hOf hnum);have BA:=zE (MID7.arg hownI BN.out (H0.out.notes.reg.looks.ext hbe7) (H0.out.looks.ext hbe7));have LB:=zE MID7.box;have LR:=zE MID7.res;clear c0 hor hown7 hgr7 hbe hownI hrowI MID7 MID HOWN HROW hnum;have c0:=LB.out.cell 0 _ rfl;have c1:=LB.out.cell 1 _ rfl;have c2:=LB.out.cell 2 _ rfl;have c3:=LB.out.cell 3 _ rfl;have c4:=LB.out.cell 4 _ rfl;have c5:=LB.out.cell 5 _ rfl;go_wp2_with fail;clear c0 c1 c2 c3 c4 c5;refine (zET _ _ _ _ _ _ { b with rs:=insS b.rs r } BA.out).mono ?_;rintro e w8 ⟨rfl,hb8⟩;have hbe8:=zA hbe7 hb8;have hnz:=(code_zero K0.out).1;have LR8:=LR.out.ext hb8;have r0:=LR8.cell 0 _ rfl;have r1:=LR8.cell 1 _ rfl;have r2:=LR8.cell 2 _ rfl;have r3:=LR8.cell 3 _ rfl;have r4:=LR8.cell 4 _ rfl;have r5:=LR8.cell 5 _ rfl;have q0:=LR8.frozen 0;have q1:=LR8.frozen 1;have q2:=LR8.frozen 2;have q3:=LR8.frozen 3;have q4:=LR8.frozen 4;have q5:=LR8.frozen 5;have lr:=LR8.lt;by_cases y1:zCA { b with rs:=insS b.rs r }
   ·have HA:=zE (addCode_ok K0.out K1.out ((ins_ok b r).1 y1))
    have e1:=code_ok (b:={ b with rs:=insS b.rs r }) hnz y1;have ebb : { b with rs:=insS b.rs r } = addB b r:=by unfold addB;rw [ins_eq b r y1]
    have BN8:=zE (BN.out.ext hb8);rw [ebb] at BN8;rw [e1];have LB8:=LB.out.ext hb8;have c0:=LB8.cell 0 _ rfl;have c1:=LB8.cell 1 _ rfl;have c2:=LB8.cell 2 _ rfl;have c3:=LB8.cell 3 _ rfl;have c4:=LB8.cell 4 _ rfl;have c5:=LB8.cell 5 _ rfl;have CK:Hid (Capd _ b.ns.reg.length/\Capd _ b.ns.notes.length/\Capd _ b.hs.length):=⟨BA.out.notes.reg.cap,BA.out.notes.cap,BA.out.hcap⟩;clear y1 e1 hb8 BN BA LB LR LR8 LB8 ebb;go_wp2;refine bodyPost_ret (v:=.tuple #[.agg #[.slice a0 b.ns.reg.length p0,.slice a1 b.ns.notes.length p1,.int .i64 b.of,.slice a4 b.ms.length p4,.slice a7 b.hs.length p7,.slice (some ⟨g13,0,none⟩) (b.rs.length+1) p13],.int .i64 0]) ?_ rfl ⟨?_,.inr ⟨HA.out,_,_,_,_,_,rfl,?_,CK.out⟩⟩
    ·simp [results,results44,go_sem,r0,r1,r2,r3,r4,r5]
    ·repeat (refine zI (by omega) ?_)
     exact hbe8
    ·refine BuiltN.weak (base:=wB.heap.size) (by omega) ?_
     repeat (refine BuiltN.set (by omega) ?_)
     exact BN8.out
   ·have HA:=zE (addCode_no K0.out K1.out (fun h=>y1 ((ins_ok b r).2 h)))
    have e1:=code_no (b:={ b with rs:=insS b.rs r }) hnz y1;rw [e1];clear y1 e1 hb8 BN BA LB LR LR8;go_wp2;refine bodyPost_ret (v:=.tuple #[.agg #[.slice none 0 0,.slice none 0 0,.int .i64 0,.slice none 0 0,.slice none 0 0,.slice none 0 0],.int .i64 81]) ?_ rfl ⟨?_,.inl ⟨by rw [HA.out];decide,by rw [HA.out]⟩⟩
    ·simp [results,results44,go_sem,r0,r1,r2,r3,r4,r5]
    ·repeat (refine zI (by omega) ?_)
     exact hbe8
theorem add_built (w:World) (vr vn vm vh vs:Value) (b:Built) (r:Report) (h:BuiltArg w vr vn vm vh vs b) (hT:Tiny b) (hr:RNum r) :
  Calls prog 44 #[.agg #[vr,vn,.int .i64 b.of,vm,vh,vs],.agg #[.int .i64 r.num,.int .i64 r.m,.int .i64 r.d,.int .i64 r.l,.int .u8 r.k]] w (RetAdd b r w) :=
 (add_builtK w vr vn vm vh vs b r h hT hr).mono fun _ _ h=>⟨h.1,h.2.imp id fun ⟨h0,vr,vn,vm,vh,vs,he,hN,_⟩=>⟨h0,vr,vn,vm,vh,vs,he,hN⟩⟩
end
end Go.Proofs.YtipaopbmklbmnaaGreatDoor
