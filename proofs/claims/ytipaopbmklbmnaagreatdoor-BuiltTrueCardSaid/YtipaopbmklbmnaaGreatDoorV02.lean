/- Lemmas. -/
import Derived.Deep.DeepCutAuto
import Derived.Deep.CutBlock
import Derived.Test.YtipaopbmklbmnaaGreatDoorT49
import Derived.Test.YtipaopbmklbmnaaGreatDoorV01
set_option linter.all false
set_option maxRecDepth 100000
set_option maxHeartbeats 0
namespace Go.Proofs.YtipaopbmklbmnaaGreatDoor
section
open Tryz
open Go.RowKit Go.Shelf
attribute [local go_sem] zAE Oper.grows Oper.growUpon readF lastD
attribute [local simp] Oper.waitsOn Region.binds List.filter_cons List.filter_nil zAI zW
def RetT (w:World) (e:Ending) (w':World) : Prop:=e = .returned (.bool true)/\Below w.heap.size w w'
theorem arg_rs {w:World} {vr vn vm vh vs vz:Value} {b:Built} {rs:List Report} (h:BuiltArg w vr vn vm vh vs { b with rs:=[] }) (hs:Sl zAT 5 w vz rs) : BuiltArg w vr vn vm vh vz { b with rs:=rs } :=
 ⟨h.notes,⟨h.at_.reg,h.at_.notes,h.at_.ms,h.at_.hs,hs,h.at_.of⟩,h.hcap,h.looks⟩
structure CntTo (b:Built) (k:Nat) (C:List Int) : Prop where
 len:C.length=k
 has:∀ j,j < k->(h:j < b.hs.length)->b.hs[j].lo<=C.getD j 0/\C.getD j 0<=b.hs[j].hi
theorem CntTo.put {b:Built} {k:Nat} {C:List Int} (h:CntTo b k C) (hk:k < b.hs.length) {v:Int} (h1:b.hs[k].lo<=v) (h2:v<=b.hs[k].hi) : CntTo b (k+1) (C++[v]):=by
 refine ⟨by rw [List.length_append,h.len];rfl,fun j hj hj'=>?_⟩;rw [List.getD_eq_getElem?_getD];by_cases e:j < k
 ·rw [List.getElem?_append_left (by rw [h.len];exact e),<- List.getD_eq_getElem?_getD];exact h.has j e hj'
 ·obtain rfl:j=k:=by omega
  rw [List.getElem?_append_right (by rw [h.len];exact Nat.le_refl _),h.len,Nat.sub_self];exact ⟨h1,h2⟩
theorem CntTo.all {b:Built} {C:List Int} (h:CntTo b b.hs.length C) : CntAt b C:=⟨h.len,fun k hk=>h.has k hk hk⟩
theorem CntAt.i64 {b:Built} (hv:zF b=0) {C:List Int} (h:CntAt b C) : ∀ c∈C,I64 c:=fun c hc=>by
 obtain ⟨j,hj,rfl⟩:=List.getElem_of_mem hc;have hj':j < b.hs.length:=by rw [<- h.len];exact hj
 have h1:=h.has j hj';have h2:=zGO hv hj';rw [List.getD_eq_getElem?_getD,List.getElem?_eq_getElem hj] at h1;simp only [Option.getD_some] at h1;unfold I64;omega
theorem lay_one {w:World} {g:Nat} {v:Value} {t:TypeId} (h:Lay w g #[v] t) : ∀ j u,[v][j]? = some u->w.cell? ((⟨g,0,none⟩ : Addr).add j)=some u:=fun j u hj=>by
 cases j with
 | zero =>
   have e:v=u:=by simpa using hj
   subst e;exact h.cell 0 _ rfl
 | succ j=>simp at hj
theorem rep_num_ok {b:Built} (hv:zF b=0) {r:Report} (h:zCE b.ns.reg b.ms r) : RepNum r:=by
 obtain ⟨h1,h2,h3,x,hx,_⟩:=h;obtain ⟨k,hk,rfl,e1,e2⟩:=find_at hx;obtain ⟨⟨a1,a2,_⟩,_⟩:=((zAW (zBJ (zS hv).1).1).2.1 k hk).1 hk;have h4:=valid_ms hv h3;unfold In at *;unfold RepNum I64 U8;omega
theorem trues_sl {b:Built} (hv:zF b=0) {Z C:List Int} {n:Nat} {L:List Report} (h:Trues b Z C n L) {w:World} {base:Nat} {v:Value} (ho:w.ownsRow base 49 5 v L.length (L.flatMap zOG)) : Sl zAT 5 w v L :=
 rep_sl ho fun x hx=>rep_num_ok hv (h.ok x hx).1
def IsP (R:List Issue) (f:Bool) (v:Value) (_:World) : Prop:=∃ p:Int×Int,(f=true->p∈zCT R)/\v = .tuple #[.agg #[.int .i64 p.1,.int .i64 p.2],.bool f]
def IsA (R:List Issue) (f:Bool) (v:Value) (_:World) : Prop:=∃ p:Int×Int,(f=true->p∈zCT R)/\v = .agg #[.int .i64 p.1,.int .i64 p.2]
theorem issue_p {R:List Issue} {f:Bool} (hf:f=true↔zCT R≠[]) {w w':World} {e:Ending} (h:RetIssue R w e w') : ∃ v,e = .returned v/\Below w.heap.size w w'/\IsP R f v w':=by
 obtain ⟨hb,⟨h0,rfl⟩ | ⟨p,hp,rfl⟩⟩:=h
 ·have e:f=false:=by cases f <;> simp_all
  subst e;exact ⟨_,rfl,hb,(0,0),fun h=>(by cases h),rfl⟩
 ·have e:f=true:=hf.2 (List.ne_nil_of_mem hp);subst e;exact ⟨_,rfl,hb,p,fun _=>hp,rfl⟩
structure RepAt (g:Nat) (w w6 wr:World) (s1 s2 s3 s4 s5 vz:Value) (b:Built) (Z C:List Int) (n:Nat) (L:List Report) : Prop where
 acc:WoAt g w wr s1 s2 s3 s4 s5 vz 32 L
 keep:zFL [3] w6 wr
 yes:Trues b Z C n L
 le:n<=6
theorem RepAt.ext {g:Nat} {w w6 wr wr':World} {s1 s2 s3 s4 s5 vz:Value} {b:Built} {Z C:List Int} {n:Nat} {L:List Report} (h:RepAt g w w6 wr s1 s2 s3 s4 s5 vz b Z C n L) (hb:Below wr.heap.size wr wr') : RepAt g w w6 wr' s1 s2 s3 s4 s5 vz b Z C n L :=
 ⟨h.acc.ext hb,h.keep.trans (zBM hb),h.yes,h.le⟩
theorem RepAt.put {g:Nat} {w w6 wr w':World} {s1 s2 s3 s4 s5 vz v':Value} {b:Built} {Z C:List Int} {n:Nat} {L:List Report} {r:Report} (h:RepAt g w w6 wr s1 s2 s3 s4 s5 vz b Z C n L) (hg:wr.grownBy w' vz.ownBlock)
  (ho:w'.ownsRow (g+1) 49 5 v' (L.length+1) (L.flatMap zOG++zOG r)) (hn:n < 6) (hr:r.num=n+1) (h1:zCE b.ns.reg b.ms r) (h2:HoldsB b Z C r) : RepAt g w w6 (w'.setCell ⟨g,5,none⟩ v') s1 s2 s3 s4 s5 v' b Z C (n+1) (L++[r]):=by
 have L8:=h.acc.box.kept hg (fun e=>by have:=(h.acc.own.lt _ e.symm).1;omega);refine ⟨⟨zI (Nat.le_refl g) (h.acc.below.grown hg (Nat.le_of_lt h.acc.box.lt) (fun r e=>by have:=(h.acc.own.lt r e).1;omega)),lay_set L8 5 _,?_⟩,?_,h.yes.put hr h1 h2,by omega⟩
 ·rw [List.length_append,List.flatMap_append];simpa using own_set ho (by omega)
 ·exact (h.keep.trans (zBX hg h.acc.own (by decide))).trans (keepT_set L8 (by decide))
theorem opens_at {N:List Note} {j:Nat} (hj:j < N.length) (hs:N[j].sg=1) : ∃ h:(zAH N j).length < (zAH N N.length).length,(zAH N N.length)[(zAH N j).length]=N[j].num:=by
 obtain ⟨M,e⟩:=opensTo_pre N (j+1);rw [<- opens_to,zHK N j hj,if_pos hs] at e;have e2:(zAH N N.length)[(zAH N j).length]? = some N[j].num:=by rw [e,List.append_assoc,List.getElem?_append_right (Nat.le_refl _),Nat.sub_self];rfl
 exact List.getElem?_eq_some_iff.1 e2
theorem part_num {b:Built} (hv:zF b=0) {d l:Int} (h:zFO b.ns.reg d l) : d∈nums b.ns.reg:=by
 obtain ⟨x,hx,_⟩:=h;obtain ⟨k,hk,rfl,e1,_⟩:=find_at hx;rw [<- e1];exact zOE _ (valid_ord hv) k hk
theorem law_walk (w:World) (vr vn vm vh vs vl:Value) (b:Built) (x:Int) (by_:List Int) (hB:BuiltAt w vr vn vm vh vs b) (kr:Capd vr b.ns.reg.length) (kn:Capd vn b.ns.notes.length) (kh:Capd vh b.hs.length) (hT:Tables w) (hx:U8 x) (hl:Sl AtU32 1 w vl by_) :
  Calls prog 3 #[.agg #[vr,vn,.int .i64 b.of,vm,vh,vs],.int .u8 x,vl] w (RetT w):=by
 obtain ⟨i0,hif,iz0,iz1,iz2⟩:=info_parts zFY;obtain ⟨j0,hjf,jz0,jz1,jz2⟩:=info_parts zOO;obtain ⟨al,cl,rfl,_⟩:=zD hl;have S:=(Sta.of (((tables_ever hT).and (fun _ k=>zJ stays_u32 k hl)).and (fun _ k=>hB.ext k))).new #[vr,vn,.int .i64 b.of,vm,vh,vs] 32;have HCI:=zE (fun i=>chL_in hl i);clear hB hT hl kr kn kh;go_enter func3,ntmps3;go_wp2_with fail;generalize hg0:w.heap.size=g0 at *;generalize w.alloc _=w2 at *;refine (alive_law _ S.now.2.2).mono ?_;rintro e w2 ⟨rfl,h⟩;replace S:=S.ext h;clear h;obtain ⟨l0,⟨q0,q1,q2,q3,q4,q5⟩,-⟩:=(S.get 0 rfl).q6;go_wp2_with fail;clear q0 q1 q2 q3 q4 q5 l0;refine (ready_law _ _ _ _ _ _ b S.now.1).mono ?_;intro e w2 hr;rcases hr.both with ⟨⟨hT,hv⟩,rfl,h⟩ | ⟨_,rfl,h⟩
 case inr =>replace S:=S.ext h;clear hr h;go_wp2;go_ret;exact ⟨rfl,S.held.below⟩
 replace S:=S.ext h;have HV:=zE (And.intro hT hv);have HNO:=zE (zBJ (zS hv).1).2;clear hr h hT hv;obtain ⟨l0,⟨q0,q1,q2,q3,q4,q5⟩,-⟩:=(S.get 0 rfl).q6;go_wp2_with fail;clear q0 q1 q2 q3 q4 q5 l0;refine (twin08 _ _ _ _ _ _ b S.now.1 HV.out.1).mono ?_;rintro e w3 ⟨ur,un,um,uh,us,rfl,hN,-,h,k1,k2,k3⟩;replace S:=S.ext h;have hX:BuiltArg w3 ur un um uh (.slice none 0 0) { b with rs:=[] }:=⟨⟨⟨hN.at.reg,k1,S.now.2.2.1⟩,hN.at.notes,k2⟩,⟨hN.at.reg,hN.at.notes,hN.at.ms,hN.at.hs,zIR _ _ _ _ _,hN.at.of⟩,k3,S.now.2.2.2.1⟩;replace S:=S.and (fun _ k=>hX.ext k);obtain ⟨ar,cr,rfl,_⟩:=zD hX.at_.reg;obtain ⟨an,cn,rfl,_⟩:=zD hX.at_.notes;obtain ⟨am,cm,rfl,_⟩:=zD hX.at_.ms;obtain ⟨ah,ch,rfl,_⟩:=zD hX.at_.hs;obtain ⟨a5,c5,rfl,_⟩:=zD hN.rs;clear hN hX h k1 k2 k3;simp only at *;obtain ⟨l0,⟨q0,q1,q2,q3,q4,q5⟩,-⟩:=(S.get 0 rfl).q6;go_wp2_with fail;clear q0 q1 q2 q3 q4 q5 l0;have HW:Hid (WoAt w3.heap.size w3 (w3.alloc (.cells #[.slice ar b.ns.reg.length cr,.slice an b.ns.notes.length cn,.int .i64 b.of,.slice am b.ms.length cm,.slice ah b.hs.length ch,.slice none 0 0] 32)) (.slice ar b.ns.reg.length cr) (.slice an b.ns.notes.length cn) (.int .i64 b.of) (.slice am b.ms.length cm) (.slice ah b.hs.length ch) (.slice none 0 0) 32 []) :=
  ⟨zB _ _,Lay.new _ _ _,World.ownsRow_nil _ _ _ _⟩
 have HS:=zE S;replace S:=S.ext HW.out.below;generalize hgx:w3.heap.size=gx at *;generalize w3.alloc _=w4 at *;refine (truths03 _ _ _ b.ns.notes S.now.2.1.notes (by have:=HNO.out.1;omega) (notes_distinct HNO.out) (fun L h=>openIx_len5 HNO.out h)).mono ?_;rintro e w5 ⟨u,O,rfl,hO,hOm,hO5,⟨base,cs,hown,hri⟩,h⟩;have HW5:=zE (HW.out.ext h);have HT:Hid (∀ S∈refT O,IsT (zBO b.ns.notes) S):=fun S hS=>(isT_congr hOm S).1 ((refT_mem hO S).1 hS)
 have hlen:0 < (refT O).length:=by rw [refT_len];exact Nat.pow_pos (by decide)
 clear S h hO hOm hO5 HW;obtain ⟨gt,ct,rfl,_⟩:=zIQ hown hlen;have hk:x.toNat % (refT O).length < (refT O).length:=Nat.mod_lt _ hlen;have hke:=tmod_is (n:=x) hx.1 hlen;obtain ⟨vz,hcz,hz⟩:=rowInts_pick hri hk;have c0:=hown.cells (g:=gt) rfl _ _ hcz;rw [zAZ] at c0;have hT:=HT.out _ (List.getElem_mem hk);generalize (refT O)[x.toNat % (refT O).length]=Z at *;generalize x.toNat % (refT O).length=i at *;obtain ⟨az,cz,rfl,_⟩:=zD hz.now;have HZ:=zE (And.intro hT hz);have hil:(i:Int) < (refT O).length:=by omega
 have hx1:=hx.1;have hx2:=hx.2;obtain ⟨w1,w2'⟩:=wrap2 x (by omega);clear HT hown hri hcz hz hT hx hk;generalize (refT O).length=nT at *;obtain ⟨lx,⟨q0,q1,q2,q3,q4,q5⟩,-⟩:=HW5.out.box.q6;go_wp2;clear c0 hke hil hlen hx1 hx2 w1 w2' q0 q1 q2 q3 q4 q5 lx;have HS5:=zE (HS.out.ext (by rw [hgx];exact HW5.out.below));go_loopw [11,78] (fun vc q wr=>∃ (k:Nat) (C:List Int),q = .int .i64 k/\k<=b.hs.length/\Hid (CntTo b k C)/\Hid (Below w5.heap.size w5 wr)/\Hid (wr.ownsRow w5.heap.size 3 1 vc C.length (C.map (Value.int .i64)))) (fun _ q _=>b.hs.length - (intOf q).toNat)
 case atStart=>exact ⟨0,[],rfl,by omega,⟨rfl,fun j h=>absurd h (by omega)⟩,br_,World.ownsRow_nil _ _ _ _⟩
 case round =>
  obtain ⟨k,C,rfl,hk,HC,HB,HO⟩:=hrel;have h4:b.hs.length<=4:=(zS HV.out.2).2.2.2.1;have hCl:=HC.out.len;by_cases hlt:k < b.hs.length
  case pos =>
   have SP:=HS5.out.ext HB.out;obtain ⟨bh,oh,rfl,⟨c0,c1,c2,c3⟩,_⟩:=(zY SP.now.1.at_.hs).2 k hlt;have hvh:=zGO HV.out.2 hlt;have HP:=zE (fun v h1 h2=>HC.out.put hlt (v:=v) h1 h2);generalize b.hs[k]=h at *;unfold zK at c0 c1 c2 c3;have L1:=(HeldB.nil wr).new #[.int .i64 h.d,.int .i64 h.l,.int .i64 h.lo,.int .i64 h.hi] 42;have HL1:=zE (L1.get 0 rfl);have HC1:=zE (zJ stays_u32 L1.below SP.now.2.2.1);have HO1:=zE (zAC L1.below HO.out);have HB1:=zE (zA HB.out L1.below);clear SP L1 HC HO HB;go_upto_region 12 with fail
   clear c0 c1 c2 c3;generalize wr.heap.size=g6 at *;generalize wr.alloc _=w6 at *;have hzc:=HCI.out k;have HCALL:=zE (fun xq=>chq_ HC1.out k (by omega) xq);have k2:=zH (show zK w6 g6 2 _ from HL1.out.cell 2 _ rfl);have k3:=zH (show zK w6 g6 3 _ from HL1.out.cell 3 _ rfl);obtain ⟨hd,hle,hlo,hhi⟩:=h;simp only at *;generalize chL by_ k=z at *;have hr1:=Int.tmod_lt_of_pos z (show (0:Int) < hhi - hlo+1 by omega);have hr2:=Int.tmod_nonneg (hhi - hlo+1) hzc.1;have hrr:=HP.out (hlo+z.tmod (hhi - hlo+1)) (by omega) (by omega);have hHR:=zE hrr;obtain ⟨v1,v3⟩:=wrap2 (hhi - hlo) (by omega);obtain ⟨v2,v4⟩:=wrap2 (hhi - hlo+1) (by omega);have v0:¬ (hhi - hlo+1=0):=by omega
   have v0':((hhi - hlo+1) == 0)=false:=by simpa using v0
   generalize hrg:z.tmod (hhi - hlo+1)=r at *;obtain ⟨v5,v6⟩:=wrap2 r (by omega);obtain ⟨v7,v8⟩:=wrap2 (hlo+r) (by omega);clear HP HL1 HC1 hrr;as_aux_lemma =>
   refine zM 18 (by kernel_rfl) (by kernel_rfl) ?_;simp only [List.take_succ_cons,List.take_zero];iterate 6 (apply fx_ 450 (by kernel_rfl) rfl;focus (intro rq vs xq hr hc hf hd;(try simp at hd);go_simp;exact ⟨br_,rfl⟩))
   apply fx_ 450 (by kernel_rfl) rfl;focus (intro rq vs xq hr hc hf hd;(try simp at hd);go_simp;refine (HCALL.out xq).mono ?_;rintro e w9 ⟨rfl,hb9⟩;exact ⟨rfl,hb9⟩)
   iterate 10 (apply fx_ 450 (by kernel_rfl) rfl;focus (intro rq vs xq hr hc hf hd;(try simp at hd);go_simp;exact ⟨br_,rfl⟩))
   refine fs_ 450 (by kernel_rfl) rfl (zPP 1 #[.int .i64 (hlo+r)] 3) zPP.stays ?_ ?_
   ·intro rq vs xq hr hc hf hd
    (try simp at hd)
    go_simp;exact ⟨zB _ _,_,rfl,Lay.new _ _ _⟩
   refine zQ (by simp only [List.length_append,List.length_cons,List.length_nil]) (fun vs xq hd=>?_);simp [zW,zAI,List.range,List.range.loop] at hd;simp only [zAB,Act.put,List.setIfInBounds_toArray,List.set_cons_succ,List.set_cons_zero,List.drop_succ_cons,List.drop_zero];obtain ⟨e0,e1,e2,e3,e4,e5,e6,e7,e8,e9,e10,e11,e12,e13,e14,e15,e16,gb,e17,hLb⟩:=hd;simp only [Nat.zero_add,Nat.reduceAdd] at e0 e1 e2 e3 e4 e5 e6 e7 e8 e9 e10 e11 e12 e13 e14 e15 e16 e17 ⊢;simp only [e0,e1,e2,e3,e4,e5,e6,e7,e8,e9,e10,e11,e12,e13,e14,e15,e16,e17];have HO2:=zE (zAC (zG w6 xq) HO1.out);have HB2:=zE (zA HB1.out (zG w6 xq));have HL2:=zE (lay_one hLb);clear e0 e1 e2 e3 e4 e5 e6 e7 e8 e9 e10 e11 e12 e13 e14 e15 e16 e17 k2 k3 hLb HO1 HB1 HCALL;generalize w6.later xq=w8 at *;as_aux_lemma =>
   go_wp2_with (at_builtin;refine wpList_append_own _ rfl _ _ 28 rfl w5.heap.size 3 i0 (.int .i64 0) 1 8 underlying28 hif iz0 iz1 iz2 rfl (by decide) _ _ _ rfl HO2.out ⟨gb,0,none⟩ 1 1 [.int .i64 (hlo+r)] rfl rfl HL2.out (by simp [Value.oneCell']) (by unfold maxLen;omega) (by omega) HB2.out.size ?_;intro v' w9 hown' hgrow _);have HB3:=zE (HB2.out.grown hgrow HB2.out.size (fun k e=>(HO2.out.lt k e).1));have HO3:=zE hown';clear hown' hgrow HO2 HB2 HL2;go_wp2;exact ⟨⟨k+1,C++[hlo+r],by go_num,by omega,hHR,HB3,by rw [List.length_append,List.map_append];exact HO3⟩,by simp [intOf];omega⟩
  case neg =>
   obtain rfl:k=b.hs.length:=by omega
   have hC:=HC.out.all;have HCT:Hid (CntAt b C/\OnT [3] (fun w=>Sl zAM 1 w u11 C) wr):=⟨hC,fun w' kk=>zBF (zFA (fun g cur _ hc=>kk g cur _ _ (List.mem_singleton.2 rfl) hc) (Nat.le_refl _) HO.out) (CntAt.i64 HV.out.2 hC)⟩;have HZ6:Hid (IsT (zBO b.ns.notes) Z/\OnT [3] (fun w=>Sl zAM 1 w (.slice az Z.length cz) Z) wr):=⟨HZ.out.1,HZ.out.2.ext HB.out⟩;have HW6:=zE (HW5.out.ext HB.out);obtain ⟨ac,cc,rfl,_⟩:=zD HCT.out.2.now;clear HC HO HB hC HZ HS5 HW5 hCl;generalize wr=w6 at *;go_upto_block 2 with fail
   have H0:Hid (RepAt gx w3 w6 w6 (.slice ar b.ns.reg.length cr) (.slice an b.ns.notes.length cn) (.int .i64 b.of) (.slice am b.ms.length cm) (.slice ah b.hs.length ch) (.slice none 0 0) b Z C 0 []):=⟨HW6.out,keepT_refl _ _,Trues.nil _ _ _,by omega⟩;clear HW6;go_cut [] (fun wx=>∃ (n:Nat) (L:List Report) (vz:Value),Hid (RepAt gx w3 w6 wx (.slice ar b.ns.reg.length cr) (.slice an b.ns.notes.length cn) (.int .i64 b.of) (.slice am b.ms.length cm) (.slice ah b.hs.length ch) vz b Z C n L))
   case first =>
    go_wp2_with fail;go_loopw [103] (fun q wr=>∃ (n:Nat) (L:List Report) (vz:Value),q = .int .i64 n/\Hid (RepAt gx w3 w6 wr (.slice ar b.ns.reg.length cr) (.slice an b.ns.notes.length cn) (.int .i64 b.of) (.slice am b.ms.length cm) (.slice ah b.hs.length ch) vz b Z C n L)) (fun q _=>6 - (intOf q).toNat)
    case atStart=>exact ⟨0,[],_,rfl,H0⟩
    case round =>
     obtain ⟨n,L,vz,rfl,HR⟩:=hrel;have hle:=HR.out.le;by_cases hlt:n < 6
     case neg =>
      obtain rfl:n=6:=by omega
      go_wp2;go_meet
      case rel=>exact ⟨_,_,_,HR⟩
     case pos =>
      have SP:=HS.out.ext (by rw [hgx];exact HR.out.acc.below);obtain ⟨f,hf⟩ : ∃ f:Bool,(f=true↔zCT b.ns.reg≠[]):=⟨decide (zCT b.ns.reg≠[]),by simp⟩;have HF:=zE hf;obtain ⟨az2,cz2,rfl⟩:=zDC HR.out.acc.own;obtain ⟨k0,k1,k2,k3,k4,k5⟩:=HR.out.acc.box.l6;have hch:=HCI.out (10+4*n);have HCH:=zE (fun xq=>chq_ SP.now.2.2.1 (10+4*n) (by omega) xq);have h60:=(zAW (zBJ (zS HV.out.2).1).1).1;have HIS:=zE (fun xq=>issue_law (wr.later xq) _ _ _ _ _ { b with rs:=L } (chL by_ (10+4*n)) ((arg_rs (SP.ext (zG wr xq)).now.1 (trues_sl HV.out.2 HR.out.yes (zAC (zG wr xq) HR.out.acc.own))).at_) (by simp only;unfold In at h60;omega) hch.1 hch.2);clear SP hf hch h60;obtain ⟨e1,e3⟩:=wrap2 (4*(n:Int)) (by omega);obtain ⟨e2,e4⟩:=wrap2 (10+4*(n:Int)) (by omega);go_upto_region 17 with fail
      refine wp_region_growD 11 9 (by kernel_rfl) (by kernel_rfl) rfl rfl (fun v=>v = .bool f) ?_;simp only [List.take_succ_cons,List.take_zero];iterate 5 (apply fx_ 450 (by kernel_rfl) rfl;focus (intro rq vs xq hr hc hf hd;(try simp at hd);go_simp;exact ⟨br_,rfl⟩))
      apply fx_ 450 (by kernel_rfl) rfl;focus (intro rq vs xq hr hc hf hd;(try simp at hd);go_simp;refine (HCH.out xq).mono ?_;rintro e w9 ⟨rfl,hb9⟩;exact ⟨rfl,hb9⟩)
      refine fs_ 450 (by kernel_rfl) rfl (IsP b.ns.reg f) (fun v w w' hb h=>h) ?_ ?_
      ·intro rq vs xq hr hc hf hd
       (try simp at hd)
       go_simp;exact (HIS.out xq).mono fun e w9 h=>issue_p HF.out h
      refine fs_ 450 (by kernel_rfl) rfl (IsP b.ns.reg f) (fun v w w' hb h=>h) ?_ ?_
      ·intro rq vs xq hr hc hf hd
       (try simp at hd)
       go_simp;exact br_
      refine fs_ 450 (by kernel_rfl) rfl (IsA b.ns.reg f) (fun v w w' hb h=>h) ?_ ?_
      ·intro rq vs xq hr hc hf hd
       (try simp at hd)
       obtain ⟨p,hp,e⟩:=hd;go_simp;exact ⟨br_,p,hp,rfl⟩
      refine fs_ 450 (by kernel_rfl) rfl (fun v _=>v = .bool f) (fun v w w' hb h=>h) ?_ ?_
      ·intro rq vs xq hr hc hf hd
       (try simp at hd)
       obtain ⟨p,hp,e⟩:=hd;go_simp;exact br_
      refine fs_ 450 (by kernel_rfl) rfl (NewBx wr.heap.size #[.int .i64 0,.int .i64 0] 45) (zFE _ _ _) ?_ ?_
      ·intro rq vs xq hr hc hf hd
       (try simp at hd)
       go_simp;exact ⟨zB _ _,_,rfl,(zG wr xq).size,Lay.new _ _ _⟩
      refine ⟨fun v w h=>h,fun vs w8 w9 hd=>?_,fun vs w8 hb8 hf=>?_⟩
      ·(try simp at hd)
       obtain ⟨p,hp,e⟩:=hd;refine ⟨.bool f,?_,rfl⟩;simp only [zAB,Act.put,List.setIfInBounds_toArray,List.set_cons_succ,List.set_cons_zero];rw [e];go_simp
      ·have h8:=hf 8 (by decide) (by decide)
       have h10:=hf 10 (by decide) (by decide);simp [zAI] at h8 h10;clear hf;obtain ⟨p,hp,e8⟩:=h8;obtain ⟨gb,e10,hgb,hLb⟩:=h10;obtain ⟨lb,⟨q0,q1⟩,-⟩:=hLb.q2;have f0:=hLb.frozen 0;have f1:=hLb.frozen 1;simp only [zAB,Act.put,List.setIfInBounds_toArray,List.set_cons_succ,List.set_cons_zero];rw [e8,e10];go_simp
       (try simp only [List.drop_succ_cons,List.drop_zero])
       have HP:=zE hp;have hbw:=zI (j:=1) (u:=.int .i64 p.2) hgb (zI (j:=0) (u:=.int .i64 p.1) hgb hb8);have HL9:=zE (zCF (zCF hLb 0 (.int .i64 p.1)) 1 (.int .i64 p.2));clear hLb hb8 q0 q1 f0 f1 lb hp e1 e2 e3 e4 k0 k1 k2 k3 k4 k5 HCH HIS;generalize (w8.setCell _ _).setCell _ _=w9 at *;have HL:Hid (Lay w9 gb #[.int .i64 p.1,.int .i64 p.2] 45):=HL9.out;have HR2:=zE (HR.out.ext hbw);clear HL9 HR hbw;obtain ⟨lx,⟨q0,q1,q2,q3,q4,q5⟩,-⟩:=HR2.out.acc.box.q6;cases f
       case false =>
        go_wp2;go_meet
        case rel=>exact ⟨_,_,_,HR2⟩
       case true =>
        have hp:=HP.out rfl;by_cases hm0:b.ms.length=0
        case pos =>
         have hm0':((b.ms.length:Int) == 0)=true:=by simp [hm0]
         have HPP:=zE hp;clear hp HP hm0;go_wp2;go_meet
         case rel=>exact ⟨_,_,_,HR2⟩
        case neg =>
         have hm0':((b.ms.length:Int) == 0)=false:=by simpa using hm0
         have hml:0 < b.ms.length:=Nat.pos_of_ne_zero hm0;have HPP:=zE hp;clear hp HP hm0;go_upto_region 19 with fail
         clear q0 q1 q2 q3 q4 q5 lx;have SP:=HS.out.ext (by rw [hgx];exact HR2.out.acc.below);have hc1:=HCI.out (11+4*n);have hc2:=HCI.out (12+4*n);have HCH1:=zE (fun xq=>chq_ SP.now.2.2.1 (11+4*n) (by omega) xq);have HCH2:=zE (fun xq=>chq_ SP.now.2.2.1 (12+4*n) (by omega) xq);generalize chL by_ (11+4*n)=z1 at *;generalize chL by_ (12+4*n)=z2 at *;have hjl:z1.toNat % b.ms.length < b.ms.length:=Nat.mod_lt _ hml;have hje:=tmod_is (n:=z1) hc1.1 hml;have hk1:=Int.tmod_lt_of_pos z2 (show (0:Int) < 3 by omega);have hk2:=Int.tmod_nonneg (3:Int) hc2.1;obtain ⟨bm,om,rfl,c0,_⟩:=(zY SP.now.1.at_.ms).2 _ hjl;have HMM:=zE (List.getElem_mem hjl);generalize z1.toNat % b.ms.length=jj at *;rw [Nat.mul_one] at c0;have c0:=zH c0;simp only at c0;change Hid (b.ms[jj]∈b.ms) at HMM;generalize b.ms[jj]=mm at *;generalize hkk:z2.tmod 3=kk at *;have k2:=zH (show zK w9 gx 2 _ from HR2.out.acc.box.cell 2 _ rfl);have k3:=zH (show zK w9 gx 3 _ from HR2.out.acc.box.cell 3 _ rfl);have j0:=zH (show zK w9 gb 0 _ from HL.out.cell 0 _ rfl);have j1:=zH (show zK w9 gb 1 _ from HL.out.cell 1 _ rfl);have hjl2:(jj:Int) < b.ms.length:=by omega
         obtain ⟨e1,e3⟩:=wrap2 (4*(n:Int)) (by omega);obtain ⟨e2,e4⟩:=wrap2 (11+4*(n:Int)) (by omega);obtain ⟨e5,e6⟩:=wrap2 (12+4*(n:Int)) (by omega);obtain ⟨e7,e8⟩:=wrap2 (1+kk) (by omega);have e9:IntKind.u8.wrap (1+kk)=1+kk:=by rcases (show kk=0\/kk=1\/kk=2 by omega) with h | h | h <;> rw [h] <;> rfl
         obtain ⟨e10,e11⟩:=wrap2 kk (by omega);obtain ⟨e12,e13⟩:=wrap2 (jj:Int) (by omega);obtain ⟨e14,e15⟩:=wrap2 ((n:Int)+1) (by omega);have hm0n:¬ (b.ms=[]):=fun h=>by rw [h] at hml;cases hml
         clear SP;refine zM 29 (by kernel_rfl) (by kernel_rfl) ?_;simp only [List.append_eq,List.cons_append,List.nil_append,List.take_succ_cons,List.take_zero];iterate 8 (apply fx_ 450 (by kernel_rfl) rfl;focus (intro rq vs xq hr hc hf hd;(try simp at hd);go_simp;exact ⟨br_,rfl⟩))
         apply fx_ 450 (by kernel_rfl) rfl;focus (intro rq vs xq hr hc hf hd;(try simp at hd);go_simp;refine (HCH1.out xq).mono ?_;rintro e w9 ⟨rfl,hb9⟩;exact ⟨rfl,hb9⟩)
         iterate 14 (apply fx_ 450 (by kernel_rfl) rfl;focus (intro rq vs xq hr hc hf hd;(try simp at hd);go_simp;exact ⟨br_,rfl⟩))
         apply fx_ 450 (by kernel_rfl) rfl;focus (intro rq vs xq hr hc hf hd;(try simp at hd);go_simp;refine (HCH2.out xq).mono ?_;rintro e w9 ⟨rfl,hb9⟩;exact ⟨rfl,hb9⟩)
         iterate 3 (apply fx_ 450 (by kernel_rfl) rfl;focus (intro rq vs xq hr hc hf hd;(try simp at hd);go_simp;exact ⟨br_,rfl⟩))
         apply fx_ 450 (by kernel_rfl) rfl;focus (intro rq vs xq hr hc hf hd;(try simp at hd);go_simp;refine (zKV _ _ _ _ _ _).mono ?_;rintro e w9 ⟨rfl,hb9⟩;exact ⟨rfl,hb9⟩)
         refine fs_ 450 (by kernel_rfl) rfl (NewBx w9.heap.size #[.int .i64 0,.int .i64 0,.int .i64 0,.int .i64 0,.int .u8 0] 49) (zFE _ _ _) ?_ ?_
         ·intro rq vs xq hr hc hf hd
          (try simp at hd)
          go_simp;exact ⟨zB _ _,_,rfl,(zG w9 xq).size,Lay.new _ _ _⟩
         refine zQ (by simp only [List.length_append,List.length_cons,List.length_nil]) (fun vs xq hd=>?_);simp [zW,zAI,List.range,List.range.loop] at hd;simp only [zAB,Act.put,List.setIfInBounds_toArray,List.set_cons_succ,List.set_cons_zero,List.drop_succ_cons,List.drop_zero];obtain ⟨g0,g1,g2,g3,g4,g5,g6,g7,g8,g9,g10,g11,g12,g13,g14,g15,g16,g17,g18,g19,g20,g21,g22,g23,g24,g25,g26,g27,gr,g28,hgr,hLr⟩:=hd;simp only [Nat.zero_add,Nat.reduceAdd] at g0 g1 g2 g3 g4 g5 g6 g7 g8 g9 g10 g11 g12 g13 g14 g15 g16 g17 g18 g19 g20 g21 g22 g23 g24 g25 g26 g27 g28 ⊢;simp only [g0,g1,g2,g3,g4,g5,g6,g7,g8,g9,g10,g11,g12,g13,g14,g15,g16,g17,g18,g19,g20,g21,g22,g23,g24,g25,g26,g27,g28];have hb8:=zG w9 xq;have HR3:=zE (HR2.out.ext (zI (j:=4) (u:=.int .u8 (1+kk)) hgr (zI (j:=3) (u:=.int .i64 p.2) hgr (zI (j:=2) (u:=.int .i64 p.1) hgr (zI (j:=1) (u:=.int .i64 mm) hgr (zI (j:=0) (u:=.int .i64 ((n:Int)+1)) hgr hb8))))));clear g0 g1 g2 g3 g4 g5 g6 g7 g8 g9 g10 g11 g12 g13 g14 g15 g16 g17 g18 g19 g20 g21 g22 g23 g24 g25 g26 g27 g28 e1 e2 e3 e4 e5 e6 e7 e8 e9 e10 e11 e12 e13 e14 e15 hm0n hjl2 c0 k2 k3 j0 j1 HCH1 HCH2 HR2 HL;generalize w9.later xq=w8 at *;have HLR:=zE (zCF (zCF (zCF (zCF (zCF hLr 0 (.int .i64 ((n:Int)+1))) 1 (.int .i64 mm)) 2 (.int .i64 p.1)) 3 (.int .i64 p.2)) 4 (.int .u8 (1+kk)));obtain ⟨lr,⟨q0,q1,q2,q3,q4⟩,f0,f1,f2,f3,f4⟩:=hLr.q5;clear hLr hb8;go_step;go_simp;generalize ((((w8.setCell _ _).setCell _ _).setCell _ _).setCell _ _).setCell _ _=wA at *;clear q0 q1 q2 q3 q4 f0 f1 f2 f3 f4 lr;have HLR:Hid (Lay wA gr #[.int .i64 ((n:Int)+1),.int .i64 mm,.int .i64 p.1,.int .i64 p.2,.int .u8 (1+kk)] 49):=HLR.out;obtain ⟨lr,⟨q0,q1,q2,q3,q4⟩,-⟩:=HLR.out.q5;obtain ⟨lx,⟨p0,p1,p2,p3,p4,p5⟩,-⟩:=HR3.out.acc.box.q6;have SP:=HS.out.ext (by rw [hgx];exact HR3.out.acc.below);have HPT:=zE (ref_part (zBJ (zS HV.out.2).1).1 HPP.out);have hkb:In (1+kk) 1 3:=by unfold In;omega
         have HCALL:=zE (holds_law wA _ _ _ _ _ _ _ { b with rs:=L } Z C ⟨(n:Int)+1,mm,p.1,p.2,1+kk⟩ (arg_rs SP.now.1 (trues_sl HV.out.2 HR3.out.yes HR3.out.acc.own)) (HZ6.out.2 _ HR3.out.keep) (HCT.out.2 _ HR3.out.keep) (HR3.out.yes.valid HV.out.2 (by have:=HR3.out.le;omega)) HZ6.out.1 (HCT.out.1.rs L) HMM.out (part_num HV.out.2 HPT.out) hkb);have HRO:Hid (zCE b.ns.reg b.ms ⟨(n:Int)+1,mm,p.1,p.2,1+kk⟩):=⟨⟨by simp only;omega,by simp only;omega⟩,hkb,HMM.out,HPT.out⟩;clear SP hkb;go_wp2_with fail;clear q0 q1 q2 q3 q4 lr p0 p1 p2 p3 p4 p5 lx;refine HCALL.out.mono ?_;rintro e wB ⟨rfl,hb⟩;simp only [holds_rs];have HR4:=zE (HR3.out.ext hb);have HLB:=zE (HLR.out.ext hb);clear HR3 HLR HCALL hb;by_cases hh:HoldsB b Z C ⟨(n:Int)+1,mm,p.1,p.2,1+kk⟩
         case neg =>rw [decide_eq_false hh];clear hh;go_wp2;exact ⟨⟨n+1,L,_,by go_num,zE ⟨HR4.out.acc,HR4.out.keep,HR4.out.yes.skip,by omega⟩⟩,by simp [intOf];omega⟩
         case pos =>rw [decide_eq_true hh];have HHH:=zE hh;clear hh;have hle:=HR4.out.yes.len;obtain ⟨lr,⟨q0,q1,q2,q3,q4⟩,-⟩:=HLB.out.q5;obtain ⟨lx,⟨p0,p1,p2,p3,p4,p5⟩,-⟩:=HR4.out.acc.box.q6;have HR5:=zE (HR4.out.ext (zB wB (.cells #[.int .i64 ((n:Int)+1),.int .i64 mm,.int .i64 p.1,.int .i64 p.2,.int .u8 (1+kk)] 49)));have HCN:=zE (cellsN_new wB [.int .i64 ((n:Int)+1),.int .i64 mm,.int .i64 p.1,.int .i64 p.2,.int .u8 (1+kk)] 49 _ rfl);clear HR4 HLB;go_wp2_with (at_builtin;generalize wB.heap.size=g7 at *;generalize wB.alloc _=w7 at *;refine wpList_append_own _ rfl _ _ 30 rfl (gx+1) 49 j0 _ 5 40 underlying30 hjf jz0 jz1 jz2 rfl (by decide) _ _ _ rfl HR5.out.acc.own ⟨g7,0,none⟩ 1 1 [.int .i64 ((n:Int)+1),.int .i64 mm,.int .i64 p.1,.int .i64 p.2,.int .u8 (1+kk)] rfl rfl HCN.out (by intro u hu;simp at hu;rcases hu with rfl | rfl | rfl | rfl | rfl <;> rfl) (by unfold maxLen;omega) (by omega) (by have:=HR5.out.acc.box.lt;omega) ?_;intro v' wC hown' hgrow _;obtain ⟨av,cv,rfl⟩:=zDC hown';have L8:=HR5.out.acc.box.kept hgrow (fun e=>by have:=(HR5.out.acc.own.lt _ e.symm).1;omega);have m5:=L8.cell 5 _ rfl;have f5:=L8.frozen 5;have l5:=L8.lt);exact ⟨⟨n+1,L++[⟨(n:Int)+1,mm,p.1,p.2,1+kk⟩],_,by go_num,zE (HR5.out.put (r:=⟨(n:Int)+1,mm,p.1,p.2,1+kk⟩) hgrow hown' (by omega) rfl HRO.out HHH.out)⟩,by simp [intOf];omega⟩
   case rest =>
    obtain ⟨n,L,vz,HR⟩:=hcut;have hL10:L.length<=10:=by have:=HR.out.yes.len;have:=HR.out.le;omega
    have hS:=HS.out.ext (by rw [hgx];exact HR.out.acc.below);have hvB:=HR.out.yes.valid HV.out.2 (by have:=HR.out.le;omega);have hSL:=trues_sl HV.out.2 HR.out.yes HR.out.acc.own;have hA:=arg_rs hS.now.1 hSL;have hzw:=HZ6.out.2 _ HR.out.keep;have hcw:=HCT.out.2 _ HR.out.keep;obtain ⟨a5,c5,rfl,_⟩:=zD hSL;have HBL:=zE hS.held.below;have S:Sta wc wc [(gx,#[.slice ar b.ns.reg.length cr,.slice an b.ns.notes.length cn,.int .i64 b.of,.slice am b.ms.length cm,.slice ah b.hs.length ch,.slice a5 L.length c5],32)] _:=⟨⟨br_,fun y hy=>by
     obtain rfl:=List.mem_singleton.1 hy;exact HR.out.acc.box⟩,((((tables_ever hS.now.2.2.2).and (fun _ k=>zJ stays_u32 k hS.now.2.2.1)).and (fun _ k=>zJ zN k hcw)).and (fun _ k=>zJ zN k hzw)).and (fun _ k=>hA.ext k)⟩
    have HVB:=zE hvB;have HC:=zE (HCT.out.1.rs L);have HT:=zE (show IsT (zBO ({ b with rs:=L } : Built).ns.notes) Z from HZ6.out.1);have HALL:=zE HR.out.yes.all;have HIN:=zE (true_in hvB HT.out HC.out HALL.out);have HTY:Hid (Tiny { b with rs:=L }):=⟨HV.out.1.1,HV.out.1.2.1,HV.out.1.2.2.1,by simp only;omega⟩;clear HR hS hvB hSL hA hzw hcw HZ6 HCT HS;obtain ⟨lx,⟨q0,q1,q2,q3,q4,q5⟩,-⟩:=(S.get 0 rfl).q6;go_wp2_with fail;clear q0 q1 q2 q3 q4 q5 lx;refine (signed_built _ _ _ _ _ _ { b with rs:=L } S.now.1 S.now.2.2.2.2.2.2).mono ?_;rintro e wD ⟨u,rfl,hs,h⟩;rw [signedL_of HVB.out] at hs;rw [HVB.out];obtain ⟨as2,cs2,rfl,_⟩:=zD hs;replace S:=(S.ext h).and (fun _ k=>zJ zGK k hs);clear hs h;obtain ⟨lx,⟨q0,q1,q2,q3,q4,q5⟩,-⟩:=(S.get 0 rfl).q6;go_wp2_with fail;clear q0 q1 q2 q3 q4 q5 lx;refine (ready_law _ _ _ _ _ _ { b with rs:=L } S.now.2.1.at_).mono ?_;intro e wE hr;rcases hr.both with ⟨_,rfl,h⟩ | ⟨hno,rfl,h⟩
    case inr=>exact absurd ⟨HTY.out,HVB.out⟩ hno
    replace S:=S.ext h;have HS:=zE S;clear hr h S;go_wp2;go_loopw [22,184] (fun v q wr=>∃ (k:Nat) (z:Int),q = .int .i64 k/\v = .int .i64 z/\k<=(zAQ { b with rs:=L }).length/\Hid (z < 0->Z ∉ (zAQ { b with rs:=L }).take k)/\Hid (Below wE.heap.size wE wr)) (fun _ q _=>(zAQ { b with rs:=L }).length - (intOf q).toNat)
    case atStart=>exact ⟨0,-1,rfl,rfl,by omega,fun _ h=>(by simp at h),br_⟩
    case round =>
     obtain ⟨k,z,rfl,rfl,hk,HN,HB⟩:=hrel;have S:=HS.out.ext HB.out;by_cases hlt:k < (zAQ { b with rs:=L }).length
     case pos =>
      obtain ⟨bs,os,rfl,v,c0,hsv⟩:=(zY S.now.1).2 k hlt;have htk:Hid ((zAQ { b with rs:=L }).take (k+1)=(zAQ { b with rs:=L }).take k++[(zAQ { b with rs:=L })[k]]):=List.take_succ_eq_append_getElem hlt;generalize (zAQ { b with rs:=L })[k]=X at *;obtain ⟨ax,cx,rfl,_⟩:=zD hsv;rw [Nat.mul_one] at c0;unfold zK at c0;have hz:=S.now.2.2.1;clear S;by_cases hXZ:X=Z
      ·have HE:=zE hXZ;clear hXZ;go_wp2_with (go_at_call 16;refine (sameInts_law _ _ _ X Z hsv hz).mono ?_;rintro e w7 ⟨rfl,h7⟩;rw [decide_eq_true HE.out]);exact ⟨⟨k+1,k,by go_num,rfl,by omega,fun h=>(by omega),zA HB.out h7⟩,by simp [intOf];omega⟩
      ·have HE:=zE hXZ
       clear hXZ;go_wp2_with (go_at_call 16;refine (sameInts_law _ _ _ X Z hsv hz).mono ?_;rintro e w7 ⟨rfl,h7⟩;rw [decide_eq_false HE.out]);exact ⟨⟨k+1,z,by go_num,rfl,by omega,fun h hm=>by
        rw [htk.out] at hm;rcases List.mem_append.1 hm with g | g
        ·exact HN.out h g
        ·exact HE.out (List.mem_singleton.1 g).symm,zA HB.out h7⟩,by simp [intOf];omega⟩
     case neg =>
      obtain rfl:k=(zAQ { b with rs:=L }).length:=by omega
      have hz0:¬ (z < 0):=fun h=>HN.out h (by rw [List.take_length];exact HIN.out)
      have HS2:Hid (Sta wr wr _ _):=⟨⟨br_,S.held.held⟩,S.ever⟩;have HBL2:=zE (zA HBL.out S.held.below);clear HN S HS HB HBL;generalize wr=wF at *;obtain ⟨lx,⟨q0,q1,q2,q3,q4,q5⟩,-⟩:=(HS2.out.get 0 rfl).q6;go_wp2;clear q0 q1 q2 q3 q4 q5 lx hz0;go_loopw [199] (fun q wr=>∃ k:Nat,q = .int .i64 k/\k<=b.hs.length/\Hid (Below wF.heap.size wF wr)) (fun q _=>b.hs.length - (intOf q).toNat)
      case atStart=>exact ⟨0,rfl,by omega,br_⟩
      case round =>
       obtain ⟨k,rfl,hk,HB⟩:=hrel;have S:=HS2.out.ext HB.out;by_cases hlt:k < b.hs.length
       case pos =>

        have hlv:(k:Int)<=4:=by have:=(zS HV.out.2).2.2.2.1;omega
        have hI:In (k:Int) 0 ((({ b with rs:=L } : Built).hs.length:Int) - 1):=by unfold In;simp only;omega
        obtain ⟨hc1,hc2⟩:=tell_ok HVB.out HT.out hI (((zFQ HVB.out).2 Z).1 HIN.out).2;obtain ⟨hu1,hu2⟩:=unt_ok (b:={ b with rs:=L }) HVB.out hI (List.ne_nil_of_mem HIN.out);have HCN:=zE (true_counts HC.out HALL.out (k:=k) hlt);have HUN:=zE (true_until HVB.out HIN.out HC.out HALL.out (k:=k) hlt);have HCB:=zE (cntS_bd HVB.out (((zFQ HVB.out).2 Z).1 HIN.out).2 (k:=k) hlt);rw [<- hu2] at HUN;change zQQ { b with rs:=L } Z k=zLY { b with rs:=L } Z k at hc2;rw [<- hc2] at HCN HCB;obtain ⟨lx,⟨q0,q1,q2,q3,q4,q5⟩,-⟩:=(S.get 0 rfl).q6;have HK1:=zE hc1;have HK2:=zE hu1;clear hI hc1 hc2 hu1 hu2;go_wp2_with fail;clear q0 q1 q2 q3 q4 q5 lx;refine (counts_built _ _ _ _ _ _ _ { b with rs:=L } Z k S.now.2.1 S.now.2.2.2.2.2.2.2 S.now.2.2.1 (by unfold I64;omega)).mono ?_;rintro e w7 ⟨rfl,h7⟩;rw [HK1.out];generalize zQQ { b with rs:=L } Z k=s at *;obtain ⟨slo,shi⟩:=s;simp only;replace S:=(S.ext h7).new #[.int .i64 slo,.int .i64 shi] 40;obtain ⟨lx,⟨q0,q1,q2,q3,q4,q5⟩,-⟩:=(S.get 1 rfl).q6;clear h7;go_wp2_with fail;clear q0 q1 q2 q3 q4 q5 lx;generalize w7.heap.size=g7 at *;generalize w7.alloc _=w8 at *;refine (until_built _ _ _ _ _ _ { b with rs:=L } k S.now.2.1 S.now.2.2.2.2.2.2.2 (by unfold I64;omega)).mono ?_;rintro e w9 ⟨rfl,h9⟩;rw [HK2.out];generalize untS { b with rs:=L } k=u at *;obtain ⟨ulo,uhi⟩:=u;simp only;replace S:=(S.ext h9).new #[.int .i64 ulo,.int .i64 uhi] 40;obtain ⟨lx,⟨q0,q1,q2,q3,q4,q5⟩,-⟩:=(S.get 2 rfl).q6;clear h9;go_wp2;clear q0 q1 q2 q3 q4 q5 lx;generalize w9.heap.size=g9 at *;generalize w9.alloc _=wG at *;have HSG:=zE S;obtain ⟨bh,oh,hbh,⟨hc0,hc1,-,-⟩,-⟩:=(zY S.now.2.1.at_.hs).2 k hlt;have hHL:=zE (fun i (hi:i < b.ms.length)=>last_is (b:={ b with rs:=L }) HVB.out Z C (k:=k) (i:=i) hlt hi);have hdk:Hid (b.hs[k].d∈nums b.ns.reg):=part_num HV.out.2 ((zS HV.out.2).2.2.2.2.2.2.1 k hlt hlt).1;have hkC:k < C.length:=by rw [HC.out.len];exact hlt
        have eCk:C.getD k 0=C[k]:=by rw [List.getD_eq_getElem?_getD,List.getElem?_eq_getElem hkC];rfl
        obtain ⟨bc,oc,hbc,hcc,-⟩:=(zY S.now.2.2.2.1).2 k hkC;rw [<- eCk,Nat.mul_one] at hcc;have HCC:=zE hcc;have hkC2:(k:Int) < C.length:=by omega
        clear S HK1 HK2 eCk hcc;subst hbc;generalize C.getD k 0=ckv at *;generalize b.hs[k]=h at *;have HHC:=zE (And.intro hc0 hc1);clear hc0 hc1;subst hbh;have hkl2:(k:Int) < b.hs.length:=by omega
        go_loopw [30,218] (fun v q wr=>∃ i:Nat,q = .int .i64 i/\i<=b.ms.length/\v = .int .i64 (zHR { b with rs:=L } Z k (ckv) i)/\Hid (Below wG.heap.size wG wr)) (fun _ q _=>b.ms.length - (intOf q).toNat)
        case atStart=>exact ⟨0,rfl,by omega,rfl,br_⟩
        case round =>
         clear HB;obtain ⟨i,rfl,hi,rfl,HB⟩:=hrel;have S:=HSG.out.ext HB.out;by_cases hil:i < b.ms.length
         case pos =>
          obtain ⟨bm,om,rfl,d0,_⟩:=(zY S.now.2.1.at_.ms).2 i hil;have hmi:=List.getElem_mem hil;have hLI:Hid (zIJ { b with rs:=L } Z k (ckv) i=(decide ((zZ { b with rs:=L } Z b.ms[i] h.d).h=k) && decide (0 < heldB { b with rs:=L } Z C b.ms[i] h.d h.l))):=hHL.out i hil;have hUY:Hid (zIJ { b with rs:=L } Z k (ckv) i=true->zHR { b with rs:=L } Z k (ckv) (i+1)=b.ms[i]):=fun g=>untilTo_yes (b:={ b with rs:=L }) (S:=Z) (k:=k) (n:=ckv) (i:=i) g hil
          have hUN:=zE (fun g=>untilTo_no (b:={ b with rs:=L }) (S:=Z) (k:=k) (n:=ckv) (i:=i) g)
          (try simp only at d0 hmi)
          generalize b.ms[i]=mm at *;rw [Nat.mul_one] at d0;unfold zK at d0;have HMI:=zE (valid_ms HV.out.2 hmi);have HMM:=zE hmi;obtain ⟨k0,k1,k2,k3,k4,k5⟩:=(S.get 2 rfl).l6;have c0:=zH (zC HB.out HHC.out.1);have HCALL:=zE (fun xq=>standOf_law (wr.later xq) _ _ _ _ _ _ { b with rs:=L } Z mm h.d ((S.ext (zG wr xq)).now.2.1) ((S.ext (zG wr xq)).now.2.2.1) HVB.out HT.out HMI.out hdk.out);clear S hmi;generalize zZ { b with rs:=L } Z mm h.d=X at *;obtain ⟨xc,xl,xh⟩:=X
          (try simp only at *)
          go_upto_region 47 with fail
          clear d0;as_aux_lemma =>
          refine wp_region_growD 14 12 (by kernel_rfl) (by kernel_rfl) rfl rfl (fun v=>v = .bool true) ?_;simp only [List.take_succ_cons,List.take_zero];iterate 9 (apply fx_ 450 (by kernel_rfl) rfl;focus (intro rq vs xq hr hc hf hd;(try simp at hd);go_simp;exact ⟨br_,rfl⟩))
          apply fx_ 450 (by kernel_rfl) rfl;focus (intro rq vs xq hr hc hf hd;(try simp at hd);go_simp;refine (HCALL.out xq).mono ?_;rintro e w9 ⟨rfl,hb9⟩;exact ⟨rfl,hb9⟩)
          iterate 3 (apply fx_ 450 (by kernel_rfl) rfl;focus (intro rq vs xq hr hc hf hd;(try simp at hd);go_simp;exact ⟨br_,rfl⟩))
          refine fs_ 450 (by kernel_rfl) rfl (NewBx wr.heap.size #[.int .i64 0,.int .i64 0,.int .i64 0] 61) (zFE _ _ _) ?_ ?_
          ·intro rq vs xq hr hc hf hd
           (try simp at hd)
           go_simp;exact ⟨zB _ _,_,rfl,(zG wr xq).size,Lay.new _ _ _⟩
          refine ⟨fun v w h=>h,fun vs w8 w9 hd=>?_,fun vs w8 hb8 hf=>?_⟩
          ·(try simp at hd)
           refine ⟨.bool true,?_,rfl⟩;simp only [zAB,Act.put,List.setIfInBounds_toArray,List.set_cons_succ,List.set_cons_zero];rw [hd];go_simp
          ·have h11:=hf 11 (by decide) (by decide)
           have h13:=hf 13 (by decide) (by decide);simp [zAI] at h11 h13;clear hf;obtain ⟨gb,e13,hgb,hLb⟩:=h13;obtain ⟨lb,⟨q0,q1,q2⟩,f0,f1,f2⟩:=hLb.q3;simp only [zAB,Act.put,List.setIfInBounds_toArray,List.set_cons_succ,List.set_cons_zero];rw [h11,e13];go_simp
           (try simp only [List.drop_succ_cons,List.drop_zero])
           have hbw:=zI (j:=2) (u:=.int .i64 xh) hgb (zI (j:=1) (u:=.int .i64 xl) hgb (zI (j:=0) (u:=.int .i64 xc) hgb hb8));have HL9:=zE (zCF (zCF (zCF hLb 0 (.int .i64 xc)) 1 (.int .i64 xl)) 2 (.int .i64 xh));clear hLb hb8 q0 q1 q2 f0 f1 f2 lb h11 e13 k0 k1 k2 k3 k4 k5 c0 HCALL;generalize ((w8.setCell _ _).setCell _ _).setCell _ _=w9 at *;have HL:Hid (Lay w9 gb #[.int .i64 xc,.int .i64 xl,.int .i64 xh] 61):=HL9.out;have HB2:=zE (zA HB.out hbw);clear HL9 HB hbw;as_aux_lemma =>
           have S:=HSG.out.ext HB2.out;obtain ⟨k0,k1,k2,k3,k4,k5⟩:=(S.get 2 rfl).l6;have c0:=zH (zC HB2.out HHC.out.1);have c1:=zH (zC HB2.out HHC.out.2);have hcall:=fun xq=>held_law (w9.later xq) _ _ _ _ _ _ _ { b with rs:=L } Z C mm h.d h.l ((S.ext (zG w9 xq)).now.2.1) ((S.ext (zG w9 xq)).now.2.2.1) ((S.ext (zG w9 xq)).now.2.2.2.1) HVB.out HT.out HC.out HMM.out hdk.out
           clear S;generalize heldB { b with rs:=L } Z C mm h.d h.l=nn at *;go_upto_region 48 with fail
           refine zAR (by kernel_rfl) (by kernel_rfl) (no_implicit_lambda% ?_);repeat ((with_reducible refine wpQuiet_step (fun K hK=>?_));go_simp;first | ((with_reducible refine hK _ ?_);clear hK K) | (refine hK _ (no_implicit_lambda% ?_);clear hK K) | (apply Exists.intro;(with_reducible refine ⟨fun _=>?_,hK _ ?_⟩);(first | (go_at_call 21;exact Calls.quiet_later (zIM _ _ _)) | (go_at_call 20;exact Calls.quiet_later (hcall _)));clear hK K))
           with_reducible refine wpQuiet_nil ?_
           intro _ hw9;obtain ⟨xq,hw8⟩:=hw9;subst hw8;have HB3:=zE (zA HB2.out (zG w9 xq));have HL3:=zE (HL.out.ext (zG w9 xq));clear k0 k1 k2 k3 k4 k5 c0 c1 hcall HB2 HL;generalize w9.later xq=wJ at *;obtain ⟨lb,⟨q0,q1,q2⟩,-⟩:=HL3.out.q3;as_aux_lemma =>
           by_cases e1:xh=k
           ·subst e1
            by_cases e2:0 < nn
            ·have e2':nn > 0:=e2;have hU:=zE (hUY.out (by rw [hLI.out];simp [e2]));clear hUY hUN hLI e2;go_wp2;exact ⟨⟨i+1,by go_num,by omega,by rw [hU.out],HB3⟩,by simp [intOf];omega⟩
            ·have e2':¬ (nn > 0):=e2;have hU:=zE (hUN.out (by rw [hLI.out];simp [e2]));clear hUY hUN hLI e2;go_wp2;exact ⟨⟨i+1,by go_num,by omega,by rw [hU.out],HB3⟩,by simp [intOf];omega⟩
           ·have e1':(xh == (k:Int))=false:=by simpa using e1
            have hU:=zE (hUN.out (by rw [hLI.out];simp [e1]));clear hUY hUN hLI e1;go_wp2;exact ⟨⟨i+1,by go_num,by omega,by rw [hU.out],HB3⟩,by simp [intOf];omega⟩
         case neg =>
          obtain rfl:i=b.ms.length:=by omega
          as_aux_lemma =>
          have hU:=HUN.out;have hC:=HCN.out;unfold zEL at hU;simp only at hU hC;generalize zHR { b with rs:=L } Z k ckv b.ms.length=lv at *;obtain ⟨l1,⟨p0,p1⟩,-⟩:=(S.get 1 rfl).q2;obtain ⟨l2,⟨q0,q1⟩,-⟩:=(S.get 0 rfl).q2;have hcc:=zC HB.out HCC.out;unfold zK at hcc;have t1:¬ (ckv < slo):=by omega
          have t2:¬ (ckv > shi):=by omega
          have t3:¬ (lv < ulo):=by omega
          have t4:¬ (lv > uhi):=by omega
          clear hU hC S;go_upto_region 54 with fail
          go_region;have HB2:=zE (zA HB.out (zO wr));clear HB p0 p1 q0 q1 l1 l2 hcc t1 t2 t3 t4;generalize wr.drew=wz at *;go_wp2;exact ⟨⟨k+1,by go_num,by omega,(HSG.out.ext HB2.out).held.below⟩,by simp [intOf];omega⟩

       case neg =>
        obtain rfl:k=b.hs.length:=by omega
        have HBL3:=zE (zA HBL2.out HB.out);have HS3:Hid (Sta wr wr _ _):=⟨⟨br_,S.held.held⟩,S.ever⟩;clear S HS2 HBL2 HB;generalize wr=wH at *;obtain ⟨lx,⟨q0,q1,q2,q3,q4,q5⟩,-⟩:=(HS3.out.get 0 rfl).q6;go_wp2;clear q0 q1 q2 q3 q4 q5 lx;go_loopw [312] (fun q wr=>∃ i:Nat,q = .int .i64 i/\i<=b.ms.length/\Hid (Below wH.heap.size wH wr)) (fun q _=>b.ms.length - (intOf q).toNat)
        case atStart=>exact ⟨0,rfl,by omega,br_⟩
        case round =>
         obtain ⟨i,rfl,hi,HB⟩:=hrel;have S:=HS3.out.ext HB.out;by_cases hil:i < b.ms.length
         case pos =>

          obtain ⟨bm,om,rfl,d0,_⟩:=(zY S.now.2.1.at_.ms).2 i hil;have hmi:=List.getElem_mem hil
          (try simp only at d0 hmi)
          generalize b.ms[i]=mm at *;rw [Nat.mul_one] at d0;unfold zK at d0;have HMM:Hid (mm∈b.ms):=hmi;obtain ⟨k0,k1,k2,k3,k4,k5⟩:=(S.get 0 rfl).l6;obtain ⟨f,hf⟩ : ∃ f:Bool,(f=true↔zCT b.ns.reg≠[]):=⟨decide (zCT b.ns.reg≠[]),by simp⟩;have HF:=zE hf;have hch:=HCI.out 60;have HCH:=zE (fun xq=>chq_ S.now.2.2.2.2.1 60 (by omega) xq);have h60:=(zAW (zBJ (zS HV.out.2).1).1).1;have HIS:=zE (fun xq=>issue_law (wr.later xq) _ _ _ _ _ { b with rs:=L } (chL by_ 60) ((S.ext (zG wr xq)).now.2.1.at_) (by simp only;unfold In at h60;omega) hch.1 hch.2);clear S hf hch h60 hmi;go_upto_region 60 with fail
          clear d0;as_aux_lemma =>
          refine wp_region_growD 8 6 (by kernel_rfl) (by kernel_rfl) rfl rfl (fun v=>v = .bool f) ?_;simp only [List.take_succ_cons,List.take_zero];iterate 2 (apply fx_ 450 (by kernel_rfl) rfl;focus (intro rq vs xq hr hc hf hd;(try simp at hd);go_simp;exact ⟨br_,rfl⟩))
          apply fx_ 450 (by kernel_rfl) rfl;focus (intro rq vs xq hr hc hf hd;(try simp at hd);go_simp;refine (HCH.out xq).mono ?_;rintro e w9 ⟨rfl,hb9⟩;exact ⟨rfl,hb9⟩)
          refine fs_ 450 (by kernel_rfl) rfl (IsP b.ns.reg f) (fun v w w' hb h=>h) ?_ ?_
          ·intro rq vs xq hr hc hf hd
           (try simp at hd)
           go_simp;exact (HIS.out xq).mono fun e w9 h=>issue_p HF.out h
          refine fs_ 450 (by kernel_rfl) rfl (IsP b.ns.reg f) (fun v w w' hb h=>h) ?_ ?_
          ·intro rq vs xq hr hc hf hd
           (try simp at hd)
           go_simp;exact br_
          refine fs_ 450 (by kernel_rfl) rfl (IsA b.ns.reg f) (fun v w w' hb h=>h) ?_ ?_
          ·intro rq vs xq hr hc hf hd
           (try simp at hd)
           obtain ⟨p,hp,e⟩:=hd;go_simp;exact ⟨br_,p,hp,rfl⟩
          refine fs_ 450 (by kernel_rfl) rfl (fun v _=>v = .bool f) (fun v w w' hb h=>h) ?_ ?_
          ·intro rq vs xq hr hc hf hd
           (try simp at hd)
           obtain ⟨p,hp,e⟩:=hd;go_simp;exact br_
          refine fs_ 450 (by kernel_rfl) rfl (NewBx wr.heap.size #[.int .i64 0,.int .i64 0] 45) (zFE _ _ _) ?_ ?_
          ·intro rq vs xq hr hc hf hd
           (try simp at hd)
           go_simp;exact ⟨zB _ _,_,rfl,(zG wr xq).size,Lay.new _ _ _⟩
          refine ⟨fun v w h=>h,fun vs w8 w9 hd=>?_,fun vs w8 hb8 hf=>?_⟩
          ·(try simp at hd)
           obtain ⟨p,hp,e⟩:=hd;refine ⟨.bool f,?_,rfl⟩;simp only [zAB,Act.put,List.setIfInBounds_toArray,List.set_cons_succ,List.set_cons_zero];rw [e];go_simp
          ·have h5:=hf 5 (by decide) (by decide)
           have h7:=hf 7 (by decide) (by decide);simp [zAI] at h5 h7;clear hf;obtain ⟨p,hp,e5⟩:=h5;obtain ⟨gb,e7,hgb,hLb⟩:=h7;obtain ⟨lb,⟨q0,q1⟩,-⟩:=hLb.q2;have f0:=hLb.frozen 0;have f1:=hLb.frozen 1;simp only [zAB,Act.put,List.setIfInBounds_toArray,List.set_cons_succ,List.set_cons_zero];rw [e5,e7];go_simp
           (try simp only [List.drop_succ_cons,List.drop_zero])
           have HP:=zE hp;have hbw:=zI (j:=1) (u:=.int .i64 p.2) hgb (zI (j:=0) (u:=.int .i64 p.1) hgb hb8);have HL9:=zE (zCF (zCF hLb 0 (.int .i64 p.1)) 1 (.int .i64 p.2));clear hLb hb8 q0 q1 f0 f1 lb hp k0 k1 k2 k3 k4 k5 HCH HIS;generalize (w8.setCell _ _).setCell _ _=w9 at *;have HL:Hid (Lay w9 gb #[.int .i64 p.1,.int .i64 p.2] 45):=HL9.out;have S:=HS3.out.ext (zA HB.out hbw);clear HL9 HB hbw;as_aux_lemma =>
           cases f
           case false =>have HBE:=zE (zA HBL3.out S.held.below);clear S;go_wp2;go_ret;exact ⟨rfl,HBE.out⟩
           case true =>
            have hpr:=ref_part (zBJ (zS HV.out.2).1).1 (HP.out rfl);have HD:=zE (part_num HV.out.2 hpr);have hask:zBK { b with rs:=L } mm=0:=by unfold zBK;rw [if_neg (by simp [HVB.out]),if_neg (fun h=>h HMM.out),if_neg (List.ne_nil_of_mem HIN.out)]
            have hp0:zAS { b with rs:=L } mm p.1 p.2=0:=(zNA (b:={ b with rs:=L }) mm hpr).trans hask;have HPC:=zE hp0;have HPS:=zE (true_pieces HIN.out HC.out HALL.out mm p.1 p.2);rw [<- zRH hask hpr] at HPS;have H64:Hid (I64 p.1):=by obtain ⟨y,hy,_⟩:=hpr;obtain ⟨q,hq,rfl,e1,_⟩:=find_at hy;have:=(((zAW (zBJ (zS HV.out.2).1).1).2.1 q hq).1 hq).1.1;rw [e1] at this;unfold Hid;unfold In at this;unfold I64;omega
            clear hp0 hask hpr HP;obtain ⟨lx,⟨q0,q1,q2,q3,q4,q5⟩,-⟩:=(S.get 0 rfl).q6;obtain ⟨lb,⟨p0,p1⟩,-⟩:=HL.out.q2;go_wp2_with fail;clear q0 q1 q2 q3 q4 q5 lx p0 p1 lb;refine (held_law _ _ _ _ _ _ _ _ { b with rs:=L } Z C mm p.1 p.2 S.now.2.1 S.now.2.2.1 S.now.2.2.2.1 HVB.out HT.out HC.out HMM.out HD.out).mono ?_;rintro e wJ ⟨rfl,h⟩;replace S:=S.ext h;have HL2:=zE (HL.out.ext h);clear h HL;generalize heldB { b with rs:=L } Z C mm p.1 p.2=nn at *;obtain ⟨lx,⟨q0,q1,q2,q3,q4,q5⟩,-⟩:=(S.get 0 rfl).q6;obtain ⟨lb,⟨p0,p1⟩,-⟩:=HL2.out.q2;go_wp2_with fail;clear q0 q1 q2 q3 q4 q5 lx p0 p1 lb;refine (zKB _ _ _ _ _ _ { b with rs:=L } mm p.1 p.2 S.now.2.1 S.now.2.2.2.2.2.2.2 H64.out).mono ?_;rintro e wK ⟨rfl,h⟩;rw [HPC.out];have hkc:zHD (zBE { b with rs:=L } mm p.1 p.2) 0=2->¬ (nn=0):=fun h=>by
             have:=HPS.out.1;unfold zHD at h;simp at h;omega
            have hkc2:zHD (zBE { b with rs:=L } mm p.1 p.2) 0=0->¬ (0 < nn):=fun h=>by
             have:=HPS.out.2;unfold zHD at h;simp at h;omega
            have hkb:0<=zHD (zBE { b with rs:=L } mm p.1 p.2) 0/\zHD (zBE { b with rs:=L } mm p.1 p.2) 0<=2:=by
             unfold zHD;simp;split
             ·omega
             ·split <;> omega
            have HKN:=zE (And.intro hkc (And.intro hkc2 hkb));clear hkc hkc2 hkb;replace S:=(S.ext h);have HL3:=zE (HL2.out.ext h);clear h HL2;replace S:=S.new #[.int .i64 (zBE { b with rs:=L } mm p.1 p.2).lo,.int .i64 (zBE { b with rs:=L } mm p.1 p.2).hi] 40;have HL4:=zE (HL3.out.ext (zB wK (.cells #[.int .i64 (zBE { b with rs:=L } mm p.1 p.2).lo,.int .i64 (zBE { b with rs:=L } mm p.1 p.2).hi] 40)));obtain ⟨lx,⟨q0,q1,q2,q3,q4,q5⟩,-⟩:=(S.get 1 rfl).q6;obtain ⟨lb,⟨p0,p1⟩,-⟩:=HL4.out.q2;clear HL3;go_wp2_with fail;clear q0 q1 q2 q3 q4 q5 lx p0 p1 lb;generalize wK.heap.size=gk at *;generalize wK.alloc _=wM at *;refine (known_built _ _ _ _ _ _ { b with rs:=L } mm p.1 p.2 S.now.2.1 S.now.2.2.2.2.2.2.2 H64.out).mono ?_;rintro e wN ⟨rfl,h⟩;rw [HPC.out];replace S:=S.ext h;obtain ⟨l1,⟨p0,p1⟩,-⟩:=(S.get 0 rfl).q2;have HB9:=zE S.held.below;clear h S HL4;generalize zHD (zBE { b with rs:=L } mm p.1 p.2) 0=kc at *;generalize zBE { b with rs:=L } mm p.1 p.2=s at *;obtain ⟨slo,shi⟩:=s;have hps:=HPS.out;simp only at hps p0 p1;have t1:¬ (nn < slo):=by omega
            have t2:¬ (nn > shi):=by omega
            as_aux_lemma =>
            by_cases a1:kc=2
            ·have b1:(kc == 2)=true:=by simpa using a1
             have c1:(nn == 0)=false:=by simpa using HKN.out.1 a1
             have b2:(kc == 0)=false:=by rw [a1];rfl
             clear hps a1;as_aux_lemma =>
             go_wp2;exact ⟨⟨i+1,by go_num,by omega,HB9⟩,by simp [intOf];omega⟩
            ·have b1:(kc == 2)=false:=by simpa using a1
             by_cases a2:kc=0
             ·have b2:(kc == 0)=true:=by simpa using a2
              have c2:¬ (nn > 0):=by have:=HKN.out.2.1 a2;omega
              clear hps a1 a2;as_aux_lemma =>
              go_wp2;exact ⟨⟨i+1,by go_num,by omega,HB9⟩,by simp [intOf];omega⟩
             ·have b2:(kc == 0)=false:=by simpa using a2
              clear hps a1 a2;as_aux_lemma =>
              go_wp2;exact ⟨⟨i+1,by go_num,by omega,HB9⟩,by simp [intOf];omega⟩

         case neg =>
          obtain rfl:i=b.ms.length:=by omega
          have HBL4:=zE (zA HBL3.out HB.out);clear HS3 HBL3 HB;obtain ⟨lx,⟨q0,q1,q2,q3,q4,q5⟩,-⟩:=(S.get 0 rfl).q6;go_wp2_with fail;clear q0 q1 q2 q3 q4 q5 lx;refine (settled_built _ _ _ _ _ _ { b with rs:=L } S.now.2.1 S.now.2.2.2.2.2.2.2).mono ?_;rintro e wJ ⟨u,rfl,hu,h⟩;have hsc:setC { b with rs:=L } = 0:=by unfold setC;rw [if_neg (by simp [HVB.out]),if_neg (List.ne_nil_of_mem HIN.out)]
          have hsl:setL { b with rs:=L } = (zAH b.ns.notes b.ns.notes.length).map (knC (zAQ { b with rs:=L })):=by unfold setL;rw [if_pos hsc]
          rw [hsl] at hu;rw [hsc];clear hsc hsl;obtain ⟨au,cu,rfl,_⟩:=zD hu;simp only [List.length_map] at hu ⊢;have HBL5:=zE (zA HBL4.out h);replace S:=(S.ext h).and (fun _ k=>zJ stays_u8 k hu);have HS5:Hid (Sta wJ wJ _ _):=⟨⟨br_,S.held.held⟩,S.ever⟩;clear hu h S HBL4;obtain ⟨lx,⟨q0,q1,q2,q3,q4,q5⟩,-⟩:=(HS5.out.get 0 rfl).q6;have h12:b.ns.notes.length<=12:=HNO.out.1;go_wp2;clear q0 q1 q2 q3 q4 q5 lx;go_loopw [49,397] (fun v q wr=>∃ j:Nat,q = .int .i64 j/\j<=b.ns.notes.length/\v = .int .i64 (zAH b.ns.notes j).length/\Hid (Below wJ.heap.size wJ wr)) (fun _ q _=>b.ns.notes.length - (intOf q).toNat)
          case atStart=>exact ⟨0,rfl,by omega,rfl,br_⟩
          case round =>
           obtain ⟨j,rfl,hj,rfl,HB⟩:=hrel;have S:=HS5.out.ext HB.out;by_cases hjl:j < b.ns.notes.length
           case neg =>
            obtain rfl:j=b.ns.notes.length:=by omega
            have HBE:=zE (zA HBL5.out HB.out);clear S HB;go_wp2;go_ret;exact ⟨rfl,HBE.out⟩
           case pos =>
            obtain ⟨bn,on,rfl,⟨n0,n1,n2,n3,n4,n5,n6,n7,n8,n9⟩,-⟩:=(zY S.now.2.2.1.at_.notes).2 j hjl;have hle:=opensTo_le b.ns.notes j;have hsucc:=zHK b.ns.notes j hjl;have hat:=zE (opens_at hjl);simp only at n0 n1 n2 n3 n4 n5 n6 n7 n8 n9;generalize b.ns.notes[j]=y at *;unfold zK at n0 n1 n2 n3 n4 n5 n6 n7 n8 n9;have L1:=(HeldB.nil wr).new #[.int .i64 y.num,.int .i64 y.day,.int .u8 y.sg,.int .i64 y.d,.int .i64 y.l,.int .i64 y.fr,.int .i64 y.to,.int .i64 y.ca,.bool y.use,.int .u8 y.ways] 74;have HL1:=zE (L1.get 0 rfl);replace S:=S.ext L1.below;have HB1:=zE (zA HB.out L1.below);clear L1 HB;have m0:=HL1.out.cell 0 _ rfl;have m2:=HL1.out.cell 2 _ rfl;have ml:=HL1.out.lt;by_cases hs:y.sg=1
            case neg =>
             rw [if_neg hs,List.append_nil] at hsucc;have HSU:=zE hsucc;have hs':(y.sg != 1)=true:=by simpa using hs
             clear hs hsucc S hat;go_wp2;exact ⟨⟨j+1,by go_num,by omega,by rw [HSU.out],HB1⟩,by simp [intOf];omega⟩
            case pos =>
             rw [if_pos hs] at hsucc;have hlen:(zAH b.ns.notes (j+1)).length=(zAH b.ns.notes j).length+1:=by rw [hsucc,List.length_append];rfl
             have HSU:=zE hlen;obtain ⟨hol,hoe⟩:=hat.out hs;have hs':(y.sg != 1)=false:=by simpa using hs
             have holm:(zAH b.ns.notes j).length < ((zAH b.ns.notes b.ns.notes.length).map (knC (zAQ { b with rs:=L }))).length:=by rw [List.length_map];exact hol
             obtain ⟨bk,ok,hbk,hck,-⟩:=(zY S.now.1).2 _ holm;rw [List.getElem_map,hoe,Nat.mul_one] at hck;obtain ⟨ht1,ht2⟩:=true_known HIN.out y.num;have hzz:=S.now.2.2.2.1;subst hbk;generalize knC (zAQ { b with rs:=L }) y.num=kk at *;unfold zK at hck;have hol2:¬ (((zAH b.ns.notes j).length:Int) ≥ ((zAH b.ns.notes b.ns.notes.length).length:Int)):=by omega
             have hol3:((zAH b.ns.notes j).length:Int) < ((zAH b.ns.notes b.ns.notes.length).length:Int):=by omega
             have HZZ:=zE hzz;have HT12:=zE (And.intro ht1 ht2);clear hs hsucc hlen S hat hoe holm ht1 ht2 hzz;by_cases a1:kk=2
             ·have b1:(kk == 2)=true:=by simpa using a1
              have b2:(kk == 0)=false:=by rw [a1];rfl
              have hi:=idxI_in Z y.num (HT12.out.1 a1);have hi2:¬ (zKD Z y.num < 0):=by omega
              clear a1 hi;as_aux_lemma =>
              go_wp2_with (go_at_call 25;refine (index02 _ _ Z y.num HZZ.out).mono ?_;rintro e w7 ⟨rfl,rfl⟩);exact ⟨⟨j+1,by go_num,by omega,by rw [HSU.out];rfl,HB1⟩,by simp [intOf];omega⟩
             ·have b1:(kk == 2)=false:=by simpa using a1
              by_cases a2:kk=0
              ·have b2:(kk == 0)=true:=by simpa using a2
               have hi:=idxI_out Z y.num (HT12.out.2 a2);have hi2:¬ (zKD Z y.num ≥ 0):=by omega
               clear a1 a2 hi;as_aux_lemma =>
               go_wp2_with (go_at_call 25;refine (index02 _ _ Z y.num HZZ.out).mono ?_;rintro e w7 ⟨rfl,rfl⟩);exact ⟨⟨j+1,by go_num,by omega,by rw [HSU.out];rfl,HB1⟩,by simp [intOf];omega⟩
              ·have b2:(kk == 0)=false:=by simpa using a2
               clear a1 a2;as_aux_lemma =>
               go_wp2;exact ⟨⟨j+1,by go_num,by omega,by rw [HSU.out];rfl,HB1⟩,by simp [intOf];omega⟩
end
end Go.Proofs.YtipaopbmklbmnaaGreatDoor
