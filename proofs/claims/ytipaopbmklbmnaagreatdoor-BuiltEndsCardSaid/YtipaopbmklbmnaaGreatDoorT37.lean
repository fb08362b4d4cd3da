/- Lemmas. -/
import Derived.Test.YtipaopbmklbmnaaGreatDoorT36
import Derived.Test.YtipaopbmklbmnaaGreatDoorT54
set_option linter.all false
set_option maxRecDepth 100000
set_option maxHeartbeats 0
namespace Go.Proofs.YtipaopbmklbmnaaGreatDoor
section
open Tryz
open Go.RowKit Go.Shelf
attribute [local go_sem] zAE Oper.grows Oper.growUpon Oper.semAt_some
structure KeepM (es:List TypeId) (w w':World) : Prop where
 cells:zFL es w w'
 maps:∀ (k:Nat) a c,w.heap[k]? = some (Obj.map a c)->w'.heap[k]? = some (Obj.map a c)
theorem KeepM.trans {es:List TypeId} {w w1 w2:World} (h:KeepM es w w1) (k:KeepM es w1 w2) : KeepM es w w2:=⟨h.cells.trans k.cells,fun b a c hb=>k.maps b a c (h.maps b a c hb)⟩
theorem zBW {es:List TypeId} {w w':World} (hb:Below w.heap.size w w') : KeepM es w w':=⟨zBM hb,fun k _ _ hk=>(hb.block k (Array.getElem?_eq_some_iff.1 hk).1).trans hk⟩
theorem keepM_grown {es:List TypeId} {e:TypeId} {w w':World} {v:Value} {sz n:Nat} {cs:List Value} {base:Nat} (hgr:w.grownBy w' v.ownBlock) (hown:w.ownsRow base e sz v n cs) (hne:e ∉ es) : KeepM es w w' :=
 ⟨zBX hgr hown hne,fun k a c hk=>(hgr.block k (Array.getElem?_eq_some_iff.1 hk).1 (fun h=>by
  rcases hown.2 with ⟨rfl,_⟩ | ⟨g,cap,cur,rfl,_,hcur,_⟩
  ·cases h
  ·have e':k=g:=Option.some.inj h;subst e';rw [hcur] at hk;cases hk)).trans hk⟩
theorem keepM_set {es:List TypeId} {w:World} {g j:Nat} {u:Value} {cur:Array Value} {e:TypeId} (hg:Lay w g cur e) (hne:e ∉ es) : KeepM es w (w.setCell ⟨g,j,none⟩ u) :=
 ⟨keepT_set hg hne,fun k a c hk=>(Below.heap_setCell w ⟨g,j,none⟩ u k (fun h=>by
  have h':k=g:=h;subst h';have hg':w.heap[k]? = some (.cells cur e (0,0)):=hg;rw [hg'] at hk;cases hk)).trans hk⟩
theorem zFM {es:List TypeId} {W:World} {l:Nat} {o:Obj} (o':Obj) (h:W.heap[l]? = some o) (hc:o.isCells=false) (hw:o.isWalk=false) : KeepM es W (W.putObj l o') :=
 ⟨zOD o' h hc,fun k a c hk=>(World.putObj_heap_other (fun e'=>by subst e';rw [h] at hk;cases hk;cases hw)).trans hk⟩
theorem zGF.keepM {es:List TypeId} {w w':World} {b n:Nat} {f:Int->Option Value} (hk:KeepM es w w') (h:zGF w b n f) : zGF w' b n f:=by
 obtain ⟨a,c,hm⟩:=h.is;exact h.same ((hk.maps b a c hm).trans hm.symm)
theorem keeps_own {w w':World} {v:Value} {sz n:Nat} {cs:List Value} {base:Nat} {e:TypeId} (hgr:w.grownBy w' v.ownBlock) (hown:w.ownsRow base e sz v n cs) : KeepsOthers w w' :=
 ⟨hgr.size,fun k o hk ho=>(hgr.block k (Array.getElem?_eq_some_iff.1 hk).1 (fun h=>by
  rcases hown.2 with ⟨rfl,_⟩ | ⟨g,cap,cur,rfl,_,hcur,_⟩
  ·cases h
  ·have e':k=g:=Option.some.inj h;subst e';rw [hcur] at hk;cases hk;cases ho)).trans hk⟩
abbrev esF:List TypeId:=[129,200,3,40]
theorem zGR.keepM {w w':World} {p:Nat} {vr vn vm vh vs vz:Value} {b:Built} {S:List Int} (hk:KeepM esF w w') (h:zGR w p vr vn vm vh vs vz b S) : zGR w' p vr vn vm vh vs vz b S:=by
 obtain ⟨vhas,cs,base,h0,h1,h2⟩:=h;refine ⟨vhas,cs,base,hk.cells _ _ _ _ (by simp) h0,zCR hk.cells (by simp) h1,fun i hi=>?_⟩;obtain ⟨mb,k,h3,h4⟩:=h2 i hi;exact ⟨mb,k,h3,h4.keepM hk⟩
structure FindP (w:World) (vr vn vm vh vs:Value) (b:Built) (x:Fnd) (S:List Int) : Prop where
 mem:∃ vz,zGR w x.p vr vn vm vh vs vz b S/\OnT [3] (fun w=>Sl zAM 1 w vz S) w
 cnt:∃ L base,zJO b S=some L/\x.n=L.length/\w.ownsRow base 40 2 (.slice x.a x.n x.c) L.length (L.flatMap encS)/\NumsOk L
theorem FindP.keepM {w w':World} {vr vn vm vh vs:Value} {b:Built} {x:Fnd} {S:List Int} (hk:KeepM esF w w') (h:FindP w vr vn vm vh vs b x S) : FindP w' vr vn vm vh vs b x S:=by
 obtain ⟨⟨vz,h1,h2⟩,L,base,h3,h4,h5,h6⟩:=h;exact ⟨⟨vz,h1.keepM hk,h2.keep (hk.cells.sub (by simp))⟩,L,base,h3,h4,zCR hk.cells (by simp) h5,h6⟩
theorem FindP.found {w:World} {vr vn vm vh vs:Value} {b:Built} {x:Fnd} {S:List Int} (h:FindP w vr vn vm vh vs b x S) (hB:BuiltAt w vr vn vm vh vs b) : ∃ vz L,FoundAt w x.p vr vn vm vh vs vz (.slice x.a x.n x.c) b S L/\zJO b S=some L:=by
 obtain ⟨⟨vz,h1,h2⟩,L,base,h3,h4,h5,h6⟩:=h;exact ⟨vz,L,⟨⟨h1.row,hB,h2.now⟩,spans_of_own h5 h6⟩,h3⟩
structure Finds (w:World) (n1:Nat) (v:Value) (fs:List Fnd) (vr vn vm vh vs:Value) (b:Built) (A:List (List Int)) : Prop where
 row:w.ownsRow n1 126 2 v fs.length (fs.flatMap encF)
 len:fs.length=A.length
 at_:∀ k (hk:k < fs.length) (hk':k < A.length),FindP w vr vn vm vh vs b fs[k] A[k]
theorem encF_at (fs:List Fnd) (k:Nat) (hk:k < fs.length) : (fs.flatMap encF)[k*2]? = some (.pointer (some ⟨fs[k].p,0,none⟩))/\(fs.flatMap encF)[k*2+1]? = some (.slice fs[k].a fs[k].n fs[k].c):=by
 induction fs generalizing k with
 | nil=>simp at hk
 | cons x fs ih =>
   cases k with
   | zero=>simp [encF]
   | succ k =>
     have:=ih k (by simpa using hk);have e1:(k+1)*2=k*2+1+1:=by omega
     simp only [List.flatMap_cons,encF,List.cons_append,List.nil_append,List.getElem_cons_succ,e1,List.getElem?_cons_succ];exact this
theorem zMP {w:World} {n1:Nat} {v:Value} {fs:List Fnd} (h:w.ownsRow n1 126 2 v fs.length (fs.flatMap encF)) : Sl AtFnd 2 w v fs:=by
 have h':=h;obtain ⟨_,h2⟩:=h;rcases h2 with ⟨rfl,hn⟩ | ⟨g,cap,cur,rfl,_,_,hc,hcm,_⟩
 ·exact ⟨none,0,by rw [hn],by omega,fun k hk=>by omega⟩
 ·refine ⟨some ⟨g,0,none⟩,cap,rfl,by unfold maxLen at hcm;omega,fun k hk=>⟨g,0,rfl,?_,?_⟩⟩
  ·have:=h'.cells (g:=g) rfl _ _ (encF_at fs k hk).1;rw [zAZ] at this;unfold zK;simpa using this
  ·have:=h'.cells (g:=g) rfl _ _ (encF_at fs k hk).2;rw [zAZ] at this;unfold zK;simpa using this
open Classical in
noncomputable def zHJ (b:Built) (T:List (List Int)) : List (List Int):=T.filter (fun S=>decide (zCV b S))
theorem zOH {b:Built} {T:List (List Int)} {S:List Int} (h:zCV b S) : zHJ b (T++[S])=zHJ b T++[S]:=by unfold zHJ;rw [List.filter_append];simp [h]
theorem leftOf_no {b:Built} {T:List (List Int)} {S:List Int} (h:¬ zCV b S) : zHJ b (T++[S])=zHJ b T:=by unfold zHJ;rw [List.filter_append];simp [h]
theorem leftOf_is {b:Built} {T:List (List Int)} (hO:Ord T) (hm:∀ l,l∈T↔IsT (zBO b.ns.notes) l) : zAQ b=zHJ b T :=
 leftL_is ⟨hO.filter _,fun l=>by unfold zHJ;rw [List.mem_filter,hm];simp⟩
theorem leftOf_len (b:Built) (T:List (List Int)) : (zHJ b T).length<=T.length:=List.length_filter_le _ _
theorem Finds.keepM {w w':World} {n1:Nat} {v:Value} {fs:List Fnd} {vr vn vm vh vs:Value} {b:Built} {A:List (List Int)} (hk:KeepM (126 :: esF) w w') (h:Finds w n1 v fs vr vn vm vh vs b A) : Finds w' n1 v fs vr vn vm vh vs b A :=
 ⟨zCR hk.cells (by simp) h.row,h.len,fun k h1 h2=>(h.at_ k h1 h2).keepM ⟨hk.cells.sub (fun e he=>List.mem_cons_of_mem _ he),hk.maps⟩⟩
theorem truths_val (w:World) (ar an:Option Addr) (nr cr nn cn:Nat) : Calls prog 107 #[.agg #[.slice ar nr cr,.slice an nn cn]] w fun e w'=>e = .returned (.func (.func 149) #[] #[.pointer (some ⟨w.heap.size,0,none⟩)])/\w'=w.alloc (.cells #[.slice ar nr cr,.slice an nn cn] 27):=by
 go_enter func107,ntmps107;go_wp2;go_ret;exact ⟨rfl,rfl⟩
theorem infoFnd:(prog.info? 126).map (fun i=>(i.zero,i.size,i.bytes))=some (some (.agg #[.pointer none,.slice none 0 0]),2,32):=by kernel_rfl
structure OpenO (w W:World) (B5 n1:Nat) (vr vn vm vh vs:Value) (b:Built) (T:List (List Int)) : Prop where
 below:Below w.heap.size w W
 box:Lay W w.heap.size #[vr,vn,.int .i64 b.of,vm,vh,vs] 32
 row:∃ v fs,Lay W B5 #[v] 120/\Finds W n1 v fs vr vn vm vh vs b (zHJ b T)
theorem OpenO.grow {w W W':World} {B5 n1:Nat} {vr vn vm vh vs:Value} {b:Built} {T:List (List Int)} (hb:Below W.heap.size W W') (h:OpenO w W B5 n1 vr vn vm vh vs b T) : OpenO w W' B5 n1 vr vn vm vh vs b T:=by
 obtain ⟨h1,hx,v,fs,h2,h3⟩:=h;exact ⟨zA h1 hb,hx.ext hb,v,fs,h2.ext hb,h3.keepM (zBW hb)⟩
theorem OpenO.no {w W:World} {B5 n1:Nat} {vr vn vm vh vs:Value} {b:Built} {T:List (List Int)} {S:List Int} (hn:¬ zCV b S) (h:OpenO w W B5 n1 vr vn vm vh vs b T) : OpenO w W B5 n1 vr vn vm vh vs b (T++[S]):=by
 obtain ⟨h1,hx,v,fs,h2,h3⟩:=h;exact ⟨h1,hx,v,fs,h2,by rw [leftOf_no hn];exact h3⟩
theorem zOR (w:World) (vr vn vm vh vs:Value) (b:Built) (hA:BuiltArg w vr vn vm vh vs b) (hK:KindsAt w) :
  Calls prog 55 #[.agg #[vr,vn,.int .i64 b.of,vm,vh,vs]] w fun e w'=>Below w.heap.size w w'/\∃ v,e = .returned (.tuple #[v,.int .i64 (zF b)])/\(∃ a n c,v = .slice a n c) /\
   (zF b=0->∃ n1 fs,Finds w' n1 v fs vr vn vm vh vs b (zAQ b)/\fs.length<=32):=by
 obtain ⟨f0,hff,fz0,fz1,fz2⟩:=info_parts infoFnd;obtain ⟨ar,cr,rfl,_⟩:=zD hA.at_.reg;obtain ⟨an,cn,rfl,_⟩:=zD hA.at_.notes;obtain ⟨am,cm,rfl,_⟩:=zD hA.at_.ms;obtain ⟨ah,ch,rfl,_⟩:=zD hA.at_.hs;obtain ⟨as',cs',rfl,_⟩:=zD hA.at_.rs;have hb1:=zB w (.cells #[.slice ar b.ns.reg.length cr,.slice an b.ns.notes.length cn,.int .i64 b.of,.slice am b.ms.length cm,.slice ah b.hs.length ch,.slice as' b.rs.length cs'] 32);have hbox:=Lay.new w 32 #[.slice ar b.ns.reg.length cr,.slice an b.ns.notes.length cn,.int .i64 b.of,.slice am b.ms.length cm,.slice ah b.hs.length ch,.slice as' b.rs.length cs'];have HA0:=zE hA;have HK0:=zE hK;have HA:=zE (hA.ext hb1);have HK:=zE (hK.ext hb1);have HB1:=zE hb1;have HBOX:=zE hbox;clear hA hK hb1 hbox;refine (callsIn_wide (n:=3)).1 ?_;refine callsIn_of_wp_marks func55 rfl trivial ?_ rfl;simp only [ntmps55,List.size_toArray,List.length_cons,List.length_nil,Nat.reduceAdd,Nat.reduceSub,Array.replicate_succ,Array.replicate_zero,List.push_toArray,List.append_toArray,List.nil_append,List.cons_append];by_cases hv:zF b=0
 case neg =>
  have hv':(zF b != 0)=true:=by simpa using hv
  have HV:=zE hv;clear hv;gi_wp2_with (refine ⟨trivial,?_⟩;gi_at_call 87;refine (callsIn_wide.2 (zET _ _ _ _ _ _ b HA.out)).mono ?_;rintro e w2 ⟨rfl,hb2⟩)
  refine ⟨.tuple #[.slice none 0 0,.int .i64 (zF b)],by simp [results,results55,go_sem],zA HB1.out hb2,_,rfl,⟨none,0,0,rfl⟩,fun h=>absurd h HV.out⟩
 case pos =>
  have HV:=zE hv;clear hv;gi_wp2_with (first | (refine ⟨trivial,?_⟩;gi_at_call 87;refine (callsIn_wide.2 (zET _ _ _ _ _ _ b HA.out)).mono ?_;rintro e w2 ⟨rfl,hb2⟩;rw [HV.out];have hl2:=(HBOX.out.ext hb2).alloc (.cells #[.slice none 0 0] 120);have k0:=hl2.cell 0 _ rfl;have k1:=hl2.cell 1 _ rfl) | (refine ⟨trivial,?_⟩;gi_at_call 107;refine (callsIn_wide.2 (truths_val _ _ _ _ _ _ _)).mono ?_;rintro e w3 ⟨rfl,rfl⟩))
  have hbn:=zB w2 (.cells #[.slice none 0 0] 120);have hbm:=zB (w2.alloc (.cells #[.slice none 0 0] 120)) (.cells #[.slice ar b.ns.reg.length cr,.slice an b.ns.notes.length cn] 27);have hL5:=(Lay.new w2 120 #[.slice none 0 0]).alloc (.cells #[.slice ar b.ns.reg.length cr,.slice an b.ns.notes.length cn] 27);have hsz:(w2.alloc (.cells #[.slice none 0 0] 120)).heap.size=w2.heap.size+1:=World.size_alloc _ _;have hLn:=Lay.new (w2.alloc (.cells #[.slice none 0 0] 120)) 27 #[.slice ar b.ns.reg.length cr,.slice an b.ns.notes.length cn];rw [hsz] at hLn;have hbW:=zA hb2 (zA hbn hbm);have HA2:=zE (HA.out.ext hbW);have HK2:=zE (HK.out.ext hbW);have HBOX2:=zE (HBOX.out.ext hbW);have HBW:=zE (zA HB1.out hbW);have hl5:=hL5.lt;have hw52:w.heap.size < w2.heap.size:=by have h:=hb2.size;rw [World.size_alloc] at h;omega
  clear k0 k1 hl2 hb2 hbn hbm hbW hsz;generalize (w2.alloc _).alloc _=W0 at *;have hO0:OpenO w W0 w2.heap.size w2.heap.size (.slice ar b.ns.reg.length cr) (.slice an b.ns.notes.length cn) (.slice am b.ms.length cm) (.slice ah b.hs.length ch) (.slice as' b.rs.length cs') b [] :=
   ⟨HBW.out,HBOX2.out,.slice none 0 0,[],hL5,World.ownsRow_nil _ _ _ _,rfl,fun k hk=>absurd hk (by simp)⟩
  have hvp:=zS HV.out;have hok:=(zBJ hvp.1).2;refine zJH (α:=List Int×Value) (n:=3) rfl (by decide) (gf:=149) (lb:=#[.pointer (some ⟨w2.heap.size+1,0,none⟩)]) rfl trivial (enters_of func149 (by kernel_rfl) rfl)
   (zPZ 2 (by decide) W0 (w2.heap.size+1) _ b.ns.reg b.ns.notes (hLn.cell 1 _ rfl) HA2.out.at_.notes hok)
   (fun x W l o o' h1 h2 hg=>⟨hg.1.keep (zOD o' h1 h2),hg.2⟩) kpT_t (fun W l o o' _ h hc _=>kpT_b W l o o' h hc) (br_) (fun _=>rfl)
   (fun (pre:List (List Int×Value)) W=>OpenO w W w2.heap.size w2.heap.size (.slice ar b.ns.reg.length cr) (.slice an b.ns.notes.length cn) (.slice am b.ms.length cm) (.slice ah b.hs.length ch) (.slice as' b.rs.length cs') b (pre.map (fun t:List Int×Value=>t.1)))
   (fun _ _ _=>False)
   ⟨fun _ _ _ h hb=>OpenO.grow hb h,fun _ W l o o' h hB hl ho hw=>by
    obtain ⟨h1,hx,v,fs,h2,h3⟩:=h;exact ⟨h1.trans (belowK_b (w:=w) (Nat.le_refl _) W l o o' (by have:=HBW.out.size;omega) hl ho hw),(zFM o' hl ho hw (es:=[32])).cells _ _ _ _ (by simp) hx,v,fs,(zFM o' hl ho hw (es:=[120])).cells _ _ _ _ (by simp) h2,h3.keepM (zFM o' hl ho hw)⟩⟩
   (fun _=>⟨fun _ _ _ h _=>h,fun _ _ _ _ _ h _ _ _ _=>h⟩)
   hO0
   (fun x=>{ tmps:=#[.agg #[.slice ar b.ns.reg.length cr,.slice an b.ns.notes.length cn,.int .i64 b.of,.slice am b.ms.length cm,.slice ah b.hs.length ch,.slice as' b.rs.length cs'],.pointer (some ⟨w.heap.size,0,none⟩),.slice none 0 0,.int .i64 0,.int .i64 0,.pointer (some ⟨w2.heap.size,0,none⟩),x.2,undef,undef,undef,.agg #[.slice ar b.ns.reg.length cr,.slice an b.ns.notes.length cn,.int .i64 b.of,.slice am b.ms.length cm,.slice ah b.hs.length ch,.slice as' b.rs.length cs'],.int .i64 0,.int .i64 0,.bool false,undef,.pointer (some ⟨w.heap.size,0,none⟩),.agg #[.slice ar b.ns.reg.length cr,.slice an b.ns.notes.length cn],.func (.func 149) #[] #[.pointer (some ⟨w2.heap.size+1,0,none⟩)],x.2,undef,undef,undef,undef,undef,undef,undef,undef,undef,undef,undef,undef,undef,undef,undef,undef,undef,undef],defers:=[] }) ?assign ?body ?done ?stop
  case assign =>intro l x W K hK;simp [List.zip_toArray];gi_wp2;exact hK
  case body =>
   rintro l0 pre ⟨t,vt⟩ W hO hG hlen;obtain ⟨hbW,hbx,v,fs,hl5W,hF⟩:=hO;obtain ⟨hont,hIsT⟩:=hG;simp only at hont hIsT ⊢;have HAW:=zE (HA0.out.ext hbW);have HKW:=zE (HK0.out.ext hbW);have HBX:=zE hbx;have HL5:=zE hl5W;have HF:=zE hF;have HBWW:=zE hbW;have HON:=zE hont;have HIT:=zE hIsT;have k0:=hbx.cell 0 _ rfl;have k1:=hbx.cell 1 _ rfl;have k2:=hbx.cell 2 _ rfl;have k3:=hbx.cell 3 _ rfl;have k4:=hbx.cell 4 _ rfl;have k5:=hbx.cell 5 _ rfl;have hrs:Hid (∀ r∈b.rs,zCE b.ns.reg b.ms r):=fun r hr=>zGQ HV.out hr
   have hmap:Hid ((pre++[(t,vt)]).map (fun t=>t.1)=pre.map (fun t=>t.1)++[t]):=by unfold Hid;rw [List.map_append];rfl
   have hfl:=leftOf_len b (pre.map (fun t=>t.1));rw [List.length_map] at hfl;clear hO0 hl5W hF hbW hont hIsT hbx hvp hok;cases hsL:zJO b t with
   | none =>
     have HN:=zE (zMR HV.out hsL);have HSL:Hid (zCD b t (zDP b) b.rs=none):=hsL;clear hsL;gi_wp2_with (
      first
      | (refine ⟨trivial,?_⟩
         gi_at_call 108
         refine (CallsIn.inRound l0 (callsIn_wide.2 (zIU W _ _ _ _ _ vt b t HAW.out HON.out.now HV.out HIT.out))).mono ?_;rintro e W1 ⟨p,rfl,hmem,hb1⟩;have hsite:SiteAt W1 p _ _ _ _ _ vt b t:=⟨hmem.row,(HAW.out.ext hb1).at_,(HON.out.ext hb1).now⟩;have hleft:=left_site W1 p _ _ _ _ _ vt _ b t b.rs hsite (HKW.out.ext hb1) HV.out (HAW.out.ext hb1).at_.rs hrs.out;rw [HSL.out] at hleft;have k5:=(HBX.out.ext hb1).cell 5 _ rfl;clear hmem hsite)
      | (refine ⟨trivial,?_⟩
         gi_at_call 109
         refine (CallsIn.inRound l0 (callsIn_wide.2 hleft)).mono ?_;rintro e W2 ⟨hb2,rfl⟩))
     have hb:=zA hb1 hb2;have hE:=OpenO.no HN.out (OpenO.grow hb ⟨HBWW.out,HBX.out,v,fs,HL5.out,HF.out⟩);rw [<- hmap.out] at hE;exact ⟨(zDD hb).from _,zBM hb,hE⟩
   | some L =>
     have HN:=zE (zFK HV.out hsL);have HSL:Hid (zCD b t (zDP b) b.rs=some L):=hsL;have HSI:=zE hsL;obtain ⟨a0,c0,rfl⟩:=zDC HF.out.row;clear hsL;gi_wp2_with (
      first
      | (refine ⟨trivial,?_⟩
         gi_at_call 108
         refine (CallsIn.inRound l0 (callsIn_wide.2 (zIU W _ _ _ _ _ vt b t HAW.out HON.out.now HV.out HIT.out))).mono ?_;rintro e W1 ⟨p,rfl,hmem,hb1⟩;have hsite:SiteAt W1 p _ _ _ _ _ vt b t:=⟨hmem.row,(HAW.out.ext hb1).at_,(HON.out.ext hb1).now⟩;have hleft:=left_site W1 p _ _ _ _ _ vt _ b t b.rs hsite (HKW.out.ext hb1) HV.out (HAW.out.ext hb1).at_.rs hrs.out;rw [HSL.out] at hleft;have k5:=(HBX.out.ext hb1).cell 5 _ rfl;have HME:=zE hmem;clear hmem hsite)
      | (refine ⟨trivial,?_⟩
         gi_at_call 109
         refine (CallsIn.inRound l0 (callsIn_wide.2 hleft)).mono ?_;rintro e W2 ⟨hb2,v2,base,rfl,hown2,hnum2,aL,cL,rfl⟩;have hb:=zA hb1 hb2;have hl5:=HL5.out.ext hb;have c5:=hl5.cell 0 _ rfl;have HL52:=zE hl5;have HF2:=zE (HF.out.keepM (zBW hb));have HME2:=zE (HME.out.keepM (zBW hb2));have HC2:=zE (And.intro hown2 hnum2);have hsz2:=(zA HBWW.out hb).size;have hl52:=hl5.lt;have hc2:∀ j u,[Value.pointer (some ⟨p,0,none⟩),.slice aL L.length cL][j]? = some u->(W2.alloc (.cells #[.pointer (some ⟨p,0,none⟩),.slice aL L.length cL] 126)).cell? ((⟨W2.heap.size,0,none⟩ : Addr).add j)=some u:=fun j u hj=>by
          rw [zAZ];exact zR W2 #[.pointer (some ⟨p,0,none⟩),.slice aL L.length cL] _ j u (by simpa using hj)
         clear hl5 hown2 hnum2)
      | (gi_at_builtin
         refine wpListIn_append_own _ rfl _ _ 120 rfl w2.heap.size 126 f0 (.agg #[.pointer none,.slice none 0 0]) 2 32 underlying120 hff fz0 fz1 fz2 rfl (by decide) _ _ _ rfl (HF2.out.row.alloc _) ⟨W2.heap.size,0,none⟩ 1 1 [.pointer (some ⟨p,0,none⟩),.slice aL L.length cL] rfl rfl hc2 (by intro u hu;simp at hu;rcases hu with rfl | rfl <;> rfl) (by unfold maxLen;have:=HF.out.len;omega) (by have:=HF.out.len;omega) (by simp;omega) ?_;intro v' W4 hown' hgrow _;obtain ⟨a9,c9,rfl⟩:=zDC hown';have hba:=zB W2 (.cells #[.pointer (some ⟨p,0,none⟩),.slice aL L.length cL] 126);have hK5:zFL [120,32] W2 W4:=(zBM hba).trans (zBX hgrow (HF2.out.row.alloc _) (by decide));have hl4:Lay W4 w2.heap.size _ _:=hK5 _ _ _ _ (by simp) HL52.out;have c6:=hl4.cell 0 _ rfl;have cf:=hl4.frozen 0;have cl:=hl4.lt;have HL4:=zE hl4;have HK5:=zE hK5;have hkM:KeepM esF W2 W4:=(zBW hba).trans (keepM_grown hgrow (HF2.out.row.alloc _) (by decide));have HKM:=zE hkM;have HOW:=zE (And.intro hown' (And.intro hgrow hba));clear hl4 hK5 hkM hown' hgrow hba))
     have hb:=zA hb1 hb2;have hyes:=HN.out.1;have hown4:=HOW.out.1;have hgrow:=HOW.out.2.1;have hba:=HOW.out.2.2;have hnB:w.heap.size≠w2.heap.size:=by omega
     have hkS:KeepM (126 :: esF) W4 (W4.setCell ⟨w2.heap.size,0,none⟩ (.slice a9 (fs.length+1) c9)):=keepM_set HL4.out (by decide);have hkF:KeepM esF W2 (W4.setCell ⟨w2.heap.size,0,none⟩ (.slice a9 (fs.length+1) c9)):=HKM.out.trans ⟨hkS.cells.sub (fun e he=>List.mem_cons_of_mem _ he),hkS.maps⟩;have hbx5:=HBX.out.ext hb;have hE:OpenO w (W4.setCell ⟨w2.heap.size,0,none⟩ (.slice a9 (fs.length+1) c9)) w2.heap.size w2.heap.size (.slice ar b.ns.reg.length cr) (.slice an b.ns.notes.length cn) (.slice am b.ms.length cm) (.slice ah b.hs.length ch) (.slice as' b.rs.length cs') b (pre.map (fun t=>t.1)++[t]):=by
      refine ⟨zI (Nat.le_of_lt hw52) ((zA (zA HBWW.out hb) hba).grown hgrow (zA (zA HBWW.out hb) hba).size (fun r e=>Nat.le_trans (Nat.le_of_lt hw52) (HF2.out.row.lt r e).1)),?_,.slice a9 (fs.length+1) c9,fs++[⟨p,aL,L.length,cL⟩],zCF HL4.out 0 _,?_,?_,?_⟩
      ·have h4:Lay W4 w.heap.size _ _:=HK5.out _ _ _ _ (by simp) hbx5;exact zFX h4 hnB 0 _
      ·rw [List.flatMap_append,List.flatMap_singleton,List.length_append];exact zCR hkS.cells (by simp) hown4
      ·rw [zOH hyes,List.length_append,List.length_append,HF2.out.len];rfl
      ·intro k h1 h2
       by_cases e:k < fs.length
       ·have e2:k < (zHJ b (pre.map (fun t=>t.1))).length:=by rw [<- HF2.out.len];exact e
        have e3:(zHJ b (pre.map (fun t=>t.1)++[t]))[k]=(zHJ b (pre.map (fun t=>t.1)))[k]:=by simp only [zOH hyes];exact List.getElem_append_left e2
        rw [List.getElem_append_left e,e3];exact (HF2.out.at_ k e e2).keepM hkF
       ·have ek:k=fs.length:=by simp at h1;omega
        subst ek;have e3:(zHJ b (pre.map (fun t=>t.1)++[t]))[fs.length]=t:=by simp only [zOH hyes];rw [List.getElem_append_right (by rw [HF2.out.len];exact Nat.le_refl _)];simp
        have e4:(fs++[(⟨p,aL,L.length,cL⟩ : Fnd)])[fs.length]=⟨p,aL,L.length,cL⟩:=by rw [List.getElem_append_right (Nat.le_refl _)];simp
        rw [e3,e4];exact ⟨⟨vt,HME2.out.keepM hkF,(HON.out.ext hb).keep (hkF.cells.sub (by simp))⟩,L,base,HSI.out,rfl,zCR hkF.cells (by simp) HC2.out.1,HC2.out.2⟩
     rw [<- hmap.out] at hE;refine ⟨(((zDD hb).trans (zDD hba)).trans ((keeps_own hgrow (HF2.out.row.alloc _)).trans (KeepsOthers.setCell _ _ _))).from _,?_,hE⟩;exact ((zBM hb).trans ((zBM hba).trans (zBX hgrow (HF2.out.row.alloc _) (by decide)))).trans (keepT_set HL4.out (by decide))
  case done =>rintro D xs W hD ⟨⟨hS1,hS2⟩,hlen⟩ hO hKD;obtain ⟨hbW,hbx,v,fs,hl5W,hF⟩:=hO;obtain ⟨a0,c0,rfl⟩:=zDC hF.row;have c5:=hl5W.cell 0 _ rfl;have hll:=leftOf_is (b:=b) hS1 hS2;have hfl:=leftOf_len b (xs.map (fun t=>t.1));rw [List.length_map] at hfl;have HF:=zE hF;have HLL:=zE hll;have HFN:=zE hF.len;clear hF hll hbx hO0;gi_wp2;refine ⟨by simp,.inl ⟨_,_,rfl,run_takeDeferred hKD,?_⟩⟩;refine ⟨.tuple #[.slice a0 fs.length c0,.int .i64 0],by simp [results,results55,go_sem],hbW.trans (belowK_b (w:=w) (Nat.le_refl _) W D _ _ (by have:=HBW.out.size;omega) hKD rfl rfl),_,by rw [HV.out],⟨_,_,_,rfl⟩,fun _=>⟨w2.heap.size,fs,?_,by have:=HFN.out;omega⟩⟩;rw [HLL.out];exact HF.out.keepM (zFM _ hKD rfl rfl)
  case stop =>rintro D c pre W _ _ h _;exact h.elim
end
section
open Tryz
open Go.RowKit Go.Shelf
attribute [local go_sem] zAE Oper.grows Oper.growUpon
open Classical in
noncomputable def zJL (b:Built) (c:Int) : Int:=if zF b≠0 then zF b else if c≠0 then c else if zAQ b=[] then 8 else 0
theorem zKR (w:World) (vr vn vm vh vs:Value) (b:Built) (g:Nat) (fv:Array Value) (c:Int) (hA:BuiltArg w vr vn vm vh vs b) (hK:KindsAt w) (eg:∀ args w,(callFunc g args).run prog w = .ok (.enter g args) w)
  (hcall:zF b=0->∀ w',Below w.heap.size w w'->Calls prog g fv w' fun e w''=>e = .returned (.int .i64 c)/\Below w'.heap.size w' w'') :
  Calls prog 59 #[.agg #[vr,vn,.int .i64 b.of,vm,vh,vs],.func (.func g) #[] fv] w fun e w'=>Below w.heap.size w w'/\∃ v,e = .returned (.tuple #[v,.int .i64 (zJL b c)])/\(∃ a n c,v = .slice a n c) /\
   (zJL b c=0->∃ n1 fs,Finds w' n1 v fs vr vn vm vh vs b (zAQ b)/\fs.length<=32/\0 < fs.length):=by
 obtain ⟨ar,cr,rfl,_⟩:=zD hA.at_.reg;obtain ⟨an,cn,rfl,_⟩:=zD hA.at_.notes;obtain ⟨am,cm,rfl,_⟩:=zD hA.at_.ms;obtain ⟨ah,ch,rfl,_⟩:=zD hA.at_.hs;obtain ⟨as',cs',rfl,_⟩:=zD hA.at_.rs;have hb1:=zB w (.cells #[.slice ar b.ns.reg.length cr,.slice an b.ns.notes.length cn,.int .i64 b.of,.slice am b.ms.length cm,.slice ah b.hs.length ch,.slice as' b.rs.length cs'] 32);have hop:=zOR _ _ _ _ _ _ b (hA.ext hb1) (hK.ext hb1);have HB1:=zE hb1;clear hb1;have HC:=zE hcall;clear hcall;go_enter func59,ntmps59;by_cases hv:zF b=0
 case neg =>
  have hv':(zF b != 0)=true:=by simpa using hv
  have hs:Hid (zJL b c=zF b):=by unfold Hid zJL;rw [if_pos hv]
  have HV:=zE hv;clear hv;go_wp2_with (go_at_call 55;refine hop.mono ?_;rintro e w2 ⟨hb2,v,rfl,⟨a,n,q,rfl⟩,_⟩);go_ret2;exact ⟨zA HB1.out hb2,_,by rw [hs.out];rfl,⟨_,_,_,rfl⟩,fun h=>absurd (hs.out.symm.trans h) HV.out⟩
 case pos =>
  have HV:=zE hv;clear hv;by_cases hc:c=0
  case neg =>
   have hc':(c != 0)=true:=by simpa using hc
   have hs:Hid (zJL b c=c):=by unfold Hid zJL;rw [if_neg (by simp [HV.out]),if_pos hc]
   have HCC:=zE hc;clear hc;go_wp2_with (
    first
    | (go_at_call 55;refine hop.mono ?_;rintro e w2 ⟨hb2,v,rfl,⟨a,n,q,rfl⟩,_⟩;rw [HV.out];have hcall:=HC.out HV.out w2 (zA HB1.out hb2))
    | (go_at_fn g;refine hcall.mono ?_;rintro e w3 ⟨rfl,hb3⟩))
   go_ret2;exact ⟨zA HB1.out (zA hb2 hb3),_,by rw [hs.out];rfl,⟨_,_,_,rfl⟩,fun h=>absurd (hs.out.symm.trans h) HCC.out⟩
  case pos =>
   subst hc;have hsz:Hid (zJL b 0=if zAQ b=[] then 8 else 0):=by unfold Hid zJL;rw [if_neg (by simp [HV.out]),if_neg (by simp)]
   by_cases hl:zAQ b=[]
   ·have hs:Hid (zJL b 0=8):=by unfold Hid;rw [hsz.out,if_pos hl]
    have HL:=zE hl;clear hl hsz;go_wp2_with (
     first
     | (go_at_call 55;refine hop.mono ?_;rintro e w2 ⟨hb2,v,rfl,⟨a,n,q,rfl⟩,hf⟩;rw [HV.out];have hcall:=HC.out HV.out w2 (zA HB1.out hb2);have hn:n=0:=(by obtain ⟨n1,fs,hF,_⟩:=hf HV.out;obtain ⟨a2,c2,h2⟩:=zDC hF.row;cases h2;rw [hF.len,HL.out];rfl);subst hn;clear hf)
     | (go_at_fn g;refine hcall.mono ?_;rintro e w3 ⟨rfl,hb3⟩))
    go_ret2;exact ⟨zA HB1.out (zA hb2 hb3),_,by rw [hs.out];rfl,⟨_,_,_,rfl⟩,fun h=>by rw [hs.out] at h;cases h⟩
   ·have hs:Hid (zJL b 0=0):=by unfold Hid;rw [hsz.out,if_neg hl]
    have HL:=zE hl;clear hl hsz;go_wp2_with (
     first
     | (go_at_call 55;refine hop.mono ?_;rintro e w2 ⟨hb2,v,rfl,⟨a,n,q,rfl⟩,hf⟩;rw [HV.out];have hcall:=HC.out HV.out w2 (zA HB1.out hb2);obtain ⟨n1,fs,hF,h32⟩:=hf HV.out;obtain ⟨a2,c2,h2⟩:=zDC hF.row;cases h2;have hfl:=hF.len;have hpos:0 < fs.length:=(by rw [hfl];exact List.length_pos_iff.2 HL.out);have hnz:¬ ((fs.length:Int)=0):=(by omega);have HF:=zE hF;clear hf hF hfl)
     | (go_at_fn g;refine hcall.mono ?_;rintro e w3 ⟨rfl,hb3⟩))
    go_ret2;exact ⟨zA HB1.out (zA hb2 hb3),_,by rw [hs.out];rfl,⟨_,_,_,rfl⟩,fun _=>⟨n1,fs,HF.out.keepM (zBW hb3),h32,hpos⟩⟩
theorem enter_pieces2:Enters prog 70:=enters_of func70 (by kernel_rfl) rfl
theorem enter_parts2:Enters prog 82:=enters_of func82 (by kernel_rfl) rfl
theorem tell_pieces (w:World) (x:Fnd) (ga gr:Nat) (vr vn vm vh vs vz:Value) (b:Built) (S:List Int) (L:List Span) (i:Nat) (m d l:Int) (hF:FoundAt w x.p vr vn vm vh vs vz (.slice x.a x.n x.c) b S L) (hv:zF b=0) (hL:zJO b S=some L) (hm:b.ms[i]? = some m) (hix:b.ms.idxOf m=i) (hd:d∈nums b.ns.reg) (hd64:I64 d)
  (hga:zK w ga 0 (.int .i64 i)) (hgr:zK w gr 0 (.int .i64 d)/\zK w gr 1 (.int .i64 l)) :
  Calls prog 70 (#[.agg #[.pointer (some ⟨x.p,0,none⟩),.slice x.a x.n x.c]] ++ #[.pointer (some ⟨ga,0,none⟩),.pointer (some ⟨gr,0,none⟩)]) w fun e w'=>∃ u xs,e = .returned u/\Sl zAM 1 w' u xs/\(∀ y,y∈xs↔y∈zOP b S m d l)/\0 < xs.length/\xs.length<=2/\Below w.heap.size w w':=by
 have hb1:=zB w (.cells #[.pointer (some ⟨x.p,0,none⟩),.slice x.a x.n x.c] 126);have hcall:=foundPieces (w.alloc (.cells #[.pointer (some ⟨x.p,0,none⟩),.slice x.a x.n x.c] 126)) x.p vr vn vm vh vs vz _ b S L i m d l (hF.ext hb1) hv hL hm hix hd hd64;have ca:=zC hb1 hga;have cb:=zC hb1 hgr.1;have cc:=zC hb1 hgr.2;unfold zK at ca cb cc;have HB1:=zE hb1;clear hF hv hL hm hix hd hga hgr hb1;go_enter func70,ntmps70;go_wp2_with (go_at_call 71;refine hcall.mono ?_;rintro e w2 ⟨u,xs,rfl,h1,h2,⟨h3,h4⟩,hb2⟩;have H:=zE (And.intro h1 (And.intro h2 (And.intro h3 (And.intro h4 (zA HB1.out hb2)))));clear h1 h2 h3 h4);go_ret;exact ⟨u,xs,rfl,H.out.1,H.out.2.1,H.out.2.2.1,H.out.2.2.2.1,H.out.2.2.2.2⟩
theorem tell_parts (w:World) (x:Fnd) (ga gr:Nat) (vr vn vm vh vs vz:Value) (b:Built) (S:List Int) (L:List Span) (i:Nat) (m d l:Int) (hF:FoundAt w x.p vr vn vm vh vs vz (.slice x.a x.n x.c) b S L) (hv:zF b=0) (hL:zJO b S=some L) (hm:b.ms[i]? = some m) (hix:b.ms.idxOf m=i) (hd:d∈nums b.ns.reg) (hd64:I64 d)
  (hga:zK w ga 0 (.int .i64 i)) (hgr:zK w gr 0 (.int .i64 d)/\zK w gr 1 (.int .i64 l)) :
  Calls prog 82 (#[.agg #[.pointer (some ⟨x.p,0,none⟩),.slice x.a x.n x.c]] ++ #[.pointer (some ⟨ga,0,none⟩),.pointer (some ⟨gr,0,none⟩)]) w fun e w'=>∃ u xs,e = .returned u/\Sl zAM 1 w' u xs/\(∀ y,y∈xs↔y∈zOP b S m d l)/\0 < xs.length/\xs.length<=2/\Below w.heap.size w w':=by
 have hb1:=zB w (.cells #[.pointer (some ⟨x.p,0,none⟩),.slice x.a x.n x.c] 126);have hcall:=foundPieces (w.alloc (.cells #[.pointer (some ⟨x.p,0,none⟩),.slice x.a x.n x.c] 126)) x.p vr vn vm vh vs vz _ b S L i m d l (hF.ext hb1) hv hL hm hix hd hd64;have ca:=zC hb1 hga;have cb:=zC hb1 hgr.1;have cc:=zC hb1 hgr.2;unfold zK at ca cb cc;have HB1:=zE hb1;clear hF hv hL hm hix hd hga hgr hb1;go_enter func82,ntmps82;go_wp2_with (go_at_call 71;refine hcall.mono ?_;rintro e w2 ⟨u,xs,rfl,h1,h2,⟨h3,h4⟩,hb2⟩;have H:=zE (And.intro h1 (And.intro h2 (And.intro h3 (And.intro h4 (zA HB1.out hb2)))));clear h1 h2 h3 h4);go_ret;exact ⟨u,xs,rfl,H.out.1,H.out.2.1,H.out.2.2.1,H.out.2.2.2.1,H.out.2.2.2.2⟩
theorem over_pieces (w:World) (g ga gr:Nat) (v vr vn vm vh vs:Value) (n1:Nat) (fs:List Fnd) (b:Built) (i:Nat) (m d l:Int) (eg:∀ args w,(callFunc g args).run prog w = .ok (.enter g args) w)
  (htell:∀ (w:World) (x:Fnd) (vz:Value) (S:List Int) (L:List Span),FoundAt w x.p vr vn vm vh vs vz (.slice x.a x.n x.c) b S L->zJO b S=some L->zK w ga 0 (.int .i64 i)->(zK w gr 0 (.int .i64 d)/\zK w gr 1 (.int .i64 l)) ->
   Calls prog g (#[.agg #[.pointer (some ⟨x.p,0,none⟩),.slice x.a x.n x.c]] ++ #[.pointer (some ⟨ga,0,none⟩),.pointer (some ⟨gr,0,none⟩)]) w fun e w'=>∃ u xs,e = .returned u/\Sl zAM 1 w' u xs/\(∀ y,y∈xs↔y∈zOP b S m d l)/\0 < xs.length/\xs.length<=2/\Below w.heap.size w w')
  (hF:Finds w n1 v fs vr vn vm vh vs b (zAQ b)) (hB:BuiltAt w vr vn vm vh vs b) (h0:0 < fs.length) (h32:fs.length<=32) (hga:zK w ga 0 (.int .i64 i)) (hgr:zK w gr 0 (.int .i64 d)/\zK w gr 1 (.int .i64 l)) :
  Calls prog 62 #[v,.func (.func g) #[] #[.pointer (some ⟨ga,0,none⟩),.pointer (some ⟨gr,0,none⟩)]] w fun e w'=>e = .returned (.agg #[.int .i64 (zAU b (zAQ b) m d l).lo,.int .i64 (zAU b (zAQ b) m d l).hi])/\Below w.heap.size w w':=by
 have h:=zPM w v g #[.pointer (some ⟨ga,0,none⟩),.pointer (some ⟨gr,0,none⟩)] fs (fun k=>zOP b ((zAQ b).getD k []) m d l) (zMP hF.row) eg h0 h32 (fun k hk w' hb=>by
  have hk':k < (zAQ b).length:=by rw [<- hF.len];exact hk
  obtain ⟨vz,L,hFo,hL⟩:=(hF.at_ k hk hk').found hB;have e:(zAQ b).getD k []=(zAQ b)[k]:=by rw [List.getD_eq_getElem?_getD,List.getElem?_eq_getElem hk'];rfl
  rw [e];exact htell w' fs[k] vz _ L (hFo.ext hb) hL (zC hb hga) ⟨zC hb hgr.1,zC hb hgr.2⟩)
 rw [hF.len,zON (fun S=>zOP b S m d l)] at h;exact h
theorem someC_right (b:Built) (m d l:Int) : zJL b (rightC b.ns.reg (zKD b.ms m) d l)=zAS b m d l:=by
 have h8:=builtCode_8 b;unfold zJL zAS zBK rightC orI zKD;by_cases hv:zF b=0
 ·by_cases hm:m∈b.ms
  ·by_cases hp:zFO b.ns.reg d l
   ·have hp':=(zGT _ _ _).2 hp;by_cases hl:zAQ b=[] <;> simp [hv,hm,hp,hp',hl]
   ·have hp':partB b.ns.reg d l=false:=by simpa using fun h=>hp ((zGT _ _ _).1 h)
    by_cases hl:zAQ b=[] <;> simp [hv,hm,hp,hp',hl]
  ·simp [hv,hm]
 ·simp [hv,h8.1,h8.2]
theorem zKA {b:Built} (hv:zF b=0) : zX b.ns.reg=0/\∀ x∈b.ns.reg,In x.k 1 3:=by
 have hz:=(zBJ (zS hv).1).1;refine ⟨hz,fun x hx=>?_⟩;obtain ⟨k,hk,rfl⟩:=List.getElem_of_mem hx;exact (((zAW hz).2.1 k hk).1 hk).1.2.2.1
theorem pieces_ok {b:Built} {m d l:Int} (h:zAS b m d l=0) : zF b=0/\m∈b.ms/\zFO b.ns.reg d l:=by
 by_cases ha:zBK b m=0\/zBK b m=8
 ·obtain ⟨h1,h2⟩:=ask_ok ha;refine ⟨h1,h2,Classical.byContradiction fun hp=>?_⟩;unfold zAS at h;rw [if_pos ⟨ha,hp⟩] at h;cases h
 ·unfold zAS at h;rw [if_neg (fun hh=>ha hh.1)] at h;exact absurd (.inl h) ha
theorem zKB (w:World) (vr vn vm vh vs:Value) (b:Built) (m d l:Int) (hA:BuiltArg w vr vn vm vh vs b) (hK:KindsAt w) (hd64:I64 d) :
  Calls prog 22 #[.agg #[vr,vn,.int .i64 b.of,vm,vh,vs],.int .i64 m,.agg #[.int .i64 d,.int .i64 l]] w fun e w'=>e = .returned (.tuple #[.agg #[.int .i64 (zBE b m d l).lo,.int .i64 (zBE b m d l).hi],.int .i64 (zAS b m d l)])/\Below w.heap.size w w':=by
 obtain ⟨ar,cr,rfl,_⟩:=zD hA.at_.reg;obtain ⟨an,cn,rfl,_⟩:=zD hA.at_.notes;obtain ⟨am,cm,rfl,_⟩:=zD hA.at_.ms;obtain ⟨ah,ch,rfl,_⟩:=zD hA.at_.hs;obtain ⟨as',cs',rfl,_⟩:=zD hA.at_.rs;have hb1:=zB w (.cells #[.slice ar b.ns.reg.length cr,.slice an b.ns.notes.length cn,.int .i64 b.of,.slice am b.ms.length cm,.slice ah b.hs.length ch,.slice as' b.rs.length cs'] 32);have hbox:=Lay.new w 32 #[.slice ar b.ns.reg.length cr,.slice an b.ns.notes.length cn,.int .i64 b.of,.slice am b.ms.length cm,.slice ah b.hs.length ch,.slice as' b.rs.length cs'];have hl1:(w.alloc (.cells #[.slice ar b.ns.reg.length cr,.slice an b.ns.notes.length cn,.int .i64 b.of,.slice am b.ms.length cm,.slice ah b.hs.length ch,.slice as' b.rs.length cs'] 32)).heap.size=w.heap.size+1:=World.size_alloc _ _;generalize hw0:w.alloc (.cells #[.slice ar b.ns.reg.length cr,.slice an b.ns.notes.length cn,.int .i64 b.of,.slice am b.ms.length cm,.slice ah b.hs.length ch,.slice as' b.rs.length cs'] 32)=w0 at hb1 hbox hl1;have hb2:=zB w0 (.cells #[.int .i64 d,.int .i64 l] 45);have href:=Lay.new w0 45 #[.int .i64 d,.int .i64 l];have hl2:=World.size_alloc w0 (.cells #[.int .i64 d,.int .i64 l] 45);rw [hl1] at href hl2;have hb3:=zB (w0.alloc (.cells #[.int .i64 d,.int .i64 l] 45)) (.cells #[.int .i64 0,.int .i64 0] 40);have hres:=Lay.new (w0.alloc (.cells #[.int .i64 d,.int .i64 l] 45)) 40 #[.int .i64 0,.int .i64 0];have hl3:=World.size_alloc (w0.alloc (.cells #[.int .i64 d,.int .i64 l] 45)) (.cells #[.int .i64 0,.int .i64 0] 40);rw [hl2] at hres hl3;have HBW:=zE (zA hb1 (zA hb2 hb3));have HBOX:=zE ((hbox.ext hb2).ext hb3);have HREF:=zE (href.ext hb3);have HRES:=zE hres;have HA:=zE (hA.ext HBW.out);have HK:=zE (hK.ext HBW.out);clear hb1 hb2 hb3 hbox href hres hl2 hA hK;subst hw0;have c3:=HBOX.out.cell 3 _ rfl;go_enter func22,ntmps22;go_wp2_with fail;generalize ((w.alloc _).alloc _).alloc _=w1 at *;refine (zJX w1 _ b.ms m HA.out.at_.ms).mono ?_;rintro e w' ⟨rfl,rfl⟩;have hb4:=zB w1 (.cells #[.int .i64 (zKD b.ms m)] 3);have hat:=Lay.new w1 3 #[.int .i64 (zKD b.ms m)];rw [hl3] at hat;have HAT:=zE hat;have HBOX:=zE (HBOX.out.ext hb4);have HREF:=zE (HREF.out.ext hb4);have HRES:=zE (HRES.out.ext hb4);have HA:=zE (HA.out.ext hb4);have HK:=zE (HK.out.ext hb4);have HBW:=zE (zA HBW.out hb4);have k0:=HBOX.out.cell 0 _ rfl;have k1:=HBOX.out.cell 1 _ rfl;have k2:=HBOX.out.cell 2 _ rfl;have k3:=HBOX.out.cell 3 _ rfl;have k4:=HBOX.out.cell 4 _ rfl;have k5:=HBOX.out.cell 5 _ rfl;clear hb4 hat c3;go_wp2_with fail;clear k0 k1 k2 k3 k4 k5 hl1 hl3;generalize w1.alloc _=w5 at *;have hright:zF b=0->∀ w',Below w5.heap.size w5 w'->Calls prog 67 #[.pointer (some ⟨w.heap.size+1+1+1,0,none⟩),.pointer (some ⟨w.heap.size,0,none⟩),.pointer (some ⟨w.heap.size+1,0,none⟩)] w' fun e w''=>e = .returned (.int .i64 (rightC b.ns.reg (zKD b.ms m) d l))/\Below w'.heap.size w' w'' :=
  fun hv w' hb=>right1_built w' _ _ _ _ b.ns.reg (zKD b.ms m) d l (zC hb (HAT.out.cell 0 _ rfl)) (zC hb (HBOX.out.cell 0 _ rfl)) ⟨zC hb (HREF.out.cell 0 _ rfl),zC hb (HREF.out.cell 1 _ rfl)⟩ (HA.out.notes.reg.ext hb) (zKA hv).1 (zKA hv).2
 refine (zKR w5 _ _ _ _ _ b 67 _ (rightC b.ns.reg (zKD b.ms m) d l) HA.out HK.out enter_right hright).mono ?_;clear hright;rintro e w2 ⟨hb2,v,rfl,⟨a,n,q,rfl⟩,hf⟩;rw [someC_right] at hf ⊢;have HF:=zE hf;have HAT:=zE (HAT.out.ext hb2);have HREF:=zE (HREF.out.ext hb2);have HRES:=zE (HRES.out.ext hb2);have HA:=zE (HA.out.ext hb2);have HBW:=zE (zA HBW.out hb2);clear hf hb2;by_cases hc:zAS b m d l=0
 case neg =>
  have hc':(zAS b m d l != 0)=true:=by simpa using hc
  have hS:Hid (zBE b m d l=⟨0,0⟩):=by unfold Hid zBE;rw [if_neg hc]
  have z0:=HRES.out.cell 0 _ rfl;have z1:=HRES.out.cell 1 _ rfl;have zf0:=HRES.out.frozen 0;have zf1:=HRES.out.frozen 1;have zl:=HRES.out.lt;clear hc;go_wp2;refine bodyPost_ret (v:=.tuple #[.agg #[.int .i64 0,.int .i64 0],.int .i64 (zAS b m d l)]) (by simp [results,results22,go_sem,z0,z1,zl]) rfl ?_;exact ⟨by rw [hS.out],zI (by omega) (zI (by omega) HBW.out)⟩
 case pos =>
  have hS:Hid (zBE b m d l=zAU b (zAQ b) m d l):=by unfold Hid zBE;rw [if_pos hc]
  have HC:=zE hc;obtain ⟨hv,hm,hp⟩:=pieces_ok hc;have hdn:=zMS (zAW (zKA hv).1) hp;have hi:b.ms.idxOf m < b.ms.length:=List.idxOf_lt_length_of_mem hm;have hmi:b.ms[b.ms.idxOf m]? = some m:=by rw [List.getElem?_eq_getElem hi,List.getElem_idxOf]
  obtain ⟨n1,fs,hFi,h32,hpos⟩:=HF.out hc;have hcall:=over_pieces w2 70 (w.heap.size+1+1+1) (w.heap.size+1) _ _ _ _ _ _ n1 fs b (b.ms.idxOf m) m d l enter_pieces2
   (fun w' x vz S L h1 h2 h3 h4=>tell_pieces w' x _ _ _ _ _ _ _ vz b S L _ m d l h1 hv h2 hmi rfl hdn hd64 h3 h4) hFi HA.out.at_ hpos h32 (by rw [<- idxI_is hm];exact HAT.out.cell 0 _ rfl) ⟨HREF.out.cell 0 _ rfl,HREF.out.cell 1 _ rfl⟩
  rw [hc];clear hc hv hm hp hdn hi hmi hFi h32 hpos HF;go_wp2_with (go_at_call 62;refine hcall.mono ?_;rintro e w3 ⟨rfl,hb3⟩;have HRES:=zE (HRES.out.ext hb3);have HBW:=zE (zA HBW.out hb3);have z0:=HRES.out.cell 0 _ rfl;have z1:=HRES.out.cell 1 _ rfl;have zf0:=HRES.out.frozen 0;have zf1:=HRES.out.frozen 1;have zl:=HRES.out.lt;clear hcall hb3);refine bodyPost_ret (v:=.tuple #[.agg #[.int .i64 (zAU b (zAQ b) m d l).lo,.int .i64 (zAU b (zAQ b) m d l).hi],.int .i64 0]) (by simp [results,results22,go_sem,z0,z1,zl]) rfl ?_;exact ⟨by rw [hS.out,HC.out],zI (by omega) (zI (by omega) HBW.out)⟩
end
section
open Tryz
open Go.RowKit
theorem refs_rise {R:List Issue} (h:∀ k,k < R.length->zHI R k) : ∀ i j,(hij:i < j)->(hj:j < R.length)->have hi:i < R.length:=Nat.lt_trans hij hj;R[i].d < R[j].d\/(R[i].d=R[j].d/\R[i].l < R[j].l):=by
 intro i j hij;induction j with
 | zero=>omega
 | succ j ih =>
   intro hj;have h1:=(h (j+1) hj hj).2 (by omega);simp only [Nat.add_sub_cancel] at h1;by_cases e:i=j
   ·subst e
    rcases h1 with h1 | h1
    ·exact .inl h1.1
    ·exact .inr ⟨h1.1,by omega⟩
   ·have h2:=ih (by omega) (by omega);rcases h1 with h1 | h1 <;> rcases h2 with h2 | h2 <;> omega
theorem zKM {R:List Issue} (h:∀ k,k < R.length->zHI R k) {i j:Nat} (hi:i < R.length) (hj:j < R.length) (hd:R[i].d=R[j].d) (hl:R[i].l=R[j].l) : i=j:=by
 rcases Nat.lt_trichotomy i j with e | e | e
 ·have:=refs_rise h i j e hj;omega
 ·exact e
 ·have:=refs_rise h j i e hi;omega
theorem find_self {R:List Issue} (h:∀ k,k < R.length->zHI R k) {k:Nat} (hk:k < R.length) : zCQ R R[k].d R[k].l=some R[k] :=
 findR_at R _ _ k hk (by simp [zEV]) (fun j hj hjl=>by
  by_cases e:zEV R[k].d R[k].l R[j]=true
  ·unfold zEV at e;simp at e;have:=zKM h hjl hk e.1 e.2;omega
  ·simpa using e)
theorem part_at {R:List Issue} (h:∀ k,k < R.length->zHI R k) {k:Nat} (hk:k < R.length) : zFO R R[k].d R[k].l↔1 < R[k].k:=by
 unfold zFO;rw [find_self h hk];constructor
 ·rintro ⟨x,hx,h1⟩;cases hx;exact h1
 ·intro h1;exact ⟨_,rfl,h1⟩
theorem ends_nn {b:Built} (h:zF b=0) (S:List Int) (m d l:Int) : ∀ y∈zOP b S m d l,0<=y:=by
 have hc:=zJP h S m d;have ho:∀ bef n:Int,0<=oldC bef (zZ b S m d).c n/\oldC bef (zZ b S m d).c n<=(zZ b S m d).c:=fun bef n=>by unfold oldC;omega
 have hh:∀ o:Int,0<=o->o<=(zZ b S m d).c->0<=zGH (zZ b S m d) l o:=fun o h0 h1=>by
  unfold zGH;split
  ·omega
  ·split <;> omega
 intro y hy;unfold zOP at hy;simp only [List.mem_cons,List.not_mem_nil,or_false] at hy;rcases hy with rfl | rfl
 ·split
  ·exact hh _ (by omega) (by omega)
  ·exact hh _ (ho _ _).1 (ho _ _).2
 ·split
  ·exact hh _ (by omega) (by omega)
  ·exact hh _ (ho _ _).1 (ho _ _).2
theorem piecesR_nn {b:Built} (h:zF b=0) (A:List (List Int)) (m d l:Int) : 0<=(zAU b A m d l).hi:=by
 unfold zAU;have key:∀ y∈A.flatMap (fun S=>zOP b S m d l),0<=y:=fun y hy=>by
  obtain ⟨S,_,hy⟩:=List.mem_flatMap.1 hy;exact ends_nn h S m d l y hy
 generalize A.flatMap (fun S=>zOP b S m d l)=xs at *;by_cases he:xs=[]
 ·subst he;exact Int.le_refl _
 ·exact key _ (zGS he).2.1
noncomputable def spV (b:Built) (m d l:Int) : Value:=.agg #[.int .i64 (zAU b (zAQ b) m d l).lo,.int .i64 (zAU b (zAQ b) m d l).hi]
open Classical in
noncomputable def zJJ (b:Built) (m:Int) (k:Nat) (d l:Int) : Option Value :=
 if ∃ j,j < k/\∃ hj:j < b.ns.reg.length,b.ns.reg[j].d=d/\b.ns.reg[j].l=l/\zBQ b m b.ns.reg[j]≠[] then some (spV b m d l) else none
theorem partF_zero (b:Built) (m d l:Int) : zJJ b m 0 d l=none:=by unfold zJJ;rw [if_neg];rintro ⟨j,hj,_⟩;omega
theorem partF_yes {b:Built} {m:Int} {k:Nat} (hk:k < b.ns.reg.length) (hy:zBQ b m b.ns.reg[k]≠[]) (y z:Int) : (if y=b.ns.reg[k].d/\z=b.ns.reg[k].l then some (spV b m b.ns.reg[k].d b.ns.reg[k].l) else zJJ b m k y z)=zJJ b m (k+1) y z:=by
 by_cases e:y=b.ns.reg[k].d/\z=b.ns.reg[k].l
 ·obtain ⟨rfl,rfl⟩:=e;rw [if_pos ⟨rfl,rfl⟩];unfold zJJ;rw [if_pos ⟨k,by omega,hk,rfl,rfl,hy⟩]
 ·rw [if_neg e]
  unfold zJJ;have hiff:(∃ j,j < k/\∃ hj:j < b.ns.reg.length,b.ns.reg[j].d=y/\b.ns.reg[j].l=z/\zBQ b m b.ns.reg[j]≠[])↔(∃ j,j < k+1/\∃ hj:j < b.ns.reg.length,b.ns.reg[j].d=y/\b.ns.reg[j].l=z/\zBQ b m b.ns.reg[j]≠[]):=by
   constructor
   ·rintro ⟨j,h1,h2⟩;exact ⟨j,by omega,h2⟩
   ·rintro ⟨j,h1,h2,h3,h4,h5⟩
    by_cases ej:j=k
    ·subst ej;exact absurd ⟨h3.symm,h4.symm⟩ e
    ·exact ⟨j,by omega,h2,h3,h4,h5⟩
  by_cases hc:∃ j,j < k/\∃ hj:j < b.ns.reg.length,b.ns.reg[j].d=y/\b.ns.reg[j].l=z/\zBQ b m b.ns.reg[j]≠[]
  ·rw [if_pos hc,if_pos (hiff.1 hc)]
  ·rw [if_neg hc,if_neg (fun h=>hc (hiff.2 h))]
theorem partF_no {b:Built} (ho:∀ k,k < b.ns.reg.length->zHI b.ns.reg k) {m:Int} {k:Nat} (hk:k < b.ns.reg.length) (hy:zBQ b m b.ns.reg[k]=[]) (v:Value) (y z:Int) :
  (if y=b.ns.reg[k].d/\z=b.ns.reg[k].l then none else (if y=b.ns.reg[k].d/\z=b.ns.reg[k].l then some v else zJJ b m k y z))=zJJ b m (k+1) y z:=by
 by_cases e:y=b.ns.reg[k].d/\z=b.ns.reg[k].l
 ·rw [if_pos e];obtain ⟨rfl,rfl⟩:=e;unfold zJJ;rw [if_neg];rintro ⟨j,h1,h2,h3,h4,h5⟩;have:=zKM ho h2 hk h3 h4;subst this;exact h5 hy
 ·rw [if_neg e,if_neg e]
  unfold zJJ;have hiff:(∃ j,j < k/\∃ hj:j < b.ns.reg.length,b.ns.reg[j].d=y/\b.ns.reg[j].l=z/\zBQ b m b.ns.reg[j]≠[])↔(∃ j,j < k+1/\∃ hj:j < b.ns.reg.length,b.ns.reg[j].d=y/\b.ns.reg[j].l=z/\zBQ b m b.ns.reg[j]≠[]):=by
   constructor
   ·rintro ⟨j,h1,h2⟩;exact ⟨j,by omega,h2⟩
   ·rintro ⟨j,h1,h2,h3,h4,h5⟩
    by_cases ej:j=k
    ·subst ej;exact absurd ⟨h3.symm,h4.symm⟩ e
    ·exact ⟨j,by omega,h2,h3,h4,h5⟩
  by_cases hc:∃ j,j < k/\∃ hj:j < b.ns.reg.length,b.ns.reg[j].d=y/\b.ns.reg[j].l=z/\zBQ b m b.ns.reg[j]≠[]
  ·rw [if_pos hc,if_pos (hiff.1 hc)]
  ·rw [if_neg hc,if_neg (fun h=>hc (hiff.2 h))]
theorem partF_all {b:Built} (ho:∀ k,k < b.ns.reg.length->zHI b.ns.reg k) {m:Int} {k:Nat} (hk:k < b.ns.reg.length) :
  (zBQ b m b.ns.reg[k]≠[]->zJJ b m b.ns.reg.length b.ns.reg[k].d b.ns.reg[k].l=some (spV b m b.ns.reg[k].d b.ns.reg[k].l))/\(zBQ b m b.ns.reg[k]=[]->zJJ b m b.ns.reg.length b.ns.reg[k].d b.ns.reg[k].l=none):=by
 constructor
 ·intro h;unfold zJJ;rw [if_pos ⟨k,hk,hk,rfl,rfl,h⟩]
 ·intro h;unfold zJJ;rw [if_neg];rintro ⟨j,h1,h2,h3,h4,h5⟩;have:=zKM ho h2 hk h3 h4;subst this;exact h5 h
theorem someC_ask (b:Built) (m:Int) : zJL b (if 0<=zKD b.ms m then 0 else 2)=zBK b m:=by
 unfold zJL zBK zKD;by_cases hv:zF b=0
 ·by_cases hm:m∈b.ms
  ·by_cases hl:zAQ b=[] <;> simp [hv,hm,hl]
  ·simp [hv,hm]
 ·simp [hv]
end
section
open Tryz
open Classical in
noncomputable def zJY (b:Built) (S:List Int) (h:Int) : Int :=
 if zF b=0 then (if IsT (zBO b.ns.notes) S then (if In h 0 ((b.hs.length:Int) - 1) then (if zCV b S then 0 else 8) else 2) else 31) else zF b
noncomputable def zQQ (b:Built) (S:List Int) (h:Int) : Span:=if zJY b S h=0 then (zEM b S h.toNat).getD ⟨0,0⟩ else ⟨0,0⟩
theorem tell_of {b:Built} {S:List Int} {h c:Int} (e:zJY b S h=c) (hc:c≠0) : zJY b S h=c/\zQQ b S h=⟨0,0⟩:=⟨e,by unfold zQQ;rw [if_neg (by omega)]⟩
theorem tell_bad {b:Built} {S:List Int} {h:Int} (hv:zF b≠0) : zJY b S h=zF b/\zQQ b S h=⟨0,0⟩:=tell_of (by unfold zJY;rw [if_neg hv]) hv
theorem tell_no {b:Built} {S:List Int} {h:Int} (hv:zF b=0) (hT:¬ IsT (zBO b.ns.notes) S) : zJY b S h=31/\zQQ b S h=⟨0,0⟩:=tell_of (by unfold zJY;rw [if_pos hv,if_neg hT]) (by decide)
theorem tell_arg {b:Built} {S:List Int} {h:Int} (hv:zF b=0) (hT:IsT (zBO b.ns.notes) S) (hh:¬ In h 0 ((b.hs.length:Int) - 1)) : zJY b S h=2/\zQQ b S h=⟨0,0⟩:=tell_of (by unfold zJY;rw [if_pos hv,if_pos hT,if_neg hh]) (by decide)
theorem tell_out {b:Built} {S:List Int} {h:Int} (hv:zF b=0) (hT:IsT (zBO b.ns.notes) S) (hh:In h 0 ((b.hs.length:Int) - 1)) (hl:¬ zCV b S) : zJY b S h=8/\zQQ b S h=⟨0,0⟩ :=
 tell_of (by unfold zJY;rw [if_pos hv,if_pos hT,if_pos hh,if_neg hl]) (by decide)
theorem tell_ok {b:Built} {S:List Int} {k:Nat} (hv:zF b=0) (hT:IsT (zBO b.ns.notes) S) (hh:In (k:Int) 0 ((b.hs.length:Int) - 1)) (hl:zCV b S) : zJY b S k=0/\zQQ b S k=(zEM b S k).getD ⟨0,0⟩:=by
 have e:zJY b S k=0:=by unfold zJY;rw [if_pos hv,if_pos hT,if_pos hh,if_pos hl]
 exact ⟨e,by unfold zQQ;rw [if_pos e];rfl⟩
theorem ord_exists:∀ A:List (List Int),A.Nodup->∃ B,Ord B/\∀ l,l∈B↔l∈A
 | [],_=>⟨[],List.Pairwise.nil,fun _=>Iff.rfl⟩
 | x :: A,h=>by
   obtain ⟨hx,hA⟩:=List.nodup_cons.1 h;obtain ⟨B,h1,h2⟩:=ord_exists A hA;refine ⟨B.filter (fun y=>zFV y x)++x :: B.filter (fun y=>!zFV y x),?_,fun l=>?_⟩
   ·unfold Ord at h1 ⊢
    rw [List.pairwise_append,List.pairwise_cons];have hz:∀ z∈B.filter (fun y=>!zFV y x),zFV x z=true:=fun z hz=>by
     obtain ⟨h3,h4⟩:=List.mem_filter.1 hz;have h4:zFV z x=false:=by simpa using h4
     cases h5:zFV x z with
     | true=>rfl
     | false=>exact absurd ((h2 z).1 h3) (by rw [zMM z x h4 h5];exact hx)
    refine ⟨h1.filter _,⟨hz,h1.filter _⟩,fun y hy z hz'=>?_⟩;have h3:zFV y x=true:=by simpa using (List.mem_filter.1 hy).2
    rcases List.mem_cons.1 hz' with rfl | h4
    ·exact h3
    ·exact befL_tr y x z h3 (hz z h4)
   ·rw [List.mem_append,List.mem_cons,List.mem_filter,List.mem_filter,List.mem_cons,h2]
    cases h3:zFV l x <;> simp [h3] <;> constructor <;> rintro (h | h) <;> simp [h]
theorem zFQ {b:Built} (hv:zF b=0) : zND b (zAQ b):=by
 classical
 have hnd:=zHF (zBJ (zS hv).1).2;obtain ⟨B,h1,h2⟩:=ord_exists (zQD (zBO b.ns.notes)) (allP_nodup hnd);have hB:zND b (B.filter (fun S=>decide (zCV b S))):=⟨h1.filter _,fun l=>by rw [List.mem_filter,h2,allP_mem hnd];simp⟩;rw [leftL_is hB];exact hB
end
section
open Tryz
open Go.RowKit
theorem zNA {b:Built} (m:Int) {d l:Int} (hp:zFO b.ns.reg d l) : zAS b m d l=zBK b m:=by unfold zAS;rw [if_neg (fun hh=>hh.2 hp)]
theorem zRH {b:Built} {m d l:Int} (ha:zBK b m=0) (hp:zFO b.ns.reg d l) : zBE b m d l=zAU b (zAQ b) m d l:=by unfold zBE;rw [if_pos (by rw [zNA m hp];exact ha)]
end
end Go.Proofs.YtipaopbmklbmnaaGreatDoor
