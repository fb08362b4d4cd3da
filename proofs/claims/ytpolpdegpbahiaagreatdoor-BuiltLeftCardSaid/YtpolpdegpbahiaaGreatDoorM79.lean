/- The law's walk: what was handed in stays, and true is answered. -/
import Derived.Shelf.RegionOpen
import Derived.Test.YtpolpdegpbahiaaGreatDoorM08
import Derived.Test.YtpolpdegpbahiaaGreatDoorM76
import Derived.Test.YtpolpdegpbahiaaGreatDoorM77
import Derived.Test.YtpolpdegpbahiaaGreatDoorM78
set_option linter.all false
set_option maxRecDepth 100000
set_option maxHeartbeats 12800000

namespace Go.Proofs.YtpolpdegpbahiaaGreatDoor
open Tryz
section
open Go.RowKit Go.Shelf
attribute [local go_sem] zAN Oper.grows Oper.growUpon Oper.semAt_some
def AtSite (vr vn vm vh vs:Value) (b:Built) (w:World) (g o:Nat) (x:Nat×List Int) : Prop:=zJ w g o (.pointer (some ⟨x.1,0,none⟩))∧∃ vz,SiteAt w x.1 vr vn vm vh vs vz b x.2
theorem zRA (vr vn vm vh vs:Value) (b:Built) : zHU (AtSite vr vn vm vh vs b):=fun _ _ _ _ _ hb ⟨h0,vz,h1⟩=>⟨zC hb h0,vz,h1.ext hb⟩
def ptrV (p:Nat) : Value:=.pointer (some ⟨p,0,none⟩)
def SiteIn (w:World) (vr vn vm vh vs:Value) (b:Built) (p:Nat) (S:List Int) : Prop:=∃ vz,zJH w p vr vn vm vh vs vz b S∧OnT [3] (fun w=>Sl zAJ 1 w vz S) w
theorem SiteIn.keepM {w w':World} {vr vn vm vh vs:Value} {b:Built} {p:Nat} {S:List Int} (hk:KeepM esF w w') (h:SiteIn w vr vn vm vh vs b p S) : SiteIn w' vr vn vm vh vs b p S:=by
 obtain ⟨vz,h1,h2⟩:=h
 exact ⟨vz,h1.keepM hk,h2.keep (hk.cells.sub (by simp))⟩
structure SitesF (w:World) (n1:Nat) (v:Value) (vr vn vm vh vs:Value) (b:Built) (xs:List (Nat×List Int)) : Prop where
 row:w.ownsRow n1 92 1 v xs.length (xs.map fun x=>ptrV x.1)
 at_:∀ x∈xs,SiteIn w vr vn vm vh vs b x.1 x.2
theorem SitesF.keepM {w w':World} {n1:Nat} {v:Value} {vr vn vm vh vs:Value} {b:Built} {xs:List (Nat×List Int)} (hk:KeepM (92 :: esF) w w') (h:SitesF w n1 v vr vn vm vh vs b xs) : SitesF w' n1 v vr vn vm vh vs b xs :=
 ⟨zGF hk.cells (by simp) h.row,fun x hx=>(h.at_ x hx).keepM ⟨hk.cells.sub (fun e he=>List.mem_cons_of_mem _ he),hk.maps⟩⟩
theorem SitesF.sl {w:World} {n1:Nat} {v:Value} {vr vn vm vh vs:Value} {b:Built} {xs:List (Nat×List Int)} (h:SitesF w n1 v vr vn vm vh vs b xs) (hB:BuiltAt w vr vn vm vh vs b) : Sl (AtSite vr vn vm vh vs b) 1 w v xs:=by
 have h':=h.row
 obtain ⟨_,h2⟩:=h.row
 rcases h2 with ⟨rfl,hn⟩ | ⟨g,cap,cur,rfl,_,_,hc,hcm,_⟩
 ·exact ⟨none,0,by rw [hn],by omega,fun k hk=>by omega⟩
 ·refine ⟨some ⟨g,0,none⟩,cap,rfl,by unfold maxLen at hcm;omega,fun k hk=>⟨g,0,rfl,?_,?_⟩⟩
  ·have:=h'.cells (g:=g) rfl k (ptrV xs[k].1) (by simp [hk])
   rw [zBP] at this
   unfold zJ
   simpa [ptrV] using this
  ·obtain ⟨vz,h1,h3⟩:=h.at_ _ (List.getElem_mem hk)
   exact ⟨vz,h1.row,hB,h3.now⟩
def VisAt (w:World) (vr vn vm vh vs vt:Value) (b:Built) (t:List Int) (v:Value) : Prop:=∃ p,v=ptrV p∧zJH w p vr vn vm vh vs vt b t
def SlVis (w:World) (vr vn vm vh vs vt:Value) (b:Built) (t:List Int) (v:Value) : Prop:=∃ g p,v = .slice (some ⟨g,0,none⟩) 1 1∧zJ w g 0 (ptrV p)∧zJH w p vr vn vm vh vs vt b t
theorem infoPtr:(prog.info? 92).map (fun i=>(i.zero,i.size,i.bytes))=some (some (.pointer none),1,8):=by kernel_rfl
structure SitesO (w W:World) (B5 n1:Nat) (vr vn vm vh vs:Value) (b:Built) (T:List (List Int)) : Prop where
 below:Below w.heap.size w W
 box:Lay W w.heap.size #[vr,vn,.int .i64 b.of,vm,vh,vs] 32
 row:∃ v xs,Lay W B5 #[v] 149∧SitesF W n1 v vr vn vm vh vs b xs∧xs.map (·.2)=T
theorem SitesO.grow {w W W':World} {B5 n1:Nat} {vr vn vm vh vs:Value} {b:Built} {T:List (List Int)} (hb:Below W.heap.size W W') (h:SitesO w W B5 n1 vr vn vm vh vs b T) : SitesO w W' B5 n1 vr vn vm vh vs b T:=by
 obtain ⟨h1,hx,v,xs,h2,h3,h4⟩:=h
 exact ⟨zA h1 hb,hx.ext hb,v,xs,h2.ext hb,h3.keepM (zFA hb),h4⟩
theorem sites_built (w:World) (vr vn vm vh vs:Value) (b:Built) (hA:BuiltArg w vr vn vm vh vs b) (hv:zM b=0) :
  Calls prog 81 #[.agg #[vr,vn,.int .i64 b.of,vm,vh,vs]] w fun e w'=>Below w.heap.size w w'∧∃ v xs,e = .returned v∧Sl (AtSite vr vn vm vh vs b) 1 w' v xs∧∀ S,(∃ x∈xs,x.2=S)↔IsT (zCA b.ns.notes) S:=by
 obtain ⟨f0,hff,fz0,fz1,fz2⟩:=info_parts infoPtr
 obtain ⟨ar,cr,rfl,_⟩:=zD hA.at_.reg
 obtain ⟨an,cn,rfl,_⟩:=zD hA.at_.notes
 obtain ⟨am,cm,rfl,_⟩:=zD hA.at_.ms
 obtain ⟨ah,ch,rfl,_⟩:=zD hA.at_.hs
 obtain ⟨as',cs',rfl,_⟩:=zD hA.at_.rs
 have hb1:=zB w (.cells #[.slice ar b.ns.reg.length cr,.slice an b.ns.notes.length cn,.int .i64 b.of,.slice am b.ms.length cm,.slice ah b.hs.length ch,.slice as' b.rs.length cs'] 32)
 have hbox:=Lay.new w 32 #[.slice ar b.ns.reg.length cr,.slice an b.ns.notes.length cn,.int .i64 b.of,.slice am b.ms.length cm,.slice ah b.hs.length ch,.slice as' b.rs.length cs']
 have hz1:(w.alloc (.cells #[.slice ar b.ns.reg.length cr,.slice an b.ns.notes.length cn,.int .i64 b.of,.slice am b.ms.length cm,.slice ah b.hs.length ch,.slice as' b.rs.length cs'] 32)).heap.size=w.heap.size+1:=World.size_alloc _ _
 have HA0:=zF hA
 have HA:=zF (hA.ext hb1)
 have HB1:=zF hb1
 have HBOX:=zF hbox
 have HV:=zF hv
 have hmx:prog.follows .mixedOrders=true:=by kernel_rfl
 clear hA hb1 hbox hv
 refine (callsIn_wide (n:=3)).1 ?_
 refine callsIn_of_wp_marks func81 rfl trivial ?_ rfl
 simp only [ntmps81,List.size_toArray,List.length_cons,List.length_nil,Nat.reduceAdd,Nat.reduceSub,Array.replicate_succ,Array.replicate_zero,List.push_toArray,List.append_toArray,List.nil_append,List.cons_append]
 have hl2:=HBOX.out.alloc (.cells #[.slice none 0 0] 149)
 have k0:=hl2.cell 0 _ rfl
 have k1:=hl2.cell 1 _ rfl
 gi_wp2_with (refine ⟨trivial,?_⟩;gi_at_call 98;refine (callsIn_wide.2 (truths_val _ _ _ _ _ _ _)).mono ?_;rintro e w3 ⟨rfl,rfl⟩)
 clear k0 k1 hl2
 generalize hw2:w.alloc _=w2 at *
 have hbn:=zB w2 (.cells #[.slice none 0 0] 149)
 have hbm:=zB (w2.alloc (.cells #[.slice none 0 0] 149)) (.cells #[.slice ar b.ns.reg.length cr,.slice an b.ns.notes.length cn] 27)
 have hL5:=(Lay.new w2 149 #[.slice none 0 0]).alloc (.cells #[.slice ar b.ns.reg.length cr,.slice an b.ns.notes.length cn] 27)
 have hsz:(w2.alloc (.cells #[.slice none 0 0] 149)).heap.size=w2.heap.size+1:=World.size_alloc _ _
 have hLn:=Lay.new (w2.alloc (.cells #[.slice none 0 0] 149)) 27 #[.slice ar b.ns.reg.length cr,.slice an b.ns.notes.length cn]
 rw [hsz] at hLn
 have hbW:=zA hbn hbm
 rw [hz1] at hL5 hLn
 have HA2:=zF (HA.out.ext hbW)
 have HBOX2:=zF (HBOX.out.ext hbW)
 have HBW:=zF (zA HB1.out hbW)
 have hl5:=hL5.lt
 have hw52:w.heap.size < w.heap.size+1:=by omega
 clear hbn hbm hbW hsz
 generalize (w2.alloc _).alloc _=W0 at *
 have hO0:SitesO w W0 (w.heap.size+1) (w.heap.size+1) (.slice ar b.ns.reg.length cr) (.slice an b.ns.notes.length cn) (.slice am b.ms.length cm) (.slice ah b.hs.length ch) (.slice as' b.rs.length cs') b [] :=
  ⟨HBW.out,HBOX2.out,.slice none 0 0,[],hL5,⟨World.ownsRow_nil _ _ _ _,fun x hx=>by simp at hx⟩,rfl⟩
 have hvp:=zW HV.out
 have hok:=(zAS hvp.1).2
 refine zPE (α:=List Int×Value) (n:=3) rfl (by decide) (gf:=131) (lb:=#[.pointer (some ⟨w.heap.size+1+1,0,none⟩)]) rfl trivial (enters_of func131 (by kernel_rfl) rfl)
  (zRW 2 (by decide) W0 (w.heap.size+1+1) _ b.ns.reg b.ns.notes (hLn.cell 1 _ rfl) HA2.out.at_.notes hok)
  (fun x W l o o' h1 h2 hg=>⟨hg.1.keep (zRK o' h1 h2),hg.2⟩) kpT_t (fun W l o o' _ h hc _=>kpT_b W l o o' h hc) (br_) (fun _=>rfl)
  (fun (pre:List (List Int×Value)) W=>SitesO w W (w.heap.size+1) (w.heap.size+1) (.slice ar b.ns.reg.length cr) (.slice an b.ns.notes.length cn) (.slice am b.ms.length cm) (.slice ah b.hs.length ch) (.slice as' b.rs.length cs') b (pre.map (fun t:List Int×Value=>t.1)))
  (fun _ _ _=>False)
  ⟨fun _ _ _ h hb=>SitesO.grow hb h,fun _ W l o o' h hB hl ho hw=>by
   obtain ⟨h1,hx,v,xs,h2,h3,h4⟩:=h
   exact ⟨h1.trans (belowK_b (w:=w) (Nat.le_refl _) W l o o' (by have:=HBW.out.size;omega) hl ho hw),(zMB o' hl ho hw (es:=[32])).cells _ _ _ _ (by simp) hx,v,xs,(zMB o' hl ho hw (es:=[149])).cells _ _ _ _ (by simp) h2,h3.keepM (zMB o' hl ho hw),h4⟩⟩
  (fun _=>⟨fun _ _ _ h _=>h,fun _ _ _ _ _ h _ _ _ _=>h⟩)
  hO0
  (fun x=>{ tmps:=#[.agg #[.slice ar b.ns.reg.length cr,.slice an b.ns.notes.length cn,.int .i64 b.of,.slice am b.ms.length cm,.slice ah b.hs.length ch,.slice as' b.rs.length cs'],.pointer (some ⟨w.heap.size,0,none⟩),.slice none 0 0,.pointer (some ⟨w.heap.size+1,0,none⟩),x.2,.pointer (some ⟨w.heap.size,0,none⟩),.agg #[.slice ar b.ns.reg.length cr,.slice an b.ns.notes.length cn],.func (.func 131) #[] #[.pointer (some ⟨w.heap.size+1+1,0,none⟩)],x.2,undef,undef,undef,undef,undef,undef,undef],defers:=[] }) ?assign ?body ?done ?stop
 case assign =>
  intro l x W K hK
  simp [List.zip_toArray]
  gi_wp2
  exact hK
 case body =>
  rintro l0 pre ⟨t,vt⟩ W hO hG hlen
  obtain ⟨hbW,hbx,v,xs,hl5W,hF,hT⟩:=hO
  obtain ⟨hont,hIsT⟩:=hG
  simp only at hont hIsT ⊢
  have HAW:=zF (HA0.out.ext hbW)
  have HBX:=zF hbx
  have HL5:=zF hl5W
  have HF:=zF hF
  have HBWW:=zF hbW
  have HON:=zF hont
  have HIT:=zF hIsT
  have HXL:Hid (xs.length=pre.length):=zF <| by
   have:=congrArg List.length hT
   simpa using this
  have HT:=zF hT
  obtain ⟨a0,c0,rfl⟩:=zGR HF.out.row
  have hsite:=zF (fun W' (hb:Below W.heap.size W W')=>zMU W' _ _ _ _ _ vt b t (HAW.out.ext hb) (HON.out.ext hb).now HV.out HIT.out)
  have k0:=hbx.cell 0 _ rfl
  have k1:=hbx.cell 1 _ rfl
  have k2:=hbx.cell 2 _ rfl
  have k3:=hbx.cell 3 _ rfl
  have k4:=hbx.cell 4 _ rfl
  have k5:=hbx.cell 5 _ rfl
  have k6:=hl5W.cell 0 _ rfl
  clear hbx hl5W hF hbW hont hIsT hO0
  have c0:=zG k0
  have c1:=zG k1
  have c2:=zG k2
  have c3:=zG k3
  have c4:=zG k4
  have c5:=zG k5
  have c6:=zG k6
  gi_wp2
  clear k0 k1 k2 k3 k4 k5 k6
  refine zRD 5 (fun ⟨_,_,h⟩=>h) (by kernel_rfl) (by kernel_rfl) (by kernel_rfl) ?_
  simp only [tk_]
  iterate 3 (apply gx_;focus (intro vs xq hd;(try simp [hq_] at hd);simp only [pf_];go_simp;exact ⟨br_,rfl⟩))
  refine zL (fun v w'=>Hid (VisAt w' (.slice ar b.ns.reg.length cr) (.slice an b.ns.notes.length cn) (.slice am b.ms.length cm) (.slice ah b.hs.length ch) (.slice as' b.rs.length cs') vt b t v)) (fun v w1 w' hb ⟨p,e,h⟩=>zF ⟨p,e,h.keepM (zFA hb)⟩) ?_ ?_
  ·intro vs xq hd
   (try simp [hq_] at hd)
   simp only [pf_]
   go_simp
   refine (hsite.out (W.later xq) (zE W xq)).mono ?_
   rintro e w9 ⟨p,rfl,hm,hb9⟩
   exact ⟨_,rfl,hb9,zF ⟨p,rfl,hm⟩⟩
  refine zL (fun v w'=>Hid (SlVis w' (.slice ar b.ns.reg.length cr) (.slice an b.ns.notes.length cn) (.slice am b.ms.length cm) (.slice ah b.hs.length ch) (.slice as' b.rs.length cs') vt b t v)) (fun v w1 w' hb ⟨g,p,e,hc,h⟩=>zF ⟨g,p,e,zC hb hc,h.keepM (zFA hb)⟩) ?_ ?_
  ·intro vs xq hd
   (try simp [hq_] at hd)
   simp only [pf_]
   go_simp
   obtain ⟨p,e,hm⟩:=hd.out
   rw [e]
   exact ⟨zB _ _,zF ⟨_,p,rfl,zU _ _ _ 0 _ rfl,hm.keepM (zFA (zB _ _))⟩⟩
  refine zT (by simp only [List.length_append,List.length_cons,List.length_nil]) (fun vs xq hd=>?_)
  simp [zV,zAD,List.range,List.range.loop] at hd
  simp only [pf_]
  obtain ⟨e0,e1,e2,h3,h4⟩:=hd
  simp only [Nat.zero_add,Nat.reduceAdd] at e0 e1 e2 ⊢
  simp only [e0,e1,e2]
  clear e0 e1 e2 c0 c1 c2 c3 c4 c5 c6 h3
  obtain ⟨g,p,e4,hcg,hm⟩:=h4.out
  rw [e4]
  generalize vs 3=v3 at *
  clear e4 h4
  have hbl:=zE W xq
  have hl5:=HL5.out.ext hbl
  have c5:=hl5.cell 0 _ rfl
  have HL5':=zF hl5
  have HF2:=zF (HF.out.keepM (zFA hbl))
  have HM:=zF hm
  have HBL:=zF hbl
  have HC:Hid (∀ j u,[ptrV p][j]? = some u→(W.later xq).cell? ((⟨g,0,none⟩ : Addr).add j)=some u):=zF (fun j u hj=>by rw [zBP];cases j with | zero=>cases hj;exact hcg | succ j=>simp at hj)
  clear hcg hm hl5 hbl
  generalize W.later xq=W2 at *
  go_wp2_with (
   at_builtin
   refine wpList_append_own _ rfl _ _ 149 rfl (w.heap.size+1) 92 f0 (.pointer none) 1 8 underlying149 hff fz0 fz1 fz2 rfl (by decide) _ _ _ rfl HF2.out.row ⟨g,0,none⟩ 1 1 [ptrV p] rfl rfl HC.out (by intro u hu;rw [List.mem_singleton] at hu;subst hu;rfl) (by unfold maxLen;have:=HXL.out;omega) (by have:=HXL.out;omega) (Nat.le_of_lt HL5'.out.lt) ?_
   intro v' W4 hown' hgrow _
   obtain ⟨a9,c9,rfl⟩:=zGR hown'
   have hl4:Lay W4 (w.heap.size+1) _ _:=zCE (es:=[149]) hgrow HF2.out.row (by decide) _ _ _ _ (by simp) HL5'.out
   have c6:=hl4.cell 0 _ rfl
   have cf:=hl4.frozen 0
   have cl:=hl4.lt
   have HL4:=zF hl4
   have HOW:=zF (And.intro hown' hgrow)
   clear hl4 hown' hgrow)
  have hown4:=HOW.out.1
  have hgrow:=HOW.out.2
  have hkG:KeepM esF W2 W4:=keepM_grown hgrow HF2.out.row (by decide)
  have hkS:KeepM (92 :: esF) W4 (W4.setCell ⟨w.heap.size+1,0,none⟩ (.slice a9 (xs.length+1) c9)):=keepM_set HL4.out (by decide)
  have hkF:KeepM esF W2 (W4.setCell ⟨w.heap.size+1,0,none⟩ (.slice a9 (xs.length+1) c9)):=hkG.trans ⟨hkS.cells.sub (fun e he=>List.mem_cons_of_mem _ he),hkS.maps⟩
  have hbx5:=HBX.out.ext HBL.out
  have hE:SitesO w (W4.setCell ⟨w.heap.size+1,0,none⟩ (.slice a9 (xs.length+1) c9)) (w.heap.size+1) (w.heap.size+1) (.slice ar b.ns.reg.length cr) (.slice an b.ns.notes.length cn) (.slice am b.ms.length cm) (.slice ah b.hs.length ch) (.slice as' b.rs.length cs') b (pre.map (fun t:List Int×Value=>t.1)++[t]):=by
   have hb2:=zA HBWW.out HBL.out
   refine ⟨zH (Nat.le_succ _) (hb2.grown hgrow hb2.size (fun r e=>Nat.le_trans (Nat.le_succ _) (HF2.out.row.lt r e).1)),?_,.slice a9 (xs.length+1) c9,xs++[(p,t)],zBC HL4.out 0 _,⟨?_,?_⟩,?_⟩
   ·have h4:Lay W4 w.heap.size _ _:=zCE (es:=[32]) hgrow HF2.out.row (by decide) _ _ _ _ (by simp) hbx5
    exact zBD h4 (by omega) 0 _
   ·rw [List.map_append,List.length_append]
    exact zGF hkS.cells (by simp) hown4
   ·intro x hx
    rcases List.mem_append.1 hx with h | h
    ·exact (HF2.out.at_ x h).keepM hkF
    ·rw [List.mem_singleton] at h
     subst h
     exact ⟨vt,HM.out.keepM hkF,(HON.out.ext HBL.out).keep (hkF.cells.sub (by simp))⟩
   ·rw [List.map_append,HT.out]
    rfl
  rw [show pre.map (fun t:List Int×Value=>t.1)++[t]=(pre++[(t,vt)]).map (fun t:List Int×Value=>t.1) by rw [List.map_append];rfl] at hE
  exact ⟨((zEE HBL.out).trans ((keeps_own hgrow HF2.out.row).trans (KeepsOthers.setCell _ _ _))).from _,((zAQ HBL.out).trans (zCE hgrow HF2.out.row (by decide))).trans (zHV HL4.out (by decide)),hE⟩
 case done =>
  rintro D ys W hD ⟨⟨hS1,hS2⟩,hlen⟩ hO hKD
  obtain ⟨hbW,hbx,v,xs,hl5W,hF,hT⟩:=hO
  obtain ⟨a0,c0,rfl⟩:=zGR hF.row
  have c5:=hl5W.cell 0 _ rfl
  have hBA:=(HA0.out.ext hbW).at_
  have hsl:=hF.sl hBA
  have HF:=zF hF
  have HT:=zF hT
  have HS2:=zF hS2
  clear hF hbx hO0 hsl hBA hS1 hS2 hT
  gi_wp2
  refine ⟨by simp,.inl ⟨_,_,rfl,run_takeDeferred hKD,?_⟩⟩
  have hbW':=hbW.trans (belowK_b (w:=w) (Nat.le_refl _) W D _ (.deferred none) (by have:=HBW.out.size;omega) hKD rfl rfl)
  refine ⟨.slice a0 xs.length c0,by simp [results,results81,go_sem],hbW',_,xs,rfl,(HF.out.keepM (zMB _ hKD rfl rfl)).sl (HA0.out.ext hbW').at_,fun S=>?_⟩
  rw [← HS2.out S,← HT.out]
  simp only [List.mem_map]
 case stop =>
  rintro D c pre W _ _ h _
  exact h.elim
theorem sub_ok {b:Built} (h:zM b=0) {rs:List Report} (hs:rs.Sublist b.rs) : zM { b with rs:=rs } = 0:=by
 obtain ⟨h1,h2⟩:=zW h
 have hr:(rs.map (·.num)).Pairwise (· < ·):=(zQG h).sublist (hs.map _)
 have h3:zIL { b with rs:=rs }:=⟨h2.1,h2.2.1,h2.2.2.1,Nat.le_trans hs.length_le h2.2.2.2.1,h2.2.2.2.2.1,h2.2.2.2.2.2.1,fun i hi hi2=>⟨zEN h (hs.subset (List.getElem_mem hi2)),fun h0=>by
  have hi3:i < rs.length:=hi2
  have:=List.pairwise_iff_getElem.1 hr (i - 1) i (by rw [List.length_map];omega) (by rw [List.length_map];exact hi2) (by omega)
  simpa using this⟩⟩
 unfold zM
 rw [if_neg (by simpa using h1),if_pos h3]
theorem left_sub {b:Built} (h:zM b=0) {rs:List Report} (hs:rs.Sublist b.rs) (S:List Int) : zDR b S (zFL b) rs≠none↔zII { b with rs:=rs } S:=by
 have hv:=sub_ok h hs
 have e:siteL { b with rs:=rs } S=zDR b S (zFL b) rs:=by
  unfold siteL zDR zFL
  rw [show zLZ { b with rs:=rs } S=zLZ b S from funext (befR_rs b rs S)]
  rfl
 rw [← e]
 cases hL:siteL { b with rs:=rs } S with
 | none=>exact ⟨fun h=>absurd rfl h,fun h=>absurd h (left_none hv hL)⟩
 | some L=>exact ⟨fun _=>(zRJ hv hL).1,fun _=>by simp⟩
theorem fits1_built (w:World) (p gq:Nat) (vr vn vm vh vs vz vq:Value) (b:Built) (S:List Int) (rs:List Report) (hS:SiteAt w p vr vn vm vh vs vz b S) (hK:KindsAt w) (hv:zM b=0) (hq:Sl zDD 5 w vq rs) (hr:∀ r∈rs,zDF b.ns.reg b.ms r) (hg:zJ w gq 0 vq) :
  Calls prog 118 (#[.pointer (some ⟨p,0,none⟩)] ++ #[.pointer (some ⟨gq,0,none⟩)]) w (zAK (zDR b S (zFL b) rs≠none) w):=by
 obtain ⟨aq,cq,rfl,_⟩:=zD hq
 have hleft:=left_site w p vr vn vm vh vs vz _ b S rs hS hK hv hq hr
 unfold zJ at hg
 clear hS hK hq hr hv
 cases hL:zDR b S (zFL b) rs with
 | none =>
   rw [hL] at hleft
   have HL:=zF hleft
   clear hleft hL
   go_enter func118,ntmps118
   go_wp2_with (go_at_call 100;refine HL.out.mono ?_;rintro e w2 ⟨hb2,rfl⟩)
   go_ret
   exact zAK.f (fun h=>h rfl) hb2
 | some L =>
   rw [hL] at hleft
   have HL:=zF hleft
   clear hleft hL
   go_enter func118,ntmps118
   go_wp2_with (go_at_call 100;refine HL.out.mono ?_;rintro e w2 ⟨hb2,v,base,rfl,hown,hnum,a,c,rfl⟩)
   go_ret
   exact zAK.t (by simp) hb2
theorem enter_fits1:Enters prog 118:=enters_of func118 (by kernel_rfl) rfl
theorem indexFunc_site (vr vn vm vh vs:Value) (b:Built) (w:World) (v:Value) (xs:List (Nat×List Int)) (h:Sl (AtSite vr vn vm vh vs b) 1 w v xs) (g:FuncId) (caps:Array Value) (eg:∀ args w,(callFunc g args).run prog w = .ok (.enter g args) w) (p:Nat×List Int→Prop)
  (hp:∀ x∈xs,∀ w',Below w.heap.size w w'→Calls prog g (#[.pointer (some ⟨x.1,0,none⟩)]++caps) w' (zAK (p x) w')) :
  Calls prog 154 #[v,.func (.func g) #[] caps] w fun e w'=>∃ i:Int,e = .returned (.int .i64 i)∧(0≤i↔∃ x∈xs,p x)∧Below w.heap.size w w':=by
 obtain ⟨a,cap,rfl,hm⟩:=zD h
 go_enter func154,ntmps154
 go_wp2
 go_loopw [8] (fun i wr=>∃ k:Nat,i = .int .i64 k∧k≤xs.length∧Hid (Below w.heap.size w wr)∧Hid (∀ j,j < k→(hj:j < xs.length)→¬ p xs[j])) (fun i _=>xs.length - (intOf i).toNat)
 case atStart=>exact ⟨0,rfl,by omega,br_,fun j hj=>absurd hj (by omega)⟩
 case round =>
  obtain ⟨k,rfl,hk,hb,hall⟩:=hrel
  by_cases hlt:k < xs.length
  ·have hcall:=hp xs[k] (List.getElem_mem hlt) wr hb.out
   have HM:=zF (List.getElem_mem hlt)
   obtain ⟨b,off,rfl,⟨h0,_⟩⟩:=(zZ (zI (zRA vr vn vm vh vs b) hb.out h)).2 k hlt
   generalize hx:xs[k]=x at *
   have HX:=zF hx
   clear hx hp h
   have hlt3:=zAF h0
   unfold zJ at h0
   rw [Nat.mul_one] at h0
   go_wp2_with (go_at_fn g;refine hcall.mono ?_;intro e w' hr;rcases hr.both with ⟨h1,rfl,hb'⟩ | ⟨h1,rfl,hb'⟩ <;> clear hr)
   ·have h1':=zF h1
    clear h1
    go_wp2
    go_ret
    exact ⟨k,rfl,⟨fun _=>⟨x,HM.out,h1'.out⟩,fun _=>by omega⟩,zA hb.out hb'⟩
   ·have h1':=zF h1
    clear h1
    go_wp2
    go_roundw
    ·exact ⟨k+1,by go_num,by omega,zA hb.out hb',zAO _ k hall.out (fun _=>by rw [HX.out];exact h1'.out)⟩
    ·simp [intOf];omega
  ·clear hp h
   go_wp2
   go_ret
   refine ⟨-1,rfl,⟨fun h=>by omega,fun ⟨x,hx,hpx⟩=>?_⟩,hb.out⟩
   obtain ⟨j,hj,rfl⟩:=List.getElem_of_mem hx
   exact (hall.out j (by omega) hj hpx).elim
theorem fits_built (w:World) (vl vq vr vn vm vh vs:Value) (b:Built) (xs:List (Nat×List Int)) (rs:List Report) (hl:Sl (AtSite vr vn vm vh vs b) 1 w vl xs) (hK:KindsAt w) (hv:zM b=0) (hq:Sl zDD 5 w vq rs) (hs:rs.Sublist b.rs) (hT:∀ S,(∃ x∈xs,x.2=S)↔IsT (zCA b.ns.notes) S) :
  Calls prog 82 #[vl,vq] w (zAK (∃ S,IsT (zCA b.ns.notes) S∧zII { b with rs:=rs } S) w):=by
 have hb1:=zB w (.cells #[vq] 30)
 have hq1:=zI zAV hb1 hq
 have hl1:=zI (zRA vr vn vm vh vs b) hb1 hl
 have hK1:=hK.ext hb1
 have hc:=(Lay.new w 30 #[vq]).cell 0 _ rfl
 have hsite:∀ x∈xs,∃ vz,SiteAt (w.alloc (.cells #[vq] 30)) x.1 vr vn vm vh vs vz b x.2:=fun x hx=>by
  obtain ⟨k,hk,rfl⟩:=List.getElem_of_mem hx
  obtain ⟨a,c,rfl,_⟩:=zD hl1
  obtain ⟨_,_,_,_,h⟩:=(zZ hl1).2 k hk
  exact h
 have hcall:=zF (indexFunc_site vr vn vm vh vs b _ vl xs hl1 118 #[.pointer (some ⟨w.heap.size,0,none⟩)] enter_fits1 (fun x=>zDR b x.2 (zFL b) rs≠none) (fun x hx w' hb=>by
  obtain ⟨vz,h⟩:=hsite x hx
  exact fits1_built w' x.1 w.heap.size vr vn vm vh vs vz vq b x.2 rs (h.ext hb) (hK1.ext hb) hv (zI zAV hb hq1) (fun r hr=>zEN hv (hs.subset hr)) (zC hb hc)))
 have hiff:Hid ((∃ x∈xs,zDR b x.2 (zFL b) rs≠none)↔∃ S,IsT (zCA b.ns.notes) S∧zII { b with rs:=rs } S):=by
  constructor
  ·rintro ⟨x,hx,h⟩
   exact ⟨x.2,(hT x.2).1 ⟨x,hx,rfl⟩,(left_sub hv hs x.2).1 h⟩
  ·rintro ⟨S,hS,h⟩
   obtain ⟨x,hx,rfl⟩:=(hT S).2 hS
   exact ⟨x,hx,(left_sub hv hs x.2).2 h⟩
 obtain ⟨aq,cq,hvq,_⟩:=zD hq
 subst hvq
 clear hq1 hl1 hK1 hc hsite hl hq hK
 go_enter func82,ntmps82
 go_wp2_with fail
 generalize w.alloc _=w1 at *
 go_enter func117,ntmps117
 go_wp2_with fail
 refine hcall.out.mono ?_
 rintro e w2 ⟨i,rfl,hi,hb2⟩
 have HI:=zF (hi.trans hiff.out)
 clear hi hcall hiff
 go_wp2
 go_ret
 exact ⟨decide (0≤i),rfl,by rw [decide_eq_true_eq];exact HI.out,zA hb1 hb2⟩
end
section
open Go.RowKit Go.Shelf
attribute [local go_sem] zAN Oper.grows Oper.growUpon
theorem rep_one (w:World) (x:Report) (h:(I64 x.num∧I64 x.m∧I64 x.d∧I64 x.l∧U8 x.k)) : Sl zDD 5 (w.alloc (.cells #[.int .i64 x.num,.int .i64 x.m,.int .i64 x.d,.int .i64 x.l,.int .u8 x.k] 116)) (.slice (some ⟨w.heap.size,0,none⟩) 1 1) [x]:=by
 have hl:=Lay.new w 116 #[.int .i64 x.num,.int .i64 x.m,.int .i64 x.d,.int .i64 x.l,.int .u8 x.k]
 refine ⟨_,_,rfl,by simp,fun k hk=>?_⟩
 have e:k=0:=by simpa using hk
 subst e
 exact ⟨_,_,rfl,⟨hl.cell 0 _ rfl,hl.cell 1 _ rfl,hl.cell 2 _ rfl,hl.cell 3 _ rfl,hl.cell 4 _ rfl⟩,h⟩
theorem clash_built (w:World) (vr vn vm vh vs:Value) (b:Built) (hA:BuiltArg w vr vn vm vh vs b) (hK:KindsAt w) :
  Calls prog 29 #[.agg #[vr,vn,.int .i64 b.of,vm,vh,vs]] w fun e w'=>∃ u,e = .returned (.tuple #[u,.int .i64 (zM b)])∧Sl zAJ 1 w' u (claL b)∧Below w.heap.size w w':=by
 obtain ⟨i0,hif,iz0,iz1,iz2⟩:=info_parts zDM
 obtain ⟨ar,cr,rfl,_⟩:=zD hA.at_.reg
 obtain ⟨an,cn,rfl,_⟩:=zD hA.at_.notes
 obtain ⟨am,cm,rfl,_⟩:=zD hA.at_.ms
 obtain ⟨ah,ch,rfl,_⟩:=zD hA.at_.hs
 obtain ⟨as',cs',rfl,_⟩:=zD hA.at_.rs
 have hb1:=zB w (.cells #[.slice ar b.ns.reg.length cr,.slice an b.ns.notes.length cn,.int .i64 b.of,.slice am b.ms.length cm,.slice ah b.hs.length ch,.slice as' b.rs.length cs'] 32)
 have HBOX:=zF (Lay.new w 32 #[.slice ar b.ns.reg.length cr,.slice an b.ns.notes.length cn,.int .i64 b.of,.slice am b.ms.length cm,.slice ah b.hs.length ch,.slice as' b.rs.length cs'])
 have HA:=zF (hA.ext hb1)
 have HK:=zF (hK.ext hb1)
 have HBW:=zF hb1
 clear hA hK hb1
 have k0:=HBOX.out.cell 0 _ rfl
 have k1:=HBOX.out.cell 1 _ rfl
 have k2:=HBOX.out.cell 2 _ rfl
 have k3:=HBOX.out.cell 3 _ rfl
 have k4:=HBOX.out.cell 4 _ rfl
 have k5:=HBOX.out.cell 5 _ rfl
 go_enter func29,ntmps29
 go_wp2_with fail
 clear k0 k1 k2 k3 k4 k5
 generalize w.alloc _=w1 at *
 refine (zQQ _ _ _ _ _ _ b HA.out).mono ?_
 rintro e w2 ⟨rfl,hb2⟩
 have HBW:=zF (zA HBW.out hb2)
 have HBOX:=zF (HBOX.out.ext hb2)
 have HA:=zF (HA.out.ext hb2)
 have HK:=zF (HK.out.ext hb2)
 clear hb2
 by_cases hv:zM b=0
 case neg =>
  have hv':(zM b != 0)=true:=by simpa using hv
  have HT:Hid (claL b=[]):=by unfold Hid claL;rw [if_neg hv]
  clear hv
  go_wp2
  go_ret2
  exact ⟨_,rfl,by rw [HT.out];exact zGS _ _ _ _ _,HBW.out⟩
 case pos =>
  have HV:=zF hv
  have hr10:b.rs.length≤10:=(zW hv).2.2.2.2.1
  have HCL:Hid (claL b=zQX b b.rs.length):=by unfold Hid claL;rw [if_pos hv]
  have HC:Hid (zM b=0):=hv
  have HLE:=zF (claTo_le b)
  have HI:=zF (claTo_I64 hv)
  rw [hv]
  clear hv
  have k0:=HBOX.out.cell 0 _ rfl
  have k1:=HBOX.out.cell 1 _ rfl
  have k2:=HBOX.out.cell 2 _ rfl
  have k3:=HBOX.out.cell 3 _ rfl
  have k4:=HBOX.out.cell 4 _ rfl
  have k5:=HBOX.out.cell 5 _ rfl
  go_wp2_with fail
  clear k0 k1 k2 k3 k4 k5
  refine (sites_built _ _ _ _ _ _ b HA.out HV.out).mono ?_
  rintro e w6 ⟨hb2,v,xs,rfl,hl,hT⟩
  obtain ⟨al,cl,rfl,_⟩:=zD hl
  have HBW:=zF (zA HBW.out hb2)
  have HBOX:=zF (HBOX.out.ext hb2)
  have HA:=zF (HA.out.ext hb2)
  have HK:=zF (HK.out.ext hb2)
  have HL:=zF hl
  have HT:=zF hT
  clear hb2 hl hT
  have k5:=HBOX.out.cell 5 _ rfl
  go_wp2
  clear k5
  go_loopw [6,19] (fun q i wr=>∃ k:Nat,i = .int .i64 k∧k≤b.rs.length∧Hid (wr.ownsRow w6.heap.size 3 1 q (zQX b k).length ((zQX b k).map (Value.int .i64)))∧Hid (Below w6.heap.size w6 wr)) (fun _ i _=>b.rs.length - (intOf i).toNat)
  case atStart=>exact ⟨0,rfl,by omega,zF (World.ownsRow_nil _ _ _ _),zF (br_)⟩
  case round =>
   obtain ⟨k,rfl,hk,HO,HB6⟩:=hrel
   by_cases hlt:k < b.rs.length
   case neg =>
    obtain rfl:k=b.rs.length:=by omega
    go_wp2
    go_ret2
    refine ⟨_,by rw [HC.out];rfl,?_,zA HBW.out HB6.out⟩
    rw [HCL.out]
    exact zBG HO.out (HI.out _)
   case pos =>
    have hkl:(k:Int) < b.rs.length:=by omega
    have hyes:=zF (fun h=>claTo_yes (b:=b) hlt h)
    have hno:=zF (fun h=>claTo_no (b:=b) hlt h)
    have hle:=HLE.out k
    have hLo:Hid (Lone b b.rs[k]↔¬ ∃ S,IsT (zCA b.ns.notes) S∧zII { b with rs:=[b.rs[k]] } S):=Iff.rfl
    have hsub:Hid ([b.rs[k]].Sublist b.rs):=List.singleton_sublist.2 (List.getElem_mem hlt)
    obtain ⟨gz,oz,haz,⟨z0,z1,z2,z3,z4⟩,hrn⟩:=(zZ (zI zAV HB6.out HA.out.at_.rs)).2 k hlt
    cases haz
    generalize b.rs[k]=r at *
    have hba:=zB wr (.cells #[.int .i64 r.num,.int .i64 r.m,.int .i64 r.d,.int .i64 r.l,.int .u8 r.k] 116)
    have hrl:=Lay.new wr 116 #[.int .i64 r.num,.int .i64 r.m,.int .i64 r.d,.int .i64 r.l,.int .u8 r.k]
    have hs1:(wr.alloc (.cells #[.int .i64 r.num,.int .i64 r.m,.int .i64 r.d,.int .i64 r.l,.int .u8 r.k] 116)).heap.size=wr.heap.size+1:=World.size_alloc _ _
    have hq:=rep_one (wr.alloc (.cells #[.int .i64 r.num,.int .i64 r.m,.int .i64 r.d,.int .i64 r.l,.int .u8 r.k] 116)) r hrn
    rw [hs1] at hq
    have hbb:=zB (wr.alloc (.cells #[.int .i64 r.num,.int .i64 r.m,.int .i64 r.d,.int .i64 r.l,.int .u8 r.k] 116)) (.cells #[.int .i64 r.num,.int .i64 r.m,.int .i64 r.d,.int .i64 r.l,.int .u8 r.k] 116)
    have HBB:=zF (zA hba hbb)
    have hcall:=zF (fits_built _ _ _ _ _ _ _ _ b xs [r] (zI (zRA _ _ _ _ _ b) (zA HB6.out HBB.out) HL.out) (HK.out.ext (zA HB6.out HBB.out)) HV.out hq hsub.out HT.out)
    have HRL:=zF (hrl.ext hbb)
    unfold zJ at z0 z1 z2 z3 z4
    clear hba hrl hq hbb hrn hsub hs1
    go_wp2_with fail
    clear z0 z1 z2 z3 z4
    refine hcall.out.mono ?_
    intro e w9 hr
    rcases hr.both with ⟨h1,rfl,hb9⟩ | ⟨h1,rfl,hb9⟩
    ·have hf:=zF (hno.out (fun h=>hLo.out.1 h h1))
     have hb:=zF (zA HB6.out (zA HBB.out hb9))
     have ho:=zF (zAA (zA HBB.out hb9) HO.out)
     clear h1 hr hcall hno hyes hLo
     go_wp2
     go_roundw
     ·exact ⟨k+1,by go_num,by omega,by rw [hf.out];exact ho,hb⟩
     ·simp [intOf];omega
    ·have hf:=zF (hyes.out (hLo.out.2 h1))
     have hb:=zF (zA HB6.out (zA HBB.out hb9))
     have ho:=zF (zAA (zA HBB.out hb9) HO.out)
     have c0:=(HRL.out.ext hb9).cell 0 _ rfl
     have hsz:=hb.out.size
     clear h1 hr hcall hno hyes hLo
     generalize r.num=x at *
     go_wp2_with (at_builtin;refine wpList_append_own _ rfl _ _ 28 rfl w6.heap.size 3 i0 (.int .i64 0) 1 8 underlying28 hif iz0 iz1 iz2 rfl (by decide) _ _ _ rfl (ho.out.alloc _) ⟨w9.heap.size,0,none⟩ 1 1 [.int .i64 x] rfl rfl (cell_one_new _ _ _) (by simp [Value.oneCell']) (by unfold maxLen;omega) (by omega) (by simp;omega) ?_;intro v' w4 hown' hgrow _)
     have hb4:=(hb.out.alloc hb.out.size (.cells #[.int .i64 x] 3)).grown hgrow (by simp;omega) (fun k e=>(ho.out.lt k e).1)
     go_wp2
     go_roundw
     ·exact ⟨k+1,by go_num,by omega,by rw [hf.out,List.map_append,List.length_append];exact zF hown',zF hb4⟩
     ·simp [intOf];omega
end
section
open Go.RowKit Go.Shelf
structure LeastTo (xs:List (List Int)) (k:Nat) (l:List Int) : Prop where
 mem:l∈xs.take k
 le:∀ y∈xs.take k,LeL l y
theorem LeastTo.keep {xs:List (List Int)} {k:Nat} {l:List Int} (h:LeastTo xs k l) (hk:k < xs.length) (hn:zIP xs[k] l=false) : LeastTo xs (k+1) l :=
 ⟨by rw [List.take_succ_eq_append_getElem hk];exact List.mem_append_left _ h.mem,fun y hy=>by
  rw [List.take_succ_eq_append_getElem hk,List.mem_append,List.mem_singleton] at hy
  rcases hy with hy | rfl
  ·exact h.le y hy
  ·exact hn⟩
theorem LeastTo.turn {xs:List (List Int)} {k:Nat} {l:List Int} (h:LeastTo xs k l) (hk:k < xs.length) (hn:zIP xs[k] l=true) : LeastTo xs (k+1) xs[k] :=
 ⟨by rw [List.take_succ_eq_append_getElem hk];exact List.mem_append_right _ (List.mem_singleton.2 rfl),fun y hy=>by
  rw [List.take_succ_eq_append_getElem hk,List.mem_append,List.mem_singleton] at hy
  rcases hy with hy | rfl
  ·exact leL_tr (leL_of hn) (h.le y hy)
  ·exact zQV _⟩
theorem minFunc_lists (w:World) (vl:Value) (xs:List (List Int)) (h:Sl zKW 1 w vl xs) (hne:0 < xs.length) :
  Calls prog 119 #[vl,.func (.func 85) #[] #[]] w fun e w'=>∃ u l,e = .returned u∧LeastTo xs xs.length l∧Sl zAJ 1 w' u l∧Below w.heap.size w w':=by
 obtain ⟨a,cap,rfl,hm⟩:=zD h
 have HS:=zF h
 obtain ⟨b0,o0,rfl,v0,hc0,hs0⟩:=(zZ h).2 0 hne
 obtain ⟨a0,c0,rfl,_⟩:=zD hs0
 have hL0:LeastTo xs 1 xs[0]:=by
  have e:xs.take 1=[xs[0]]:=by
   cases xs with
   | nil=>simp at hne
   | cons x r=>rfl
  exact ⟨by rw [e];simp,fun y hy=>by rw [e,List.mem_singleton] at hy;subst hy;exact zQV _⟩
 have HL0:=zF hL0
 have HS0:=zF hs0
 rw [Nat.mul_comm,Nat.mul_zero,Nat.add_zero] at hc0
 generalize xs[0]=x0 at *
 have h1:¬ ((xs.length:Int) < 1):=by omega
 have h00:(0:Int) < xs.length:=by omega
 have eg:=zRP
 unfold Enters at eg
 unfold zJ at hc0
 clear h hL0 hs0
 go_enter func119,ntmps119
 go_wp2
 clear hc0
 go_loopw [5,6] (fun q i wr=>∃ (k:Nat) (l:List Int),i = .int .i64 k∧0 < k∧k≤xs.length∧Hid (LeastTo xs k l)∧Hid (Sl zAJ 1 wr q l)∧Hid (Below w.heap.size w wr)) (fun _ i _=>xs.length - (intOf i).toNat)
 case atStart=>exact ⟨1,x0,rfl,by omega,by omega,HL0,HS0,zF (br_)⟩
 case round =>
  clear HL0 HS0
  obtain ⟨k,l,rfl,hk0,hk,HL,HQ,HB⟩:=hrel
  by_cases hlt:k < xs.length
  case neg =>
   obtain rfl:k=xs.length:=by omega
   go_wp2
   go_ret
   exact ⟨_,l,rfl,HL.out,HQ.out,HB.out⟩
  case pos =>
   have hkl:(k:Int) < xs.length:=by omega
   obtain ⟨b1,o1,he,v1,hc1,hs1⟩:=(zZ (zI zCC HB.out HS.out)).2 k hlt
   cases he
   obtain ⟨a1,c1,rfl,_⟩:=zD hs1
   rw [Nat.mul_one] at hc1
   have hky:=zF (fun h=>HL.out.keep hlt h)
   have htn:=zF (fun h=>HL.out.turn hlt h)
   have HC1:=zF hc1
   obtain ⟨aq,cq,hq,_⟩:=zD HQ.out
   subst hq
   have hcall:=zF ((zRM wr _ _ xs[k] l hs1 HQ.out).mono fun e w' (h:_∧_)=>(show e = .returned (.int .i64 (shortC xs[k] l))∧Below wr.heap.size wr w' from ⟨h.1,by rw [h.2];exact zB _ _⟩))
   have HS1:=zF hs1
   have hsc:=zF (shortC_bef xs[k] l)
   generalize xs[k]=x at *
   generalize hgs:shortC x l=sc at *
   generalize wr=wq at *
   unfold zJ at hc1
   clear hgs HL hs1
   by_cases hb:sc < 0
   ·have ht:=zF (htn.out (hsc.out.1 hb))
    clear hky htn hsc
    go_wp2_with (go_at_fn 85;refine hcall.out.mono ?_;rintro e w3 ⟨rfl,hb3⟩;have hc1:=zC hb3 HC1.out;unfold zJ at hc1;have HQ3:=zF (zI zN hb3 HQ.out);have HS3:=zF (zI zN hb3 HS1.out);have HB3:=zF (zA HB.out hb3))
    go_wp2
    go_roundw
    ·exact ⟨k+1,x,by go_num,by omega,by omega,ht,HS3,HB3⟩
    ·simp [intOf];omega
   ·have ht:=zF (hky.out (by
     cases h:zIP x l with
     | false=>rfl
     | true=>exact absurd (hsc.out.2 h) hb))
    clear hky htn hsc
    go_wp2_with (go_at_fn 85;refine hcall.out.mono ?_;rintro e w3 ⟨rfl,hb3⟩;have hc1:=zC hb3 HC1.out;unfold zJ at hc1;have HQ3:=zF (zI zN hb3 HQ.out);have HS3:=zF (zI zN hb3 HS1.out);have HB3:=zF (zA HB.out hb3))
    go_wp2
    go_roundw
    ·exact ⟨k+1,l,by go_num,by omega,by omega,ht,HQ3,HB3⟩
    ·simp [intOf];omega
end
section
open Go.RowKit Go.Shelf
attribute [local go_sem] zAN Oper.grows Oper.growUpon
theorem wd_is {b:Built} (hv:zM b=0) {l:List Int} (h:LeastTo (zQE b (2 ^ b.rs.length)) (zQE b (2 ^ b.rs.length)).length l) : wdL b=l:=by
 obtain ⟨h1,h2⟩:=h
 rw [List.take_length] at h1 h2
 exact wdL_is hv ⟨(outs_mem hv l).1 h1,fun l' hl'=>h2 l' ((outs_mem hv l').2 hl')⟩
theorem first_lists (w:World) (vl:Value) (xs:List (List Int)) (h:Sl zKW 1 w vl xs) (hne:0 < xs.length) :
  Calls prog 84 #[vl,.func (.func 85) #[] #[]] w fun e w'=>∃ u l,e = .returned u∧LeastTo xs xs.length l∧Sl zAJ 1 w' u l∧Below w.heap.size w w':=by
 go_enter func84,ntmps84
 go_wp2_with fail
 refine (minFunc_lists _ _ xs h hne).mono ?_
 rintro e w2 ⟨u,l,rfl,h1,h2,hb⟩
 have H:=zF (And.intro h1 (And.intro h2 hb))
 clear h1 h2 hb h
 go_wp2
 go_ret
 exact ⟨_,l,rfl,H.out.1,H.out.2.1,H.out.2.2⟩
theorem withdraw_built (w:World) (vr vn vm vh vs:Value) (b:Built) (hA:BuiltArg w vr vn vm vh vs b) (hK:KindsAt w) :
  Calls prog 31 #[.agg #[vr,vn,.int .i64 b.of,vm,vh,vs]] w fun e w'=>∃ u,e = .returned (.tuple #[u,.int .i64 (zM b)])∧Sl zAJ 1 w' u (wdL b)∧Below w.heap.size w w':=by
 obtain ⟨i0,hif,iz0,iz1,iz2⟩:=info_parts zDM
 obtain ⟨j0,hjf,jz0,jz1,jz2⟩:=info_parts infoReport
 obtain ⟨l0,hlf,lz0,lz1,lz2⟩:=info_parts zPT
 obtain ⟨ar,cr,rfl,_⟩:=zD hA.at_.reg
 obtain ⟨an,cn,rfl,_⟩:=zD hA.at_.notes
 obtain ⟨am,cm,rfl,_⟩:=zD hA.at_.ms
 obtain ⟨ah,ch,rfl,_⟩:=zD hA.at_.hs
 obtain ⟨as',cs',rfl,_⟩:=zD hA.at_.rs
 have hb1:=zB w (.cells #[.slice ar b.ns.reg.length cr,.slice an b.ns.notes.length cn,.int .i64 b.of,.slice am b.ms.length cm,.slice ah b.hs.length ch,.slice as' b.rs.length cs'] 32)
 have HBOX:=zF (Lay.new w 32 #[.slice ar b.ns.reg.length cr,.slice an b.ns.notes.length cn,.int .i64 b.of,.slice am b.ms.length cm,.slice ah b.hs.length ch,.slice as' b.rs.length cs'])
 have HA:=zF (hA.ext hb1)
 have HK:=zF (hK.ext hb1)
 have HBW:=zF hb1
 clear hA hK hb1
 have k0:=HBOX.out.cell 0 _ rfl
 have k1:=HBOX.out.cell 1 _ rfl
 have k2:=HBOX.out.cell 2 _ rfl
 have k3:=HBOX.out.cell 3 _ rfl
 have k4:=HBOX.out.cell 4 _ rfl
 have k5:=HBOX.out.cell 5 _ rfl
 go_enter func31,ntmps31
 go_wp2_with fail
 clear k0 k1 k2 k3 k4 k5
 generalize w.alloc _=w1 at *
 refine (zQQ _ _ _ _ _ _ b HA.out).mono ?_
 rintro e w2 ⟨rfl,hb2⟩
 have HBW:=zF (zA HBW.out hb2)
 have HBOX:=zF (HBOX.out.ext hb2)
 have HA:=zF (HA.out.ext hb2)
 have HK:=zF (HK.out.ext hb2)
 clear hb2
 by_cases hv:zM b=0
 case neg =>
  have hv':(zM b != 0)=true:=by simpa using hv
  have HT:=zF (wdL_bad hv)
  clear hv
  go_wp2
  go_ret2
  exact ⟨_,rfl,by rw [HT.out];exact zGS _ _ _ _ _,HBW.out⟩
 case pos =>
  have HV:=zF hv
  have hr10:b.rs.length≤10:=(zW hv).2.2.2.2.1
  have HC:Hid (zM b=0):=hv
  rw [hv]
  clear hv
  have k0:=HBOX.out.cell 0 _ rfl
  have k1:=HBOX.out.cell 1 _ rfl
  have k2:=HBOX.out.cell 2 _ rfl
  have k3:=HBOX.out.cell 3 _ rfl
  have k4:=HBOX.out.cell 4 _ rfl
  have k5:=HBOX.out.cell 5 _ rfl
  go_wp2_with fail
  clear k0 k1 k2 k3 k4 k5
  refine (sites_built _ _ _ _ _ _ b HA.out HV.out).mono ?_
  rintro e w6 ⟨hb2,v,xs,rfl,hl,hT⟩
  obtain ⟨al,cl,rfl,_⟩:=zD hl
  have HBW:=zF (zA HBW.out hb2)
  have HBOX:=zF (HBOX.out.ext hb2)
  have HA:=zF (HA.out.ext hb2)
  have HK:=zF (HK.out.ext hb2)
  have HL:=zF hl
  have HT:=zF hT
  clear hb2 hl hT
  have k5:=HBOX.out.cell 5 _ rfl
  obtain ⟨M,hM,hM2,hs1,hs2⟩:=shl11 b.rs.length (by omega)
  have HFIN:Hid (0 < (zQE b M).length∧∀ l,LeastTo (zQE b M) (zQE b M).length l→wdL b=l):=by
   subst hM
   exact ⟨outs_ne HV.out,fun l h=>wd_is HV.out h⟩
  have HOL:=zF (outs_le b)
  have HM:=zF hM
  clear hM
  go_wp2
  clear k5 hs1 hs2
  go_loopw [6,23] (fun q i wr=>∃ (s:Nat) (cs:List Value),i = .int .i64 s∧s≤M∧Hid (wr.ownsRow w6.heap.size 28 1 q (zQE b s).length cs∧zDW [3] zFT 1 wr cs (zQE b s))∧Hid (Below w6.heap.size w6 wr)) (fun _ i _=>M - (intOf i).toNat)
  case atStart=>exact ⟨0,[],rfl,by omega,zF ⟨World.ownsRow_nil _ _ _ _,zJK _ _ _ _⟩,zF (br_)⟩
  case round =>
   obtain ⟨s,cs,rfl,hs,HO,HB6⟩:=hrel
   by_cases hlt:s < M
   case neg =>
    obtain rfl:s=M:=by omega
    have hsl:=(HO.out.2.sl HO.out.1 zME).now
    obtain ⟨aq,cq,rfl,_⟩:=zD hsl
    have HSL:=zF hsl
    clear hsl HO
    go_wp2_with fail
    refine (first_lists _ _ _ HSL.out HFIN.out.1).mono ?_
    rintro e w9 ⟨u,l,rfl,hle,hu,hb9⟩
    obtain ⟨au,cu,rfl,_⟩:=zD hu
    have HU:=zF hu
    have HWD:=zF (HFIN.out.2 l hle)
    have HB9:=zF (zA HB6.out hb9)
    clear hle hu hb9
    go_wp2
    go_ret2
    exact ⟨_,by rw [HC.out];rfl,by rw [HWD.out];exact HU.out,zA HBW.out HB9.out⟩
   case pos =>
    have hsl:(s:Int) < M:=by omega
    generalize hwk:wr=wk at *
    clear hwk
    have k5:=zC HB6.out (HBOX.out.cell 5 _ rfl)
    unfold zJ at k5
    go_wp2
    clear k5
    go_loopw [8,9,29] (fun o q i wr=>∃ j:Nat,i = .int .i64 j∧j≤b.rs.length∧Hid (wr.ownsRow wk.heap.size 3 1 o (zQT b s j).length ((zQT b s j).map (Value.int .i64)))∧Hid (wr.ownsRow wk.heap.size 116 5 q (zQP b s j).length ((zQP b s j).flatMap encR))∧Hid (Below wk.heap.size wk wr)) (fun _ _ i _=>b.rs.length - (intOf i).toNat)
    case atStart=>exact ⟨0,rfl,by omega,zF (World.ownsRow_nil _ _ _ _),zF (World.ownsRow_nil _ _ _ _),zF (br_)⟩
    case round =>
     obtain ⟨j,rfl,hj,HO1,HO2,HBK⟩:=hrel
     by_cases hjl:j < b.rs.length
     case neg =>
      obtain rfl:j=b.rs.length:=by omega
      have hq:=rep_sl HO2.out (fun x hx=>by
       obtain ⟨k,hk,rfl⟩:=List.getElem_of_mem ((kept_sub b s b.rs.length).subset hx)
       obtain ⟨_,_,_,_,hr⟩:=(zZ HA.out.at_.rs).2 k hk
       exact hr)
      have hcall:=zF (fits_built _ _ _ _ _ _ _ _ b xs (zQP b s b.rs.length) (zI (zRA _ _ _ _ _ b) (zA HB6.out HBK.out) HL.out) (HK.out.ext (zA HB6.out HBK.out)) HV.out hq (kept_sub b s _) HT.out)
      rw [kept_all] at hcall
      have hoI:Hid (∀ x∈zQT b s b.rs.length,I64 x):=fun x hx=>by
       obtain ⟨k,hk,_,h2⟩:=(zIB (by rw [rnums_len];exact Nat.le_refl _)).1 hx
       rw [zRL hk] at h2
       cases h2
       obtain ⟨_,_,_,_,hr⟩:=(zZ HA.out.at_.rs).2 k hk
       exact hr.1
      have hyes:=zF (fun h=>outs_yes (b:=b) (s:=s) h)
      have hno:=zF (fun h=>outs_no (b:=b) (s:=s) h)
      have hol:=HOL.out s
      obtain ⟨aq,cq,rfl,_⟩:=zD hq
      obtain ⟨a1,c1,rfl,_⟩:=zD (zBG HO1.out hoI.out)
      clear hq
      go_wp2_with fail
      refine hcall.out.mono ?_
      intro e w9 hr
      rcases hr.both with ⟨h1,rfl,hb9⟩ | ⟨h1,rfl,hb9⟩
      ·have hf:=zF (hyes.out h1)
       have hk9:=zF (zA HBK.out hb9)
       have ho9:=zF (zAA hk9.out HO.out.1)
       have hr9:=zF (HO.out.2.keep (zAQ hk9.out))
       have ho1:=zF (zAA hb9 HO1.out)
       have HB9:=zF (zA HB6.out hk9.out)
       have hsz:=HB9.out.size
       clear h1 hr hcall hyes hno hb9
       generalize zQT b s b.rs.length=L at *
       go_wp2_with (at_builtin;refine wpList_append_own _ rfl _ _ 56 rfl w6.heap.size 28 l0 (.slice none 0 0) 1 24 underlying56 hlf lz0 lz1 lz2 rfl (by decide) _ _ _ rfl (ho9.out.alloc _) ⟨w9.heap.size,0,none⟩ 1 1 [.slice a1 L.length c1] rfl rfl (cell_one_new _ _ _) (by simp [Value.oneCell']) (by unfold maxLen;omega) (by omega) (by simp;omega) ?_;intro v' w4 hown' hgrow _)
       have hba:=zB w9 (.cells #[.slice a1 L.length c1] 28)
       have hK1:zEK [3] w9 w4:=(zAQ hba).trans (zCE hgrow (ho9.out.alloc _) (by decide))
       have hb4:=zF ((HB9.out.alloc HB9.out.size (.cells #[.slice a1 L.length c1] 28)).grown hgrow (by simp;omega) (fun k e=>(ho9.out.lt k e).1))
       have hrow:zDW [3] zFT 1 w4 (cs++[.slice a1 L.length c1]) (zQE b s++[L]):=(hr9.out.keep hK1).snoc rfl (fun w' hk=>⟨_,rfl,zBG (zGF (hK1.trans hk) (by simp) ho1.out) hoI.out⟩)
       have HR4:=zF (And.intro hown' hrow)
       clear hba hK1 hown' hgrow hrow
       go_wp2
       go_roundw
       ·exact ⟨s+1,_,by go_num,by omega,by rw [hf.out,List.length_append];exact HR4,hb4⟩
       ·simp [intOf];omega
      ·have hf:=zF (hno.out h1)
       have hk9:=zF (zA HBK.out hb9)
       have ho9:=zF (zAA hk9.out HO.out.1)
       have hr9:=zF (HO.out.2.keep (zAQ hk9.out))
       have HB9:=zF (zA HB6.out hk9.out)
       clear h1 hr hcall hyes hno hb9
       go_wp2
       go_roundw
       ·exact ⟨s+1,cs,by go_num,by omega,by rw [hf.out];exact zF ⟨ho9.out,hr9.out⟩,HB9⟩
       ·simp [intOf];omega
     case pos =>
      have hjk:(j:Int) < b.rs.length:=by omega
      have hbit:=bit10 s (by omega) j (by omega)
      have hos:=zF (outOf_succ (b:=b) (s:=s) hjl)
      have hky:=zF (fun h=>kept_yes HV.out (s:=s) hjl h)
      have hkn:=zF (fun h=>kept_no HV.out (s:=s) hjl h)
      have hol:=outOf_le b s j
      have hkl:=kept_le b s j
      obtain ⟨gz,oz,haz,⟨z0,z1,z2,z3,z4⟩,hrn⟩:=(zZ (zI zAV (zA HB6.out HBK.out) HA.out.at_.rs)).2 j hjl
      cases haz
      generalize b.rs[j]=r at *
      have hba:=zB wr (.cells #[.int .i64 r.num,.int .i64 r.m,.int .i64 r.d,.int .i64 r.l,.int .u8 r.k] 116)
      have hrl:=Lay.new wr 116 #[.int .i64 r.num,.int .i64 r.m,.int .i64 r.d,.int .i64 r.l,.int .u8 r.k]
      have hsz1:Hid ((wr.alloc (.cells #[.int .i64 r.num,.int .i64 r.m,.int .i64 r.d,.int .i64 r.l,.int .u8 r.k] 116)).heap.size=wr.heap.size+1):=World.size_alloc _ _
      have HBA:=zF (zA HBK.out hba)
      have H1A:=zF (zAA hba HO1.out)
      have H2A:=zF (zAA hba HO2.out)
      have HRL:=zF hrl
      have hszr:=HBK.out.size
      unfold zJ at z0 z1 z2 z3 z4
      clear hba hrl hrn HO1 HO2 HBK
      cases htb:s.testBit j with
      | true =>
        rw [htb,if_pos rfl] at hbit
        have ho:=zF hos.out
        rw [htb,if_pos rfl] at ho
        have hk2:=zF (hkn.out htb)
        have hcn:=zF (cell_one_new (wr.alloc (.cells #[.int .i64 r.num,.int .i64 r.m,.int .i64 r.d,.int .i64 r.l,.int .u8 r.k] 116)) (.int .i64 r.num) 3)
        rw [hsz1.out] at hcn
        clear htb hos hky hkn
        go_wp2_with (at_builtin;refine wpList_append_own _ rfl _ _ 28 rfl wk.heap.size 3 i0 (.int .i64 0) 1 8 underlying28 hif iz0 iz1 iz2 rfl (by decide) _ _ _ rfl (H1A.out.alloc _) ⟨wr.heap.size+1,0,none⟩ 1 1 [.int .i64 r.num] rfl rfl hcn.out (by simp [Value.oneCell']) (by unfold maxLen;omega) (by omega) (by simp;omega) ?_;intro v' w4 hown' hgrow _)
        have hbb:=zB (wr.alloc (.cells #[.int .i64 r.num,.int .i64 r.m,.int .i64 r.d,.int .i64 r.l,.int .u8 r.k] 116)) (.cells #[.int .i64 r.num] 3)
        have hb4:=zF ((zA HBA.out hbb).grown hgrow (zA HBA.out hbb).size (fun k e=>(H1A.out.lt k e).1))
        have h24:=zF (zGF (zCE (es:=[116]) hgrow (H1A.out.alloc _) (by decide)) (by simp) (zAA hbb H2A.out))
        have h14:=zF hown'
        clear hbb hown' hgrow
        go_wp2
        go_roundw
        ·exact ⟨j+1,by go_num,by omega,by rw [ho.out,List.map_append,List.length_append];exact h14,by rw [hk2.out];exact h24,hb4⟩
        ·simp [intOf];omega
      | false =>
        rw [htb] at hbit
        simp only [Bool.false_eq_true,if_false] at hbit
        have ho:=zF hos.out
        rw [htb] at ho
        simp only [Bool.false_eq_true,if_false,List.append_nil] at ho
        have hk2:=zF (hky.out htb)
        have q0:=HRL.out.cell 0 _ rfl
        have q1:=HRL.out.cell 1 _ rfl
        have q2:=HRL.out.cell 2 _ rfl
        have q3:=HRL.out.cell 3 _ rfl
        have q4:=HRL.out.cell 4 _ rfl
        have hcs:∀ i u,[Value.int .i64 r.num,.int .i64 r.m,.int .i64 r.d,.int .i64 r.l,.int .u8 r.k][i]? = some u→((wr.alloc (.cells #[.int .i64 r.num,.int .i64 r.m,.int .i64 r.d,.int .i64 r.l,.int .u8 r.k] 116)).alloc (.cells #[.int .i64 r.num,.int .i64 r.m,.int .i64 r.d,.int .i64 r.l,.int .u8 r.k] 116)).cell? ((⟨wr.heap.size+1,0,none⟩ : Addr).add i)=some u:=fun i u hi=>by
         rw [zBP,← hsz1.out]
         exact zU (wr.alloc (.cells #[.int .i64 r.num,.int .i64 r.m,.int .i64 r.d,.int .i64 r.l,.int .u8 r.k] 116)) #[.int .i64 r.num,.int .i64 r.m,.int .i64 r.d,.int .i64 r.l,.int .u8 r.k] _ i u (by simpa using hi)
        have HCS:=zF hcs
        clear htb hos hky hkn q0 q1 q2 q3 q4 hcs
        go_wp2_with (at_builtin;refine wpList_append_own _ rfl _ _ 30 rfl wk.heap.size 116 j0 (.agg #[.int .i64 0,.int .i64 0,.int .i64 0,.int .i64 0,.int .u8 0]) 5 40 underlying30 hjf jz0 jz1 jz2 rfl (by decide) _ _ _ rfl (H2A.out.alloc _) ⟨wr.heap.size+1,0,none⟩ 1 1 [.int .i64 r.num,.int .i64 r.m,.int .i64 r.d,.int .i64 r.l,.int .u8 r.k] rfl rfl HCS.out (by intro u hu;simp at hu;rcases hu with rfl | rfl | rfl | rfl | rfl <;> rfl) (by unfold maxLen;omega) (by omega) (by simp;omega) ?_;intro v' w4 hown' hgrow _)
        have hbb:=zB (wr.alloc (.cells #[.int .i64 r.num,.int .i64 r.m,.int .i64 r.d,.int .i64 r.l,.int .u8 r.k] 116)) (.cells #[.int .i64 r.num,.int .i64 r.m,.int .i64 r.d,.int .i64 r.l,.int .u8 r.k] 116)
        have hb4:=zF ((zA HBA.out hbb).grown hgrow (zA HBA.out hbb).size (fun k e=>(H2A.out.lt k e).1))
        have h14:=zF (zGF (zCE (es:=[3]) hgrow (H2A.out.alloc _) (by decide)) (by simp) (zAA hbb H1A.out))
        have h24:=zF hown'
        clear hbb hown' hgrow
        go_wp2
        go_roundw
        ·exact ⟨j+1,by go_num,by omega,by rw [ho.out];exact h14,by rw [hk2.out,List.length_append,List.flatMap_append,List.flatMap_singleton];exact h24,hb4⟩
        ·simp [intOf];omega
end
section
open Go.RowKit
attribute [local go_sem] zAN
def RetT (w:World) (e:Ending) (w':World) : Prop:=e = .returned (.bool true)∧Below w.heap.size w w'
theorem law_walk (w:World) (vr vn vm vh vz:Value) (b:Built) (x:Int) (h:BuiltAt w vr vn vm vh vz b) (hlook:Looks w) (hlookn:zIW w) (hkind:KindsAt w) (hx:I64 x) :
  Calls prog 5 #[.agg #[vr,vn,.int .i64 b.of,vm,vh,vz],.int .i64 x] w (RetT w):=by
 obtain ⟨ar,cr,rfl,_⟩:=zD h.reg
 obtain ⟨an,cn,rfl,_⟩:=zD h.notes
 obtain ⟨am,cm,rfl,_⟩:=zD h.ms
 obtain ⟨ah,ch,rfl,_⟩:=zD h.hs
 obtain ⟨as',cs',rfl,_⟩:=zD h.rs
 have hb1:=zB w (.cells #[.slice ar b.ns.reg.length cr,.slice an b.ns.notes.length cn,.int .i64 b.of,.slice am b.ms.length cm,.slice ah b.hs.length ch,.slice as' b.rs.length cs'] 32)
 have HL:=zF (Lay.new w 32 #[.slice ar b.ns.reg.length cr,.slice an b.ns.notes.length cn,.int .i64 b.of,.slice am b.ms.length cm,.slice ah b.hs.length ch,.slice as' b.rs.length cs'])
 have LK:=zF (And.intro hlook (And.intro hlookn hkind))
 have HB:=zF (h.ext hb1)
 have HW:=zF hb1
 clear h hb1 hlook hlookn hkind
 have k0:=HL.out.cell 0 _ rfl
 have k1:=HL.out.cell 1 _ rfl
 have k2:=HL.out.cell 2 _ rfl
 have k3:=HL.out.cell 3 _ rfl
 have k4:=HL.out.cell 4 _ rfl
 have k5:=HL.out.cell 5 _ rfl
 go_enter func5,ntmps5
 go_wp2_with fail
 clear k0 k1 k2 k3 k4 k5
 generalize w.alloc _=w1 at *
 refine (great08 _ _ _ _ _ _ b HB.out).mono ?_
 intro e w2 hgreat
 rcases hgreat.both with ⟨g1,rfl,hb2⟩ | ⟨g1,rfl,hb2⟩
 ·clear hgreat
  go_wp2
  go_ret
  exact ⟨rfl,zA HW.out hb2⟩
 clear hgreat
 have HT:=zF (Classical.byContradiction g1)
 clear g1
 have HW:=zF (zA HW.out hb2)
 have HL:=zF (HL.out.ext hb2)
 have HB:=zF (HB.out.ext hb2)
 clear hb2
 have k0:=HL.out.cell 0 _ rfl
 have k1:=HL.out.cell 1 _ rfl
 have k2:=HL.out.cell 2 _ rfl
 have k3:=HL.out.cell 3 _ rfl
 have k4:=HL.out.cell 4 _ rfl
 have k5:=HL.out.cell 5 _ rfl
 go_wp2_with fail
 clear k0 k1 k2 k3 k4 k5
 refine (twin08 _ _ _ _ _ _ b HB.out HT.out).mono ?_
 rintro e w4 ⟨ur,un,um,uh,us,rfl,hN,-,hb2,hcr,hcn,hch⟩
 have HO:=zF hN
 obtain ⟨ar1,cr1,rfl,_⟩:=zD hN.reg
 obtain ⟨an1,cn1,rfl,_⟩:=zD hN.notes
 obtain ⟨am1,cm1,rfl,_⟩:=zD hN.ms
 obtain ⟨ah1,ch1,rfl,_⟩:=zD hN.hs
 obtain ⟨az1,cz1,rfl,_⟩:=zD hN.rs
 have HC:=zF (And.intro hcr (And.intro hcn hch))
 have HW:=zF (zA HW.out hb2)
 have HL:=zF (HL.out.ext hb2)
 have HB:=zF (HB.out.ext hb2)
 have LK:=zF (And.intro (LK.out.1.ext HW.out) (And.intro (LK.out.2.1.ext HW.out) (LK.out.2.2.ext HW.out)))
 clear hN hcr hcn hch hb2
 have hb2:=zB w4 (.cells #[.slice ar1 b.ns.reg.length cr1,.slice an1 b.ns.notes.length cn1,.int .i64 b.of,.slice am1 b.ms.length cm1,.slice ah1 b.hs.length ch1,.slice az1 b.rs.length cz1] 32)
 have l5:=Lay.new w4 32 #[.slice ar1 b.ns.reg.length cr1,.slice an1 b.ns.notes.length cn1,.int .i64 b.of,.slice am1 b.ms.length cm1,.slice ah1 b.hs.length ch1,.slice az1 b.rs.length cz1]
 have HW:=zF (zA HW.out hb2)
 have HL:=zF (HL.out.ext hb2)
 have HB:=zF (HB.out.ext hb2)
 have HO:=HO.out.ext hb2
 have HK:=zF (LK.out.2.2.ext hb2)
 have HA:=zF (show BuiltArg (w4.alloc (.cells #[.slice ar1 b.ns.reg.length cr1,.slice an1 b.ns.notes.length cn1,.int .i64 b.of,.slice am1 b.ms.length cm1,.slice ah1 b.hs.length ch1,.slice az1 b.rs.length cz1] 32)) _ _ _ _ _ b from ⟨⟨⟨HO.at.reg,HC.out.1,LK.out.1.ext hb2⟩,HO.at.notes,HC.out.2.1⟩,HO.at,HC.out.2.2,LK.out.2.1.ext hb2⟩)
 have HL5:=zF l5
 clear hb2 HO HC LK l5
 have k0:=HL5.out.cell 0 _ rfl
 have k1:=HL5.out.cell 1 _ rfl
 have k2:=HL5.out.cell 2 _ rfl
 have k3:=HL5.out.cell 3 _ rfl
 have k4:=HL5.out.cell 4 _ rfl
 have k5:=HL5.out.cell 5 _ rfl
 go_wp2_with fail
 clear k0 k1 k2 k3 k4 k5
 generalize hg5:w4.heap.size=g5 at *
 generalize w4.alloc _=w5 at *
 clear hg5
 refine (until_built _ _ _ _ _ _ b x HA.out HK.out hx).mono ?_
 rintro e w6 ⟨rfl,hb2⟩
 have HW:=zF (zA HW.out hb2)
 have HL:=zF (HL.out.ext hb2)
 have HB:=zF (HB.out.ext hb2)
 have HK:=zF (HK.out.ext hb2)
 have HA:=zF (HA.out.ext hb2)
 have HL5:=zF (HL5.out.ext hb2)
 clear hb2
 have hb2:=zB w6 (.cells #[.int .i64 (zRV b x).lo,.int .i64 (zRV b x).hi] 38)
 have l1:=Lay.new w6 38 #[.int .i64 (zRV b x).lo,.int .i64 (zRV b x).hi]
 have HW:=zF (zA HW.out hb2)
 have HL:=zF (HL.out.ext hb2)
 have HB:=zF (HB.out.ext hb2)
 have HK:=zF (HK.out.ext hb2)
 have HA:=zF (HA.out.ext hb2)
 have HL5:=zF (HL5.out.ext hb2)
 have HS1:=zF l1
 clear hb2 l1
 have k0:=HL.out.cell 0 _ rfl
 have k1:=HL.out.cell 1 _ rfl
 have k2:=HL.out.cell 2 _ rfl
 have k3:=HL.out.cell 3 _ rfl
 have k4:=HL.out.cell 4 _ rfl
 have k5:=HL.out.cell 5 _ rfl
 go_wp2_with fail
 clear k0 k1 k2 k3 k4 k5
 generalize hg1:w6.heap.size=g1 at *
 generalize w6.alloc _=w7 at *
 clear hg1
 refine (until08_all _ _ _ _ _ _ b x HB.out).mono ?_
 rintro e w8 ⟨rfl,hb2⟩
 have HW:=zF (zA HW.out hb2)
 have HL:=zF (HL.out.ext hb2)
 have HB:=zF (HB.out.ext hb2)
 have HK:=zF (HK.out.ext hb2)
 have HA:=zF (HA.out.ext hb2)
 have HL5:=zF (HL5.out.ext hb2)
 have HS1:=zF (HS1.out.ext hb2)
 clear hb2
 have hb2:=zB w8 (.cells #[.int .i64 (zRV b x).lo,.int .i64 (zRV b x).hi] 38)
 have l1:=Lay.new w8 38 #[.int .i64 (zRV b x).lo,.int .i64 (zRV b x).hi]
 have HW:=zF (zA HW.out hb2)
 have HL:=zF (HL.out.ext hb2)
 have HB:=zF (HB.out.ext hb2)
 have HK:=zF (HK.out.ext hb2)
 have HA:=zF (HA.out.ext hb2)
 have HL5:=zF (HL5.out.ext hb2)
 have HS1:=zF (HS1.out.ext hb2)
 have HS2:=zF l1
 clear hb2 l1
 have k0:=HL5.out.cell 0 _ rfl
 have k1:=HL5.out.cell 1 _ rfl
 have k2:=HL5.out.cell 2 _ rfl
 have k3:=HL5.out.cell 3 _ rfl
 have k4:=HL5.out.cell 4 _ rfl
 have k5:=HL5.out.cell 5 _ rfl
 go_wp2_with fail
 clear k0 k1 k2 k3 k4 k5
 generalize hg2:w8.heap.size=g2 at *
 generalize w8.alloc _=w9 at *
 clear hg2
 refine (settled_built _ _ _ _ _ _ b HA.out HK.out).mono ?_
 rintro e w10 ⟨l,rfl,hl,hb2⟩
 obtain ⟨al,cl,rfl,_⟩:=zD hl
 have HW:=zF (zA HW.out hb2)
 have HL:=zF (HL.out.ext hb2)
 have HB:=zF (HB.out.ext hb2)
 have HK:=zF (HK.out.ext hb2)
 have HA:=zF (HA.out.ext hb2)
 have HL5:=zF (HL5.out.ext hb2)
 have HS1:=zF (HS1.out.ext hb2)
 have HS2:=zF (HS2.out.ext hb2)
 have H1:=zF hl
 clear hb2 hl
 have k0:=HL.out.cell 0 _ rfl
 have k1:=HL.out.cell 1 _ rfl
 have k2:=HL.out.cell 2 _ rfl
 have k3:=HL.out.cell 3 _ rfl
 have k4:=HL.out.cell 4 _ rfl
 have k5:=HL.out.cell 5 _ rfl
 go_wp2_with fail
 clear k0 k1 k2 k3 k4 k5
 refine (settled08 _ _ _ _ _ _ b HB.out).mono ?_
 rintro e w11 ⟨m,rfl,hm,hb2⟩
 obtain ⟨am',cm',rfl,_⟩:=zD hm
 have HW:=zF (zA HW.out hb2)
 have HL:=zF (HL.out.ext hb2)
 have HB:=zF (HB.out.ext hb2)
 have HK:=zF (HK.out.ext hb2)
 have HA:=zF (HA.out.ext hb2)
 have HL5:=zF (HL5.out.ext hb2)
 have HS1:=zF (HS1.out.ext hb2)
 have HS2:=zF (HS2.out.ext hb2)
 have H1:=zF (zI stays_u8 hb2 H1.out)
 have H2:=zF hm
 clear hb2 hm
 have s0:=HS1.out.cell 0 _ rfl
 have s1:=HS1.out.cell 1 _ rfl
 have t0:=HS2.out.cell 0 _ rfl
 have t1:=HS2.out.cell 1 _ rfl
 go_wp2_with fail
 clear s0 s1 t0 t1
 refine (sameKnown08 _ _ _ (setL b) H1.out H2.out).mono ?_
 rintro e w12 ⟨rfl,hb2⟩
 have HW:=zF (zA HW.out hb2)
 have HL:=zF (HL.out.ext hb2)
 have HB:=zF (HB.out.ext hb2)
 have HK:=zF (HK.out.ext hb2)
 have HA:=zF (HA.out.ext hb2)
 have HL5:=zF (HL5.out.ext hb2)
 clear hb2 HS1 HS2 H1 H2
 have k0:=HL5.out.cell 0 _ rfl
 have k1:=HL5.out.cell 1 _ rfl
 have k2:=HL5.out.cell 2 _ rfl
 have k3:=HL5.out.cell 3 _ rfl
 have k4:=HL5.out.cell 4 _ rfl
 have k5:=HL5.out.cell 5 _ rfl
 go_wp2_with fail
 clear k0 k1 k2 k3 k4 k5
 refine (clash_built _ _ _ _ _ _ b HA.out HK.out).mono ?_
 rintro e w13 ⟨l1,rfl,hl,hb2⟩
 obtain ⟨al1,cl1,rfl,_⟩:=zD hl
 have HW:=zF (zA HW.out hb2)
 have HL:=zF (HL.out.ext hb2)
 have HB:=zF (HB.out.ext hb2)
 have HK:=zF (HK.out.ext hb2)
 have HA:=zF (HA.out.ext hb2)
 have HL5:=zF (HL5.out.ext hb2)
 have H1:=zF hl
 clear hb2 hl
 have k0:=HL.out.cell 0 _ rfl
 have k1:=HL.out.cell 1 _ rfl
 have k2:=HL.out.cell 2 _ rfl
 have k3:=HL.out.cell 3 _ rfl
 have k4:=HL.out.cell 4 _ rfl
 have k5:=HL.out.cell 5 _ rfl
 go_wp2_with fail
 clear k0 k1 k2 k3 k4 k5
 refine (clash08 _ _ _ _ _ _ b HB.out).mono ?_
 rintro e w14 ⟨l2,rfl,hl,hb2⟩
 obtain ⟨al2,cl2,rfl,_⟩:=zD hl
 have HW:=zF (zA HW.out hb2)
 have HL:=zF (HL.out.ext hb2)
 have HB:=zF (HB.out.ext hb2)
 have HK:=zF (HK.out.ext hb2)
 have HA:=zF (HA.out.ext hb2)
 have HL5:=zF (HL5.out.ext hb2)
 have H1:=zF (zI zN hb2 H1.out)
 have H2:=zF hl
 clear hb2 hl
 have k0:=HL5.out.cell 0 _ rfl
 have k1:=HL5.out.cell 1 _ rfl
 have k2:=HL5.out.cell 2 _ rfl
 have k3:=HL5.out.cell 3 _ rfl
 have k4:=HL5.out.cell 4 _ rfl
 have k5:=HL5.out.cell 5 _ rfl
 go_wp2_with fail
 clear k0 k1 k2 k3 k4 k5
 refine (withdraw_built _ _ _ _ _ _ b HA.out HK.out).mono ?_
 rintro e w15 ⟨l3,rfl,hl,hb2⟩
 obtain ⟨al3,cl3,rfl,_⟩:=zD hl
 have HW:=zF (zA HW.out hb2)
 have HL:=zF (HL.out.ext hb2)
 have HB:=zF (HB.out.ext hb2)
 have HK:=zF (HK.out.ext hb2)
 have HA:=zF (HA.out.ext hb2)
 have HL5:=zF (HL5.out.ext hb2)
 have H1:=zF (zI zN hb2 H1.out)
 have H2:=zF (zI zN hb2 H2.out)
 have H3:=zF hl
 clear hb2 hl
 have k0:=HL.out.cell 0 _ rfl
 have k1:=HL.out.cell 1 _ rfl
 have k2:=HL.out.cell 2 _ rfl
 have k3:=HL.out.cell 3 _ rfl
 have k4:=HL.out.cell 4 _ rfl
 have k5:=HL.out.cell 5 _ rfl
 go_wp2_with fail
 clear k0 k1 k2 k3 k4 k5
 refine (withdraw08 _ _ _ _ _ _ b HB.out).mono ?_
 rintro e w16 ⟨l4,rfl,hl,hb2⟩
 obtain ⟨al4,cl4,rfl,_⟩:=zD hl
 have HW:=zF (zA HW.out hb2)
 have HL:=zF (HL.out.ext hb2)
 have HB:=zF (HB.out.ext hb2)
 have HK:=zF (HK.out.ext hb2)
 have HA:=zF (HA.out.ext hb2)
 have HL5:=zF (HL5.out.ext hb2)
 have H1:=zF (zI zN hb2 H1.out)
 have H2:=zF (zI zN hb2 H2.out)
 have H3:=zF (zI zN hb2 H3.out)
 have H4:=zF hl
 clear hb2 hl
 go_wp2_with fail
 refine (sameInts02 _ _ _ (claL b) H1.out H2.out).mono ?_
 rintro e w17 ⟨rfl,hb2⟩
 have HW:=zF (zA HW.out hb2)
 have HL:=zF (HL.out.ext hb2)
 have HB:=zF (HB.out.ext hb2)
 have HK:=zF (HK.out.ext hb2)
 have HA:=zF (HA.out.ext hb2)
 have HL5:=zF (HL5.out.ext hb2)
 have H3:=zF (zI zN hb2 H3.out)
 have H4:=zF (zI zN hb2 H4.out)
 clear hb2 H1 H2
 go_wp2_with fail
 refine (sameInts02 _ _ _ (wdL b) H3.out H4.out).mono ?_
 rintro e w18 ⟨rfl,hb2⟩
 have HW:=zF (zA HW.out hb2)
 have HL:=zF (HL.out.ext hb2)
 have HB:=zF (HB.out.ext hb2)
 have HK:=zF (HK.out.ext hb2)
 have HA:=zF (HA.out.ext hb2)
 have HL5:=zF (HL5.out.ext hb2)
 clear hb2 H3 H4
 have j0:=HL.out.cell 0 _ rfl
 have j1:=HL.out.cell 1 _ rfl
 have j2:=HL.out.cell 2 _ rfl
 have j3:=HL.out.cell 3 _ rfl
 have j4:=HL.out.cell 4 _ rfl
 have j5:=HL.out.cell 5 _ rfl
 have k0:=HL5.out.cell 0 _ rfl
 have k1:=HL5.out.cell 1 _ rfl
 have k2:=HL5.out.cell 2 _ rfl
 have k3:=HL5.out.cell 3 _ rfl
 have k4:=HL5.out.cell 4 _ rfl
 have k5:=HL5.out.cell 5 _ rfl
 go_wp2_with fail
 clear k0 k1 k2 k3 k4 k5 j0 j1 j2 j3 j4 j5
 refine (sameBuilt08 _ _ _ _ _ _ _ _ _ _ _ b HA.out.at_ HB.out).mono ?_
 rintro e w19 ⟨rfl,hb2⟩
 go_wp2
 go_ret
 exact ⟨rfl,zA HW.out hb2⟩
end
end Go.Proofs.YtpolpdegpbahiaaGreatDoor
