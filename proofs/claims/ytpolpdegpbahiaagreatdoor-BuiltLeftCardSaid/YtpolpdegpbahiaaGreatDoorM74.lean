/- The program: the least and the greatest one of what several finds tell. -/
import Derived.WalkMore
import Derived.Laws.AppendOwn
import Derived.RangeFuncWrites
import Derived.RangeFuncNested
import Derived.Test.YtpolpdegpbahiaaGreatDoorM02
import Derived.Test.YtpolpdegpbahiaaGreatDoorM53
import Derived.Test.YtpolpdegpbahiaaGreatDoorM55
import Derived.Test.YtpolpdegpbahiaaGreatDoorM64
import Derived.Test.YtpolpdegpbahiaaGreatDoorM66
import Derived.Test.YtpolpdegpbahiaaGreatDoorM73
set_option linter.all false
set_option maxRecDepth 100000
set_option maxHeartbeats 12800000

namespace Go.Proofs.YtpolpdegpbahiaaGreatDoor
open Tryz
section
open Go.RowKit Go.Shelf
attribute [local go_sem] zAN Oper.grows Oper.growUpon
def AtSpan (w:World) (b o:Nat) (x:Span) : Prop:=(zJ w b o (.int .i64 x.lo)∧zJ w b (o+1) (.int .i64 x.hi))∧I64 x.lo∧I64 x.hi
theorem stays_span:zHU AtSpan:=fun _ _ _ _ _ hb ⟨⟨h0,h1⟩,hr⟩=>⟨⟨zC hb h0,zC hb h1⟩,hr⟩
theorem infoSpan:(prog.info? 38).map (fun i=>(i.zero,i.size,i.bytes))=some (some (.agg #[.int .i64 0,.int .i64 0]),2,16):=by kernel_rfl
def encS (x:Span) : List Value:=[.int .i64 x.lo,.int .i64 x.hi]
theorem zLW (L:List Span) (k:Nat) (hk:k < L.length) : (L.flatMap encS)[k*2]? = some (.int .i64 L[k].lo)∧(L.flatMap encS)[k*2+1]? = some (.int .i64 L[k].hi):=by
 induction L generalizing k with
 | nil=>simp at hk
 | cons x L ih =>
   cases k with
   | zero=>simp [encS]
   | succ k =>
     have:=ih k (by simpa using hk)
     have e1:(k+1)*2=k*2+1+1:=by omega
     simp only [List.flatMap_cons,encS,List.cons_append,List.nil_append,List.getElem_cons_succ,e1,List.getElem?_cons_succ]
     exact this
theorem encS_set (L:List Span) (k:Nat) (x:Span) : ((L.flatMap encS).set (k*2) (.int .i64 x.lo)).set (k*2+1) (.int .i64 x.hi)=(L.set k x).flatMap encS:=by
 induction L generalizing k with
 | nil=>simp
 | cons y L ih =>
   cases k with
   | zero=>simp [encS]
   | succ k =>
     have e1:(k+1)*2=k*2+1+1:=by omega
     simp only [List.flatMap_cons,encS,List.cons_append,List.nil_append,List.set_cons_succ,e1]
     rw [ih]
theorem spans_of_own {w:World} {base:Nat} {v:Value} {L:List Span} (h:w.ownsRow base 38 2 v L.length (L.flatMap encS)) (hI:∀ x∈L,I64 x.lo∧I64 x.hi) : Sl AtSpan 2 w v L:=by
 have h':=h
 obtain ⟨_,h2⟩:=h
 rcases h2 with ⟨rfl,hn⟩ | ⟨g,cap,cur,rfl,_,_,hc,hcm,_⟩
 ·exact ⟨none,0,by rw [hn],by omega,fun k hk=>by omega⟩
 ·refine ⟨some ⟨g,0,none⟩,cap,rfl,by unfold maxLen at hcm;omega,fun k hk=>⟨g,0,rfl,⟨?_,?_⟩,hI _ (List.getElem_mem hk)⟩⟩
  ·have:=h'.cells (g:=g) rfl _ _ (zLW L k hk).1
   rw [zBP] at this
   unfold zJ
   simpa using this
  ·have:=h'.cells (g:=g) rfl _ _ (zLW L k hk).2
   rw [zBP] at this
   unfold zJ
   simpa using this
def zFL (b:Built) : List Span:=b.hs.map fun h=>⟨h.lo,h.hi⟩
noncomputable def zDR (b:Built) (S:List Int) (L:List Span) (rs:List Report) : Option (List Span):=zKS (fun r=>zAB b S r.m r.d) (zLZ b S) L rs
open Classical in
theorem leftBy_step (b:Built) (S:List Int) (L:List Span) (rs:List Report) (j:Nat) (hj:j < rs.length) : zDR b S L (rs.drop j) =
  if 0≤(zAB b S rs[j].m rs[j].d).h then (if (meet (L.getD (zAB b S rs[j].m rs[j].d).h.toNat zDV) (zBN (zAB b S rs[j].m rs[j].d) (zLZ b S rs[j]) rs[j].l rs[j].k)).lo≤(meet (L.getD (zAB b S rs[j].m rs[j].d).h.toNat zDV) (zBN (zAB b S rs[j].m rs[j].d) (zLZ b S rs[j]) rs[j].l rs[j].k)).hi then zDR b S (L.set (zAB b S rs[j].m rs[j].d).h.toNat (meet (L.getD (zAB b S rs[j].m rs[j].d).h.toNat zDV) (zBN (zAB b S rs[j].m rs[j].d) (zLZ b S rs[j]) rs[j].l rs[j].k))) (rs.drop (j+1)) else none)
  else if zBN (zAB b S rs[j].m rs[j].d) (zLZ b S rs[j]) rs[j].l rs[j].k=zDV then none else zDR b S L (rs.drop (j+1)):=by
 rw [List.drop_eq_getElem_cons hj]
 rfl
theorem allowed_bd {x:Has} {bef l k:Int} (hc:0≤x.c∧x.c≤16777216000000) (hb:0≤bef∧bef≤12*16777216000000) : I64 (zBN x bef l k).lo∧I64 (zBN x bef l k).hi:=by
 unfold zBN spanAll zDV most I64
 repeat' split
 all_goals (simp only;omega)
def NumsOk (L:List Span) : Prop:=∀ x∈L,I64 x.lo∧I64 x.hi
theorem meet_ok {a c:Span} (ha:I64 a.lo∧I64 a.hi) (hc:I64 c.lo∧I64 c.hi) : I64 (meet a c).lo∧I64 (meet a c).hi:=by
 unfold meet I64 at *
 simp only
 omega
theorem left_site (w:World) (p:Nat) (vr vn vm vh vs vz vq:Value) (b:Built) (S:List Int) (rs:List Report) (hS:SiteAt w p vr vn vm vh vs vz b S) (hK:KindsAt w) (hv:zM b=0) (hq:Sl zDD 5 w vq rs) (hr:∀ r∈rs,zDF b.ns.reg b.ms r) :
  Calls prog 100 #[.pointer (some ⟨p,0,none⟩),vq] w fun e w'=>Below w.heap.size w w'∧match zDR b S (zFL b) rs with
   | some L=>∃ v base,e = .returned (.tuple #[v,.bool true])∧w'.ownsRow base 38 2 v L.length (L.flatMap encS)∧NumsOk L∧∃ a c,v = .slice a L.length c
   | none=>e = .returned (.tuple #[.slice none 0 0,.bool false]):=by
 obtain ⟨i0,hif,iz0,iz1,iz2⟩:=info_parts infoSpan
 obtain ⟨vhas,hLs,_⟩:=hS.box
 obtain ⟨ah,ch,rfl,_⟩:=zD hS.at_.hs
 obtain ⟨aq,cq,rfl,_⟩:=zD hq
 have s4:=hLs.cell 4 _ rfl
 have HS:=zF hS
 have HK:=zF hK
 have HQ:=zF hq
 have hrr:=zF hr
 have hh4:b.hs.length≤4:=(zW hv).2.2.2.1
 have hheap:=zF (fun k (hk:k < b.hs.length)=>zDP hv hk)
 have hsl:Hid ((zFL b).length=b.hs.length):=by unfold Hid zFL;rw [List.length_map]
 clear hS hK hq hLs hr
 go_enter func100,ntmps100
 go_wp2
 go_step3
 go_wp2
 clear s4
 go_loopw [6,19] (fun q i wr=>∃ k:Nat,i = .int .i64 k∧k≤b.hs.length∧Hid (wr.ownsRow w.heap.size 38 2 q k (((zFL b).take k).flatMap encS))∧Hid (Below w.heap.size w wr)) (fun _ i _=>b.hs.length - (intOf i).toNat)
 case atStart=>exact ⟨0,rfl,by omega,zF (World.ownsRow_nil _ _ _ _),zF (br_)⟩
 case round =>
  obtain ⟨k,rfl,hk,HO,HB⟩:=hrel
  by_cases hlt:k < b.hs.length
  case pos =>
   obtain ⟨bh,oh,rfl,⟨g0,g1,g2,g3⟩,hg⟩:=(zZ (zI (α:=Heap) zCL HB.out HS.out.at_.hs)).2 k hlt
   have htk:Hid ((zFL b).take (k+1)=(zFL b).take k++[⟨b.hs[k].lo,b.hs[k].hi⟩]):=by
    unfold Hid
    have hlk:k < (zFL b).length:=by have:=hsl.out;omega
    rw [List.take_succ_eq_append_getElem hlk]
    congr 1
    simp [zFL]
   generalize b.hs[k]=h at *
   obtain ⟨hd,hle,hlo,hhi⟩:=h
   simp only at *
   have hkl:(k:Int) < b.hs.length:=by omega
   have hba:=zB wr (.cells #[.int .i64 hd,.int .i64 hle,.int .i64 hlo,.int .i64 hhi] 114)
   have HOA:=zF (zAA hba HO.out)
   have HBA:=zF (zA HB.out hba)
   have hszr:=HB.out.size
   have hsA:Hid ((wr.alloc (.cells #[.int .i64 hd,.int .i64 hle,.int .i64 hlo,.int .i64 hhi] 114)).heap.size=wr.heap.size+1):=World.size_alloc _ _
   have hc1:∀ j u,[Value.int .i64 hlo,.int .i64 hhi][j]? = some u→((wr.alloc (.cells #[.int .i64 hd,.int .i64 hle,.int .i64 hlo,.int .i64 hhi] 114)).alloc (.cells #[.int .i64 hlo,.int .i64 hhi] 38)).cell? ((⟨wr.heap.size+1,0,none⟩ : Addr).add j)=some u:=fun j u hj=>by
    rw [zBP,← hsA.out]
    exact zU (wr.alloc (.cells #[.int .i64 hd,.int .i64 hle,.int .i64 hlo,.int .i64 hhi] 114)) #[.int .i64 hlo,.int .i64 hhi] _ j u (by simpa using hj)
   unfold zJ at g0 g1 g2 g3
   clear hba HO
   go_wp2_with (at_builtin;refine wpList_append_own _ rfl _ _ 93 rfl w.heap.size 38 i0 (.agg #[.int .i64 0,.int .i64 0]) 2 16 underlying93 hif iz0 iz1 iz2 rfl (by decide) _ _ _ rfl (HOA.out.alloc _) ⟨wr.heap.size+1,0,none⟩ 1 1 [.int .i64 hlo,.int .i64 hhi] rfl rfl hc1 (by intro u hu;simp at hu;rcases hu with rfl | rfl <;> rfl) (by unfold maxLen;omega) (by omega) (by simp;omega) ?_;intro v' w4 hown' hgrow _)
   have hbb:=zB (wr.alloc (.cells #[.int .i64 hd,.int .i64 hle,.int .i64 hlo,.int .i64 hhi] 114)) (.cells #[.int .i64 hlo,.int .i64 hhi] 38)
   have HB4:=zF ((zA HBA.out hbb).grown hgrow (zA HBA.out hbb).size (fun r e=>(HOA.out.lt r e).1))
   have HO4:Hid (w4.ownsRow w.heap.size 38 2 v' (k+1) (((zFL b).take (k+1)).flatMap encS)):=by
    unfold Hid
    rw [htk.out,List.flatMap_append,List.flatMap_singleton]
    exact hown'
   clear hown' hgrow hbb
   go_wp2
   go_roundw
   ·exact ⟨k+1,by go_num,by omega,HO4,HB4⟩
   ·simp [intOf];omega
  case neg =>
   obtain rfl:k=b.hs.length:=by omega
   have hO:=HO.out
   rw [List.take_of_length_le (show (zFL b).length≤b.hs.length by have:=hsl.out;omega)] at hO
   have hN0:NumsOk (zFL b):=fun x hx=>by
    unfold zFL at hx
    obtain ⟨h,hh,rfl⟩:=List.mem_map.1 hx
    obtain ⟨k,hk,rfl⟩:=List.getElem_of_mem hh
    have:=hheap.out k hk
    unfold I64
    simp only
    omega
   have HO:=zF hO
   have HN0:=zF hN0
   have hsh:=zGR hO
   obtain ⟨al,cl,rfl⟩:=hsh
   clear hO hN0
   go_wp2
   go_step3
   go_wp2
   go_loopw [31] (fun i wr=>∃ (j:Nat) (L:List Span),i = .int .i64 j∧j≤rs.length∧L.length=b.hs.length∧Hid (wr.ownsRow w.heap.size 38 2 (.slice al b.hs.length cl) b.hs.length (L.flatMap encS))∧Hid (NumsOk L∧zDR b S (zFL b) rs=zDR b S L (rs.drop j))∧Hid (Below w.heap.size w wr)) (fun i _=>rs.length - (intOf i).toNat)
   case atStart=>exact ⟨0,zFL b,rfl,by omega,hsl.out,HO,zF ⟨HN0.out,by rw [List.drop_zero]⟩,HB⟩
   case round =>
    clear HO HN0 HB
    obtain ⟨j,L,rfl,hj,hLl,HO,HN,HB⟩:=hrel
    by_cases hlt:j < rs.length
    case neg =>
     obtain rfl:j=rs.length:=by omega
     have hfin:Hid (zDR b S (zFL b) rs=some L):=by unfold Hid;rw [HN.out.2,List.drop_length];rfl
     have hO:=HO.out
     rw [← hLl] at hO
     have hsp:=zF hO
     clear hO
     go_wp2
     try rw [Exit.noGoto_ret]
     go_ret2
     refine ⟨HB.out,?_⟩
     rw [hfin.out]
     exact ⟨.slice al b.hs.length cl,w.heap.size,rfl,by rw [← hLl];exact hsp.out,HN.out.1,al,cl,by rw [hLl]⟩
    case pos =>
     have hrok:=hrr.out _ (List.getElem_mem hlt)
     have hstep:=zF (leftBy_step b S L rs j hlt)
     obtain ⟨bq,oq,rfl,⟨q0,q1,q2,q3,q4⟩,hnum⟩:=(zZ (zI zAV HB.out HQ.out)).2 j hlt
     generalize rs[j]=r at *
     have hba:=zB wr (.cells #[.int .i64 r.num,.int .i64 r.m,.int .i64 r.d,.int .i64 r.l,.int .u8 r.k] 116)
     have hcall:=allowed_site (wr.alloc (.cells #[.int .i64 r.num,.int .i64 r.m,.int .i64 r.d,.int .i64 r.l,.int .u8 r.k] 116)) p vr vn vm _ vs vz b S r (HS.out.ext (zA HB.out hba)) (HK.out.ext (zA HB.out hba)) hv hrok ⟨hnum.2.2.1,hnum.2.2.2.1⟩
     have HOA:=zF (zAA hba HO.out)
     have HBA:=zF (zA HB.out hba)
     have hhb:=zFP b S r.m r.d
     have hAb:=allowed_bd (l:=r.l) (k:=r.k) (zGZ hv S r.m r.d) (befR_bd hv S hrok.2.2.1)
     have hjl:(j:Int) < rs.length:=by omega
     generalize zBN (zAB b S r.m r.d) (zLZ b S r) r.l r.k=X at *
     generalize zAB b S r.m r.d=H at *
     unfold zJ at q0 q1 q2 q3 q4
     clear hba hrok
     by_cases hh:0≤H.h
     ·have hkl:H.h.toNat < L.length:=by omega
      obtain ⟨g,hal⟩ : ∃ g,al=some ⟨g,0,none⟩:=by
       rcases HO.out.2 with ⟨h,h0⟩ | ⟨g,cap,cur,h,_⟩
       ·omega
       ·cases h;exact ⟨g,rfl⟩
      subst hal
      obtain ⟨kk,hkk⟩ : ∃ kk:Nat,H.h=kk:=⟨H.h.toNat,by omega⟩
      have hkn:H.h.toNat=kk:=by omega
      rw [hkn] at hkl
      have hc0:=HOA.out.cells (g:=g) rfl _ _ (zLW L kk hkl).1
      have hc1:=HOA.out.cells (g:=g) rfl _ _ (zLW L kk hkl).2
      rw [zBP] at hc0 hc1
      have hNk:=HN.out.1 _ (List.getElem_mem hkl)
      have hgd:L.getD kk zDV=L[kk]:=by rw [List.getD_eq_getElem?_getD,List.getElem?_eq_getElem hkl];rfl
      have hst:Hid (zDR b S (zFL b) rs=if (meet L[kk] X).lo≤(meet L[kk] X).hi then zDR b S (L.set kk (meet L[kk] X)) (rs.drop (j+1)) else none):=by
       unfold Hid
       rw [HN.out.2,hstep.out,if_pos hh,hkn,hgd]
      have HNK:=zF hNk
      have hX:=hAb
      clear hgd hstep hc0 hc1 hNk
      go_wp2_with (go_at_call 141;refine hcall.mono ?_;rintro e w3 ⟨rfl,hb3⟩)
      have hb4:=zB w3 (.cells #[.int .i64 X.lo,.int .i64 X.hi] 38)
      have hx:=Lay.new w3 38 #[.int .i64 X.lo,.int .i64 X.hi]
      have HO4:=zF (zAA (zA hb3 hb4) HOA.out)
      have HB4:=zF (zA HBA.out (zA hb3 hb4))
      have hxl:w3.heap.size≠g:=fun e=>by
       have:=(HOA.out.lt g rfl).2
       have:=hb3.size
       omega
      clear q0 q1 q2 q3 q4 hcall hb3 hb4
      generalize w3.alloc _=w4 at *
      have c0:=HO4.out.cells (g:=g) rfl _ _ (zLW L kk hkl).1
      have c1:=HO4.out.cells (g:=g) rfl _ _ (zLW L kk hkl).2
      rw [zBP] at c0 c1
      have f0:=zFE HO4.out (kk*2)
      have f1:=zFE HO4.out (kk*2+1)
      have fl:=(HO4.out.lt g rfl).2
      have x0:=hx.cell 0 _ rfl
      have x1:=hx.cell 1 _ rfl
      have hkb:(kk:Int) < b.hs.length:=by omega
      generalize L[kk]=Lk at *
      go_region
      have hmx:(if Lk.lo < X.lo then X.lo else Lk.lo)=(meet Lk X).lo:=by unfold meet;simp only;split <;> omega
      have hmn:(if X.hi < Lk.hi then X.hi else Lk.hi)=(meet Lk X).hi:=by unfold meet;simp only;split <;> omega
      have hMI:=meet_ok HNK.out hX
      first | rw [hmx,hmn] | rw [show max Lk.lo X.lo=(meet Lk X).lo from rfl,show min Lk.hi X.hi=(meet Lk X).hi from rfl]
      clear hmx hmn c0 c1 x0 x1 HNK hX hAb
      generalize meet Lk X=M at *
      have HO5:Hid (((w4.setCell ⟨g,kk*2,none⟩ (.int .i64 M.lo)).setCell ⟨g,kk*2+1,none⟩ (.int .i64 M.hi)).drew.ownsRow w.heap.size 38 2 (.slice (some ⟨g,0,none⟩) b.hs.length cl) b.hs.length ((L.set kk M).flatMap encS)):=by
       have h:=((HO4.out.stored (kk*2) (.int .i64 M.lo)).1.stored (kk*2+1) (.int .i64 M.hi)).1
       rw [encS_set] at h
       exact zAA (zR _) h
      have hgw:=(HO4.out.lt g rfl).1
      have HB5:Hid (Below w.heap.size w ((w4.setCell ⟨g,kk*2,none⟩ (.int .i64 M.lo)).setCell ⟨g,kk*2+1,none⟩ (.int .i64 M.hi)).drew):=zA (zH hgw (zH hgw HB4.out)) (zR _)
      clear f0 f1 fl
      generalize ((w4.setCell _ _).setCell _ _).drew=w5 at *
      have hks:kk < (L.set kk M).length:=by rw [List.length_set];exact hkl
      have hat:=zLW (L.set kk M) kk hks
      rw [List.getElem_set_self] at hat
      have c0:=HO5.out.cells (g:=g) rfl _ _ hat.1
      have c1:=HO5.out.cells (g:=g) rfl _ _ hat.2
      rw [zBP] at c0 c1
      clear hat
      have hk0:¬ ((kk:Int) < 0):=by omega
      have hk2:decide ((kk:Int) < 0)=false:=by simp
      by_cases hle:M.lo≤M.hi
      ·have hfin:Hid (zDR b S (zFL b) rs=zDR b S (L.set kk M) (rs.drop (j+1))):=by unfold Hid;rw [hst.out,if_pos hle]
       have hNM:Hid (NumsOk (L.set kk M)):=fun x hx=>by
        rcases List.mem_or_eq_of_mem_set hx with h | h
        ·exact HN.out.1 x h
        ·subst h;exact hMI
       clear hst
       go_wp2
       go_region
       go_wp2
       go_roundw
       ·exact ⟨j+1,L.set kk M,by go_num,by omega,by rw [List.length_set];exact hLl,zF (zAA (zR _) HO5.out),zF ⟨hNM.out,hfin.out⟩,zF (zA HB5.out (zR _))⟩
       ·simp [intOf];omega
      ·have hfin:Hid (zDR b S (zFL b) rs=none):=by unfold Hid;rw [hst.out,if_neg hle]
       clear hst
       go_wp2
       go_region
       go_wp2
       try rw [Exit.noGoto_ret]
       go_ret2
       refine ⟨zA HB5.out (zR _),?_⟩
       rw [hfin.out]
       exact rfl
     ·have hh':H.h < 0:=by omega
      have hk2:decide (H.h < 0)=true:=by simp;omega
      have hst:Hid ((X=zDV→zDR b S (zFL b) rs=none)∧(X≠zDV→zDR b S (zFL b) rs=zDR b S L (rs.drop (j+1)))):=by
       constructor <;> intro h <;> rw [HN.out.2,hstep.out,if_neg hh]
       ·rw [if_pos h]
       ·rw [if_neg h]
      obtain ⟨xl,xh⟩:=X
      clear hstep hAb
      by_cases h1:xl=1
      ·subst h1
       by_cases h2:xh=0
       ·subst h2
        have hfin:Hid (zDR b S (zFL b) rs=none):=hst.out.1 rfl
        clear hst
        go_wp2_with (go_at_call 141;refine hcall.mono ?_;rintro e w3 ⟨rfl,hb3⟩;have hb4:=zB w3 (.cells #[.int .i64 1,.int .i64 0] 38);have n0:=(HK.out.ext (zA HBA.out (zA hb3 hb4))).n0;have n1:=(HK.out.ext (zA HBA.out (zA hb3 hb4))).n1;unfold zJ at n0 n1;have HB4:=zF (zA HBA.out (zA hb3 hb4)))
        try rw [Exit.noGoto_ret]
        go_ret2
        refine ⟨HB4.out,?_⟩
        rw [hfin.out]
        exact rfl
       ·have h2':(xh == 0)=false:=by simpa using h2
        have hfin:Hid (zDR b S (zFL b) rs=zDR b S L (rs.drop (j+1))):=hst.out.2 (fun e=>by
         cases e
         first | exact h1 rfl | exact h2 rfl)
        clear hst
        go_wp2_with (go_at_call 141;refine hcall.mono ?_;rintro e w3 ⟨rfl,hb3⟩;have hb4:=zB w3 (.cells #[.int .i64 1,.int .i64 xh] 38);have n0:=(HK.out.ext (zA HBA.out (zA hb3 hb4))).n0;have n1:=(HK.out.ext (zA HBA.out (zA hb3 hb4))).n1;unfold zJ at n0 n1;have HO4:=zF (zAA (zA hb3 hb4) HOA.out);have HB4:=zF (zA HBA.out (zA hb3 hb4)))
        generalize w3.alloc _=w4 at *
        go_region
        go_wp2
        go_roundw
        ·exact ⟨j+1,L,by go_num,by omega,hLl,zF (zAA (zR _) HO4.out),zF ⟨HN.out.1,hfin.out⟩,zF (zA HB4.out (zR _))⟩
        ·simp [intOf];omega
      ·have h1':(xl == 1)=false:=by simpa using h1
       have hfin:Hid (zDR b S (zFL b) rs=zDR b S L (rs.drop (j+1))):=hst.out.2 (fun e=>by
        cases e
        first | exact h1 rfl | exact h2 rfl)
       clear hst
       go_wp2_with (go_at_call 141;refine hcall.mono ?_;rintro e w3 ⟨rfl,hb3⟩;have hb4:=zB w3 (.cells #[.int .i64 xl,.int .i64 xh] 38);have n0:=(HK.out.ext (zA HBA.out (zA hb3 hb4))).n0;have n1:=(HK.out.ext (zA HBA.out (zA hb3 hb4))).n1;unfold zJ at n0 n1;have HO4:=zF (zAA (zA hb3 hb4) HOA.out);have HB4:=zF (zA HBA.out (zA hb3 hb4)))
       generalize w3.alloc _=w4 at *
       go_region
       go_wp2
       go_roundw
       ·exact ⟨j+1,L,by go_num,by omega,hLl,zF (zAA (zR _) HO4.out),zF ⟨HN.out.1,hfin.out⟩,zF (zA HB4.out (zR _))⟩
       ·simp [intOf];omega
structure FoundAt (w:World) (p:Nat) (vr vn vm vh vs vz vc:Value) (b:Built) (S:List Int) (L:List Span) : Prop where
 site:SiteAt w p vr vn vm vh vs vz b S
 cnt:Sl AtSpan 2 w vc L
theorem FoundAt.ext {w w':World} {p:Nat} {vr vn vm vh vs vz vc:Value} {b:Built} {S:List Int} {L:List Span} (hb:Below w.heap.size w w') (h:FoundAt w p vr vn vm vh vs vz vc b S L) : FoundAt w' p vr vn vm vh vs vz vc b S L :=
 ⟨h.site.ext hb,zI stays_span hb h.cnt⟩
end
section
open Go.RowKit
theorem zPX (w:World) (p:Bool) (c:Int) : Calls prog 39 #[.bool p,.int .i64 c] w fun e w'=>e = .returned (.int .i64 (if p then 0 else c))∧w=w':=by
 go_enter func39,ntmps39
 cases p
 ·go_wp2
  go_ret
  exact ⟨rfl,rfl⟩
 ·go_wp2
  go_ret
  exact ⟨rfl,rfl⟩
def cmpL:List Int→List Int→Int
 | [],[]=>0
 | [],_ :: _=>-1
 | _ :: _,[]=>1
 | a :: r,b :: s=>if zLO a b=0 then cmpL r s else zLO a b
theorem cmpL_drop {S T:List Int} {k:Nat} (h1:k < S.length) (h2:k < T.length) : cmpL (S.drop k) (T.drop k)=if zLO S[k] T[k]=0 then cmpL (S.drop (k+1)) (T.drop (k+1)) else zLO S[k] T[k]:=by
 rw [List.drop_eq_getElem_cons h1,List.drop_eq_getElem_cons h2]
 rfl
theorem cmpL_lex:∀ a b:List Int,a.length=b.length→(cmpL a b < 0↔zQY a b=true)
 | [],[],_=>by simp [cmpL,zQY]
 | [],_ :: _,h=>by simp at h
 | _ :: _,[],h=>by simp at h
 | a :: r,b :: s,h=>by
   have ih:=cmpL_lex r s (by simpa using h)
   simp only [cmpL,zQY]
   unfold zLO
   by_cases e:a=b
   ·subst e
    simp [ih]
   ·rw [if_neg e]
    by_cases h1:a < b
    ·simp [h1]
    ·have h2:b < a:=by omega
     simp [h1,h2]
def shortC (a b:List Int) : Int:=orI ((a.length:Int) - b.length) (cmpL a b)
theorem shortC_bef (a b:List Int) : shortC a b < 0↔zIP a b=true:=by
 unfold shortC orI zIP
 by_cases e:a.length=b.length
 ·rw [if_pos (by omega),if_pos e]
  exact cmpL_lex a b e
 ·rw [if_neg (by omega),if_neg e]
  simp
  omega
theorem compare_ints (w:World) (va vb:Value) (S T:List Int) (hS:Sl zAJ 1 w va S) (hT:Sl zAJ 1 w vb T) :
  Calls prog 121 #[va,vb] w fun e w'=>e = .returned (.int .i64 (cmpL S T))∧w=w':=by
 obtain ⟨a,capa,rfl,hm⟩:=zD hS
 obtain ⟨c,capc,rfl,hm'⟩:=zD hT
 have HS:=zF hS
 have HT:=zF hT
 clear hS hT
 go_enter func121,ntmps121
 go_wp2
 go_loop [11] (fun i=>∃ k:Nat,i = .int .i64 k∧k≤S.length∧k≤T.length∧Hid (cmpL S T=cmpL (S.drop k) (T.drop k))) (fun i=>S.length - (intOf i).toNat)
 case atStart=>exact ⟨0,rfl,by omega,by omega,zF (by simp)⟩
 case round =>
  obtain ⟨k,rfl,hk,hk2,HE⟩:=hrel
  by_cases hlt:k < S.length
  case neg =>
   obtain rfl:k=S.length:=by omega
   by_cases h2:S.length < T.length
   ·have he:Hid (cmpL S T = -1):=by
     unfold Hid
     rw [HE.out,List.drop_length,List.drop_eq_getElem_cons h2]
     rfl
    go_wp2
    go_ret
    exact ⟨by rw [he.out];rfl,rfl⟩
   ·have he:Hid (cmpL S T=0):=by
     unfold Hid
     rw [HE.out,List.drop_length,List.drop_of_length_le (by omega)]
     rfl
    go_wp2
    go_ret
    exact ⟨by rw [he.out];rfl,rfl⟩
  case pos =>
   obtain ⟨b1,o1,rfl,c1,_⟩:=(zZ HS.out).2 k hlt
   unfold zJ at c1
   rw [Nat.mul_one] at c1
   by_cases h2:k < T.length
   case neg =>
    have he:Hid (cmpL S T=1):=by
     unfold Hid
     rw [HE.out,List.drop_eq_getElem_cons hlt,(List.drop_of_length_le (show T.length≤k by omega) : T.drop k=[])]
     rfl
    go_wp2
    go_ret
    exact ⟨by rw [he.out];rfl,rfl⟩
   case pos =>
    obtain ⟨b2,o2,rfl,c2,_⟩:=(zZ HT.out).2 k h2
    unfold zJ at c2
    rw [Nat.mul_one] at c2
    have hd:=zF (cmpL_drop hlt h2)
    generalize S[k]=x at *
    generalize T[k]=y at *
    by_cases hz:zLO x y=0
    ·have he:Hid (cmpL S T=cmpL (S.drop (k+1)) (T.drop (k+1))):=by
      unfold Hid
      rw [HE.out,hd.out,if_pos hz]
     go_wp2_with (go_at_call 155;refine (zGM _ _ _).mono ?_;rintro e w' ⟨rfl,rfl⟩)
     go_round
     ·exact ⟨k+1,by go_num,by omega,by omega,he⟩
     ·simp [intOf];omega
    ·have he:Hid (cmpL S T=zLO x y):=by
      unfold Hid
      rw [HE.out,hd.out,if_neg hz]
     go_wp2_with (go_at_call 155;refine (zGM _ _ _).mono ?_;rintro e w' ⟨rfl,rfl⟩)
     go_ret
     exact ⟨by rw [he.out];rfl,rfl⟩
end
section
open Go.RowKit
section
variable {P:Program} {w:World}
theorem run_append_keep (base:Nat) (t ty e:TypeId) (i:TypeInfo) (z:Value) (size bytes:Nat) (ht:P.underlying t=some (.slice e)) (hi:P.info? e=some i) (hz:i.zero=some z)
  (hsize:i.size=size) (hby:i.bytes=bytes) (hzs:z.cells.size=size) (hsz:0 < size)
  (v:Value) (n:Nat) (xs:List Value) (hown:w.ownsRow base e size v n xs)
  (a:Addr) (m c:Nat) (news:List Value) (hl:news.length=m*size) (hnews:∀ j u,news[j]? = some u→w.cell? (a.add j)=some u) (h1:∀ u∈news,u.oneCell'=true)
  (h63:n+m≤maxLen) (hbytes:(n+m)*bytes≤140737488355328) (hbase:base≤w.heap.size) :
  ∃ v' w',(Builtin.append_ #[t,t] ty #[v,.slice (some a) m c]).run P w = .ok v' w'∧w'.ownsRow base e size v' (n+m) (xs++news)∧w.grownBy w' v.ownBlock ∧
   ∀ g,v.ownBlock=some g→∀ j u,xs[j]? = some u→zJ w' g j u:=by
 obtain ⟨v',w',hr,o1,g1,_⟩:=run_append_own (P:=P) w base t ty e i z size bytes ht hi hz hsize hby hzs hsz v n xs hown a m c news hl hnews h1 h63 hbytes hbase
 refine ⟨v',w',hr,o1,g1,fun g hg j u hj=>?_⟩
 rcases hown.2 with ⟨rfl,_⟩ | ⟨g',cap,cur,rfl,hbg,hgc,hnc,hcm,hcs,htake⟩
 ·cases hg
 ·have e':g'=g:=Option.some.inj hg
  subst e'
  have holds:=hown.cells (g:=g') rfl
  subst hsize
  subst hby
  by_cases hroom:n+m≤cap
  ·have hfit:n*i.size+news.length≤cur.size:=by rw [hl,hcs,← Nat.add_mul];exact Nat.mul_le_mul_right _ hroom
   have hr2:=run_append_room (P:=P) w t ty e i ht hi g' n cap cur hgc a m c news hl hnews h1 hroom hfit
   rw [hr] at hr2
   cases hr2
   have:=o1.cells (g:=g') rfl j u (by rw [List.getElem?_append_left (List.getElem?_eq_some_iff.1 hj).1];exact hj)
   rw [zBP] at this
   exact this
  ·have hr2:=run_append_grow (P:=P) w t ty e i z ht hi hz ⟨g',0,none⟩ n cap xs hown.1 holds a m c news hl hnews (by omega) (by simp only [maxLen] at h63;omega) (growslice_fits (by omega) hbytes)
   rw [hr] at hr2
   cases hr2
   have h:=holds j u hj
   rw [zBP] at h
   exact zC (zA (zR w) (zB _ _)) h
theorem zMY {ops:Array Oper} {rest:List Oper} {o:Oper} {a:Act} {Q:Exit→Act→World→Prop} (hgd:o.guard=none) (s x:Operand) (t:TypeId)
  (ho:o.op = .call { callee:=.builtin .append,args:=#[s,x],argTypes:=#[t,t] })
  (base:Nat) (e:TypeId) (i:TypeInfo) (z:Value) (size bytes:Nat) (ht:P.underlying t=some (.slice e)) (hi:P.info? e=some i) (hz:i.zero=some z)
  (hsize:i.size=size) (hby:i.bytes=bytes) (hzs:z.cells.size=size) (hsz:0 < size)
  (v:Value) (n:Nat) (xs:List Value) (hs:a.eval s=v) (hown:w.ownsRow base e size v n xs)
  (ad:Addr) (m c:Nat) (news:List Value) (hx:a.eval x = .slice (some ad) m c) (hl:news.length=m*size) (hnews:∀ j u,news[j]? = some u→w.cell? (ad.add j)=some u) (h1:∀ u∈news,u.oneCell'=true)
  (h63:n+m≤maxLen) (hbytes:(n+m)*bytes≤140737488355328) (hbase:base≤w.heap.size)
  (h:∀ v' w',w'.ownsRow base e size v' (n+m) (xs++news)→w.grownBy w' v.ownBlock→(∀ g,v.ownBlock=some g→∀ j u,xs[j]? = some u→zJ w' g j u)→wpList P ops Q rest (a.put o.dst v') w') :
  wpList P ops Q (o :: rest) a w:=by
 refine wpList_plain hgd fun K hK=>?_
 obtain ⟨v',w',hr,h2,h3,h4⟩:=run_append_keep (P:=P) base t o.type e i z size bytes ht hi hz hsize hby hzs hsz v n xs hown ad m c news hl hnews h1 h63 hbytes hbase
 unfold Oper.wp execOp
 simp only [ho,resolve,invoke,builtin,Sem.run_bind,Sem.run_pure,Result.andThen_ok,List.map_toArray,List.map_cons,List.map_nil,hs,hx,hr]
 exact hK _ _ (h v' w' h2 h3 h4)
end
theorem own_ints {w:World} {base:Nat} {v:Value} {xs:List Int} {cs:List Value} (h:Sl zAJ 1 w v xs) (ho:w.ownsRow base 3 1 v xs.length cs) : cs=xs.map (Value.int .i64):=by
 apply List.ext_getElem?
 intro k
 have hl:cs.length=xs.length:=by rw [ho.1,Nat.mul_one]
 by_cases hk:k < xs.length
 ·obtain ⟨ac,cc,rfl,_⟩:=zD h
  obtain ⟨b,off,rfl,hc,_⟩:=(zZ h).2 k hk
  rcases ho.2 with ⟨h0,_⟩ | ⟨g,cap,cur,h0,_⟩
  ·cases h0
  ·cases h0
   have h2:=ho.cells (g:=b) rfl k cs[k] (List.getElem?_eq_getElem (by omega))
   rw [zBP] at h2
   unfold zJ at hc
   rw [Nat.mul_one,Nat.zero_add,h2] at hc
   rw [List.getElem?_eq_getElem (by omega),List.getElem?_map,List.getElem?_eq_getElem hk]
   simpa using hc
 ·rw [List.getElem?_eq_none (by omega),List.getElem?_eq_none (by simp;omega)]
end
end Go.Proofs.YtpolpdegpbahiaaGreatDoor
namespace Go.Proofs.YtpolpdegpbahiaaGreatDoor
open Go.RowKit
variable {F:Fence} {n:Nat} {P:Program}
def Grows {β:Type} (J:β→World→Prop) : Prop:=∀ s A B,J s A→Below A.heap.size A B→J s B
structure OwnH {β:Type} (B:Nat) (I:β→World→Prop) : Prop where
 grow:Grows I
 put:∀ s (W:World) (l:Nat) (o o':Obj),I s W→B≤l→W.heap[l]? = some o→o.isCells=false→o.isWalk=false→I s (W.putObj l o')
theorem OwnH.putObj {β:Type} {B:Nat} {I:β→World→Prop} (h:OwnH B I) {s:β} {W:World} {l:Nat} {o:Obj} (o':Obj) (hs:I s W) (hB:B≤l) (hl:W.heap[l]? = some o) (ho:o.isCells=false) (hw:o.isWalk=false) : I s (W.putObj l o'):=h.put s W l o o' hs hB hl ho hw
def SeqStopsH {α:Type} (F:Fence) (n:Nat) (P:Program) (g:Nat) (lb:Array Value) (encs:α→Array Value) (G:α→World→Prop) (Kp:World→World→Prop) (S Sp:List α→Prop) (N:Nat) (w:World) : Prop :=
 ∀ (l:Nat) (J Jx:List α→World→Prop) (W:World),Below w.heap.size w W→Grows J→Grows Jx →
  (∀ pre x W1,J pre W1→G x W1→pre.length < N→YieldAt F (n - 1) P l (encs x) W1 fun e W' =>
   (e = .returned (.bool true)∧J (pre++[x]) W'∧Kp W1 W')∨(e = .returned (.bool false)∧Jx (pre++[x]) W')) →
  J [] W →
  CallsIn F n P g (#[.func (.yield l) #[] #[]]++lb) W fun e W'=>(∃ v,e = .returned v)∧((∃ xs,S xs∧J xs W')∨(∃ pre,Sp pre∧Jx pre W'))
theorem zPE {α:Type} {g:Operand} {ps:Array Tmp} {assign body:Code} {Q:Exit→Act→World→Prop} {a:Act} {w:World}
  (hro:F.round=none) (h1:1≤n) {gf:Nat} {lb:Array Value} (hg:a.eval g = .func (.func gf) #[] lb) (hFg:F.fn gf) (eg:∀ args w,(callFunc gf args).run P w = .ok (.enter gf args) w)
  {encs:α→Array Value} {G:α→World→Prop} {Kp:World→World→Prop} {S Sp:List α→Prop} {N:Nat} {w0:World} (hseq:SeqStopsH F (n - 1) P gf lb encs G Kp S Sp N w0)
  (hG:∀ (x:α) (W:World) (l:Nat) (o o':Obj),W.heap[l]? = some o→o.isCells=false→G x W→G x (W.putObj l o'))
  (hKt:∀ {A B C:World},Kp A B→Kp B C→Kp A C) (hKb:∀ (W:World) (l:Nat) (o o':Obj),w.heap.size≤l→W.heap[l]? = some o→o.isCells=false→o.isWalk=false→Kp W (W.putObj l o')) (hb0:Below w0.heap.size w0 w) (hps:∀ x,(encs x).size=ps.size)
  (I:List α→World→Prop) (Ix:Code→List α→World→Prop) (hI:OwnH w.heap.size I) (hIx:∀ c,OwnH w.heap.size (Ix c)) (h0:I [] w) (a₁:α→Act)
  (hassign:∀ (l:Nat) (x:α) (W:World) (K:Act→World→Prop),K (a₁ x) W →
   assign.wpIn (F.inRound l) (n - 1 - 1) P (Exit.then K (fun _ _ _=>False)) { tmps:=(ps.zip (encs x)).foldl (fun t (p,v)=>t.setIfInBounds p v) a.tmps,defers:=[] } W)
  (hbody:∀ (l:Nat) (pre:List α) (x:α) (W:World),I pre W→G x W→pre.length < N→body.wpIn (F.inRound l) (n - 1 - 1) P (ownPostG w.heap.size Kp I Ix (pre++[x]) W) (a₁ x) W)
  (hdone:∀ (D:Nat) (xs:List α) (W:World),w.heap.size≤D→S xs→I xs W→W.heap[D]? = some (.deferred (some []))→Q .normal { a with defers:={ target:=.collected D,args:=#[] } :: a.defers } W)
  (hstop:∀ (D:Nat) (c:Code) (pre:List α) (W:World),w.heap.size≤D→Sp pre→Ix c pre W→W.heap[D]? = some (.deferred (some []))→c.wpIn F n P Q { a with defers:={ target:=.collected D,args:=#[] } :: a.defers } W) :
  (Code.rangeFunc g ps assign body).wpIn F n P Q a w:=by
 refine wpIn_rangeFunc ?_
 intro fn hfn
 rw [hro]
 obtain ⟨rec,hrec⟩ : ∃ rec:LoopState→Option Code→Loop,rec=fun st pe=>{ state:=st,pending:=pe,fn,tmps:=a.tmps,params:=ps,assign,body,defers:=w.heap.size }:=⟨_,rfl⟩
 obtain ⟨W1,hW1⟩ : ∃ W1,(w.alloc (.deferred (some []))).alloc (.loop (rec .ready none))=W1:=⟨_,rfl⟩
 have hsz:W1.heap.size=w.heap.size+2:=by rw [← hW1];simp
 have hL1:W1.heap[w.heap.size+1]? = some (.loop (rec .ready none)):=by
  have:=World.alloc_heap_new (w.alloc (.deferred (some []))) (.loop (rec .ready none))
  rw [World.size_alloc,hW1] at this
  exact this
 have hK1:W1.heap[w.heap.size]? = some (.deferred (some [])):=by
  rw [← hW1]
  exact (Below.heap_alloc _ _ _ (by simp)).trans (World.alloc_heap_new w _)
 have hI1:I [] W1:=by rw [← hW1];exact hI.grow _ _ _ (hI.grow _ _ _ h0 ((Below.refl _ w).alloc (Nat.le_refl _) _)) ((Below.refl _ _).alloc (Nat.le_refl _) _)
 have hb1:Below w0.heap.size w0 W1:=by
  rw [← hW1]
  exact hb0.trans ((((Below.refl _ w).alloc (Nat.le_refl _) _).alloc (by simp) _).mono hb0.size)
 have hrec1:∀ st pe,rec st pe = { state:=st,pending:=pe,fn,tmps:=a.tmps,params:=ps,assign,body,defers:=w.heap.size }:=fun st pe=>by rw [hrec]
 refine ⟨w.heap.size+1,[{ target:=.collected w.heap.size,args:=#[] }],W1,{ target:=.fn (.func gf) lb,args:=#[.func (.yield (w.heap.size+1)) #[] #[]] },W1,gf,
  #[.func (.yield (w.heap.size+1)) #[] #[]]++lb,W1,by rw [← hW1,hrec];exact run_enterLoop_outer _ _ _ _ _,by simp only [resolve,hg];simp [go_sem],fun f' hf'=>by simp [Target.leads] at hf';subst hf';exact hFg,by simp [invoke,go_sem,eg],fun _=>h1,?_⟩
 have hcall:=hseq (w.heap.size+1)
  (fun pre W=>I pre W∧W.heap[w.heap.size+1]? = some (.loop (rec .ready none))∧W.heap[w.heap.size]? = some (.deferred (some [])))
  (fun pre W=>∃ c,Ix c pre W∧W.heap[w.heap.size+1]? = some (.loop (rec .done (some c)))∧W.heap[w.heap.size]? = some (.deferred (some [])))
  W1 hb1
  (fun s A B hs hb=>⟨hI.grow _ _ _ hs.1 hb,(hb.block _ (Array.getElem?_eq_some_iff.1 hs.2.1).1).trans hs.2.1,(hb.block _ (Array.getElem?_eq_some_iff.1 hs.2.2).1).trans hs.2.2⟩)
  (fun s A B hs hb=>by
   obtain ⟨c,hc,hl,hk⟩:=hs
   exact ⟨c,(hIx c).grow _ _ _ hc hb,(hb.block _ (Array.getElem?_eq_some_iff.1 hl).1).trans hl,(hb.block _ (Array.getElem?_eq_some_iff.1 hk).1).trans hk⟩)
  ?_ ⟨hI1,hL1,hK1⟩
 ·refine hcall.mono ?_
  rintro e W2 ⟨⟨v,rfl⟩,(⟨xs,hS,hi,hl,hk⟩ | ⟨pre,hSp,c,hi,hl,hk⟩)⟩
  ·have hr:=run_endLoop (P:=P) hl (by rw [hrec];simp)
   rw [hrec] at hr
   exact ⟨none,_,hr,hdone _ xs _ (Nat.le_refl _) hS (hI.putObj _ hi (by omega) hl rfl rfl) ((World.putObj_heap_other (by omega)).trans hk)⟩
  ·have hr:=run_endLoop (P:=P) hl (by rw [hrec];simp)
   rw [hrec] at hr
   exact ⟨some c,_,hr,hstop _ c pre _ (Nat.le_refl _) hSp ((hIx c).putObj _ hi (by omega) hl rfl rfl) ((World.putObj_heap_other (by omega)).trans hk)⟩
 ·rintro pre x W ⟨hi,hl,hk⟩ hgx hlen
  have hlt:w.heap.size+1 < W.heap.size:=(Array.getElem?_eq_some_iff.1 hl).1
  have hy:=run_yield (P:=P) (args:=encs x) hl (by rw [hrec];exact hps x)
  rw [hrec] at hy
  refine ⟨fn,_,assign,body,hy,roundIn_of_wpIn hfn (hassign _ x W _ ⟨_,run_beginRound hl (by rw [hrec]),?_⟩)⟩
  have hl2:(W.putObj (w.heap.size+1) (.loop { rec .ready none with state:=.busy })).heap[w.heap.size+1]? = some (.loop { rec .ready none with state:=.busy }):=World.putObj_heap_same hlt
  have hk2:(W.putObj (w.heap.size+1) (.loop { rec .ready none with state:=.busy })).heap[w.heap.size]? = some (.deferred (some [])):=(World.putObj_heap_other (by omega)).trans hk
  have hw2:Kp W (W.putObj (w.heap.size+1) (.loop { rec .ready none with state:=.busy })):=hKb _ _ _ _ (by omega) hl rfl rfl
  refine wpIn_mono (hbody _ pre x _ (hI.putObj _ hi (by omega) hl rfl rfl) (hG _ _ _ _ _ hl rfl hgx) hlen) ?_
  have fin:∀ (jump:Option Code) (W3:World),KeepsFrom w.heap.size (W.putObj (w.heap.size+1) (.loop { rec .ready none with state:=.busy })) W3 →
    (Instr.endRound (w.heap.size+1) jump).run P W3 = .ok (.bool jump.isNone) (W3.putObj (w.heap.size+1) (.loop (rec (if jump.isNone then .ready else .done) jump))) ∧
    W3.heap[w.heap.size+1]? = some (.loop { rec .ready none with state:=.busy }) ∧
    (W3.putObj (w.heap.size+1) (.loop (rec (if jump.isNone then .ready else .done) jump))).heap[w.heap.size+1]? = some (.loop (rec (if jump.isNone then .ready else .done) jump)) ∧
    (W3.putObj (w.heap.size+1) (.loop (rec (if jump.isNone then .ready else .done) jump))).heap[w.heap.size]? = some (.deferred (some [])):=fun jump W3 hk3=>by
   have hl3:=hk3.same _ _ (by omega) hl2 rfl
   have:=run_endRound (P:=P) jump hl3
   rw [hrec] at this ⊢
   exact ⟨this,by rw [hrec] at hl3;exact hl3,World.putObj_heap_same (Array.getElem?_eq_some_iff.1 hl3).1,(World.putObj_heap_other (by omega)).trans (hk3.same _ _ (Nat.le_refl _) hk2 rfl)⟩
  intro e a3 W3 hp
  have left:∀ c,KeepsFrom w.heap.size (W.putObj (w.heap.size+1) (.loop { rec .ready none with state:=.busy })) W3→Ix c (pre++[x]) W3→_:=fun c hk3 hi3=>by
   have hf:=fin (some c) W3 hk3
   exact And.intro hf ((hIx c).putObj (.loop (rec .done (some c))) hi3 (by omega) hf.2.1 rfl rfl)
  cases e with
  | normal =>
    obtain ⟨hk3,hkp3,hi3⟩:=hp
    obtain ⟨hr,hl3,hl4,hk4⟩:=fin none W3 hk3
    exact ⟨_,_,hr,.inl ⟨rfl,⟨hI.putObj _ hi3 (by omega) hl3 rfl rfl,hl4,hk4⟩,hKt (hKt hw2 hkp3) (hKb _ _ _ _ (by omega) hl3 rfl rfl)⟩⟩
  | ret=>obtain ⟨⟨hr,hl3,hl4,hk4⟩,hq⟩:=left _ hp.1 hp.2;exact ⟨_,_,hr,.inr ⟨rfl,.ret,hq,hl4,hk4⟩⟩
  | exit id=>obtain ⟨⟨hr,hl3,hl4,hk4⟩,hq⟩:=left _ hp.1 hp.2;exact ⟨_,_,hr,.inr ⟨rfl,.exit id,hq,hl4,hk4⟩⟩
  | goto t=>obtain ⟨⟨hr,hl3,hl4,hk4⟩,hq⟩:=left _ hp.1 hp.2;exact ⟨_,_,hr,.inr ⟨rfl,.goto t,hq,hl4,hk4⟩⟩
  | panic ch=>exact hp.elim
  | outgrown=>exact hp.elim
end Go.Proofs.YtpolpdegpbahiaaGreatDoor
namespace Go.Proofs.YtpolpdegpbahiaaGreatDoor
open Tryz
section
open Go.RowKit
theorem span_take {S:List Int} {k:Nat} (h0:0 < k) (hk:k < S.length) : zCG (S.take (k+1))=⟨min (zCG (S.take k)).lo S[k],max (zCG (S.take k)).hi S[k]⟩:=by
 rw [List.take_succ_eq_append_getElem hk]
 refine zLT ?_ _
 intro h
 have:=congrArg List.length h
 rw [List.length_take,List.length_nil] at this
 omega
theorem span_first {S:List Int} (h:0 < S.length) : zCG (S.take 1)=⟨S[0],S[0]⟩:=by
 cases S with
 | nil=>simp at h
 | cons a r=>rfl
theorem min_ints (w:World) (v:Value) (S:List Int) (hS:Sl zAJ 1 w v S) (hne:0 < S.length) :
  Calls prog 91 #[v] w fun e w'=>e = .returned (.int .i64 (zCG S).lo)∧w=w':=by
 obtain ⟨a,cap,rfl,hm⟩:=zD hS
 have HS:=zF hS
 clear hS
 obtain ⟨b0,o0,rfl,c0,-⟩:=(zZ HS.out).2 0 hne
 unfold zJ at c0
 rw [Nat.mul_comm,Nat.mul_zero,Nat.add_zero] at c0
 have hf:=zF (span_first hne)
 generalize S[0]=x0 at *
 have h1:¬ ((S.length:Int) < 1):=by omega
 have h00:(0:Int) < S.length:=by omega
 go_enter func91,ntmps91
 go_wp2
 clear c0
 go_loop [3,4] (fun q i=>∃ k:Nat,i = .int .i64 k∧0 < k∧k≤S.length∧q = .int .i64 (zCG (S.take k)).lo) (fun _ i=>S.length - (intOf i).toNat)
 case atStart=>exact ⟨1,rfl,by omega,by omega,by rw [hf.out]⟩
 case round =>
  obtain ⟨k,rfl,hk0,hk,rfl⟩:=hrel
  by_cases hlt:k < S.length
  case neg =>
   obtain rfl:k=S.length:=by omega
   have hall:Hid (S.take S.length=S):=List.take_length
   go_wp2
   go_ret
   exact ⟨rfl,rfl⟩
  case pos =>
   obtain ⟨b1,o1,he,c1,-⟩:=(zZ HS.out).2 k hlt
   cases he
   unfold zJ at c1
   rw [Nat.mul_one] at c1
   have hs:=zF (span_take hk0 hlt)
   generalize S[k]=x at *
   go_wp2
   go_round
   ·exact ⟨k+1,by go_num,by omega,by omega,by rw [hs.out];refine congrArg _ ?_;dsimp only;split <;> omega⟩
   ·simp [intOf];omega
theorem max_ints (w:World) (v:Value) (S:List Int) (hS:Sl zAJ 1 w v S) (hne:0 < S.length) :
  Calls prog 92 #[v] w fun e w'=>e = .returned (.int .i64 (zCG S).hi)∧w=w':=by
 obtain ⟨a,cap,rfl,hm⟩:=zD hS
 have HS:=zF hS
 clear hS
 obtain ⟨b0,o0,rfl,c0,-⟩:=(zZ HS.out).2 0 hne
 unfold zJ at c0
 rw [Nat.mul_comm,Nat.mul_zero,Nat.add_zero] at c0
 have hf:=zF (span_first hne)
 generalize S[0]=x0 at *
 have h1:¬ ((S.length:Int) < 1):=by omega
 have h00:(0:Int) < S.length:=by omega
 go_enter func92,ntmps92
 go_wp2
 clear c0
 go_loop [3,4] (fun q i=>∃ k:Nat,i = .int .i64 k∧0 < k∧k≤S.length∧q = .int .i64 (zCG (S.take k)).hi) (fun _ i=>S.length - (intOf i).toNat)
 case atStart=>exact ⟨1,rfl,by omega,by omega,by rw [hf.out]⟩
 case round =>
  obtain ⟨k,rfl,hk0,hk,rfl⟩:=hrel
  by_cases hlt:k < S.length
  case neg =>
   obtain rfl:k=S.length:=by omega
   have hall:Hid (S.take S.length=S):=List.take_length
   go_wp2
   go_ret
   exact ⟨rfl,rfl⟩
  case pos =>
   obtain ⟨b1,o1,he,c1,-⟩:=(zZ HS.out).2 k hlt
   cases he
   unfold zJ at c1
   rw [Nat.mul_one] at c1
   have hs:=zF (span_take hk0 hlt)
   generalize S[k]=x at *
   go_wp2
   go_round
   ·exact ⟨k+1,by go_num,by omega,by omega,by rw [hs.out];refine congrArg _ ?_;dsimp only;split <;> omega⟩
   ·simp [intOf];omega
end
section
open Go.RowKit Go.Shelf
structure Fnd where
 p:Nat
 a:Option Addr
 n:Nat
 c:Nat
def encF (x:Fnd) : List Value:=[.pointer (some ⟨x.p,0,none⟩),.slice x.a x.n x.c]
def AtFnd (w:World) (b o:Nat) (x:Fnd) : Prop:=zJ w b o (.pointer (some ⟨x.p,0,none⟩))∧zJ w b (o+1) (.slice x.a x.n x.c)
theorem stays_fnd:zHU AtFnd:=fun _ _ _ _ _ hb ⟨h0,h1⟩=>⟨zC hb h0,zC hb h1⟩
theorem flat_snoc {F:Nat→List Int} {k:Nat} : (List.range (k+1)).flatMap F=(List.range k).flatMap F++F k:=by
 rw [List.range_succ,List.flatMap_append,List.flatMap_singleton]
theorem int_cells {w:World} {b o n c:Nat} {ys:List Int} (hu:Sl zAJ 1 w (.slice (some ⟨b,o,none⟩) n c) ys) : ∀ j u,(ys.map (Value.int .i64))[j]? = some u→w.cell? ((⟨b,o,none⟩ : Addr).add j)=some u:=fun j u hj=>by
 rw [Addr.add_lit]
 rw [List.getElem?_map] at hj
 by_cases hl:j < ys.length
 ·rw [List.getElem?_eq_getElem hl] at hj
  simp at hj
  subst hj
  obtain ⟨b2,o2,he,hc2,_⟩:=(zZ hu).2 j hl
  cases he
  rw [Nat.mul_one] at hc2
  exact hc2
 ·rw [List.getElem?_eq_none (by omega)] at hj
  simp at hj
theorem over_built (w:World) (vl:Value) (g:Nat) (fv:Array Value) (fs:List Fnd) (F:Nat→List Int) (hl:Sl AtFnd 2 w vl fs) (eg:∀ args w,(callFunc g args).run prog w = .ok (.enter g args) w) (h0:0 < fs.length) (h32:fs.length≤32)
  (hcall:∀ k (hk:k < fs.length) w',Below w.heap.size w w'→Calls prog g (#[.agg #[.pointer (some ⟨fs[k].p,0,none⟩),.slice fs[k].a fs[k].n fs[k].c]]++fv) w' fun e w''=>∃ u xs,e = .returned u∧Sl zAJ 1 w'' u xs∧(∀ y,y∈xs↔y∈F k)∧0 < xs.length∧xs.length≤2∧Below w'.heap.size w' w'') :
  Calls prog 41 #[vl,.func (.func g) #[] fv] w fun e w'=>e = .returned (.agg #[.int .i64 (zCG ((List.range fs.length).flatMap F)).lo,.int .i64 (zCG ((List.range fs.length).flatMap F)).hi])∧Below w.heap.size w w':=by
 obtain ⟨i0,hif,iz0,iz1,iz2⟩:=info_parts zDM
 obtain ⟨al,cl,rfl,_⟩:=zD hl
 have HL:=zF hl
 have HC:=zF hcall
 have HB1:=zF (zB w (.cells #[.int .i64 0,.int .i64 0] 38))
 have HX1:=zF (Lay.new w 38 #[.int .i64 0,.int .i64 0])
 have hs1:Hid ((w.alloc (.cells #[.int .i64 0,.int .i64 0] 38)).heap.size=w.heap.size+1):=World.size_alloc _ _
 clear hl hcall
 go_enter func41,ntmps41
 go_wp2
 generalize w.alloc _=w1 at *
 go_loopw [5,10] (fun q i wr=>∃ (k:Nat) (xs:List Int),i = .int .i64 k∧k≤fs.length∧Hid (wr.ownsRow w1.heap.size 3 1 q xs.length (xs.map (Value.int .i64)))∧Hid ((∀ y,y∈xs↔y∈(List.range k).flatMap F)∧(∀ x∈xs,I64 x)∧xs.length≤2*k∧(0 < k→0 < xs.length))∧Hid (Below w1.heap.size w1 wr)) (fun _ i _=>fs.length - (intOf i).toNat)
 case atStart=>exact ⟨0,[],rfl,by omega,zF (World.ownsRow_nil _ _ _ _),zF ⟨fun y=>by simp,fun x hx=>by simp at hx,by simp,fun h=>absurd h (by omega)⟩,zF (br_)⟩
 case round =>
  obtain ⟨k,xs,rfl,hk,HO,HX,HB⟩:=hrel
  by_cases hlt:k < fs.length
  case pos =>
   have hbr:=zF (zA HB1.out HB.out)
   obtain ⟨b,off,rfl,c0,c1⟩:=(zZ (zI stays_fnd hbr.out HL.out)).2 k hlt
   have hba:=zB wr (.cells #[.pointer (some ⟨fs[k].p,0,none⟩),.slice fs[k].a fs[k].n fs[k].c] 95)
   have hc:=HC.out k hlt (wr.alloc (.cells #[.pointer (some ⟨fs[k].p,0,none⟩),.slice fs[k].a fs[k].n fs[k].c] 95)) (zA hbr.out hba)
   generalize fs[k]=f at *
   have HBA:=zF (zA HB.out hba)
   have hOA:=zF (zAA hba HO.out)
   have hkl:(k:Int) < fs.length:=by omega
   unfold zJ at c0 c1
   clear hba HO
   go_wp2_with (
    first
    | (go_at_fn g
       refine hc.mono ?_
       rintro e w3 ⟨v,ys,rfl,hu,hys,hy0,hy2,hb3⟩
       obtain ⟨av,cv,rfl,hmv⟩:=zD hu
       have hnz:∃ b' o',av=some ⟨b',o',none⟩:=by obtain ⟨b',o',h,_⟩:=(zZ hu).2 0 hy0;exact ⟨b',o',h⟩
       obtain ⟨b',o',rfl⟩:=hnz
       have HU:=zF hu
       have HY:=zF hys
       have HB3:=zF (zA HBA.out hb3)
       have HO3:=zF (zAA hb3 hOA.out)
       have HCC:=zF (int_cells hu)
       have hx2:=HX.out.2.2.1
       have hsz3:=HB3.out.size
       clear hu hys hb3 hOA hc c0 c1)
    | (at_builtin
       refine wpList_append_own _ rfl _ _ 28 rfl w1.heap.size 3 i0 (.int .i64 0) 1 8 underlying28 hif iz0 iz1 iz2 rfl (by decide) _ _ _ rfl HO3.out ⟨b',o',none⟩ ys.length cv (ys.map (Value.int .i64)) rfl (by simp) HCC.out (by intro u hu;obtain ⟨y,_,rfl⟩:=List.mem_map.1 hu;rfl) (by unfold maxLen;omega) (by omega) (by omega) ?_
       intro v' w4 hown' hgrow _))
   have HB4:=zF (HB3.out.grown hgrow HB3.out.size (fun r e=>(HO3.out.lt r e).1))
   rw [← List.map_append,← List.length_append] at hown'
   have HO4:=zF hown'
   have HX4:Hid ((∀ y,y∈xs++ys↔y∈(List.range (k+1)).flatMap F)∧(∀ x∈xs++ys,I64 x)∧(xs++ys).length≤2*(k+1)∧(0 < k+1→0 < (xs++ys).length)):=by
    refine ⟨fun y=>?_,fun x hx=>?_,?_,fun _=>?_⟩
    ·rw [flat_snoc,List.mem_append,List.mem_append,HX.out.1,HY.out]
    ·rcases List.mem_append.1 hx with h | h
     ·exact HX.out.2.1 x h
     ·obtain ⟨j,hj,rfl⟩:=List.getElem_of_mem h
      obtain ⟨_,_,_,_,hI⟩:=(zZ HU.out).2 j hj
      exact hI
    ·rw [List.length_append];omega
    ·rw [List.length_append];omega
   clear hown' hgrow HX HY HU HO3
   go_wp2
   go_roundw
   ·exact ⟨k+1,xs++ys,by go_num,by omega,HO4,HX4,HB4⟩
   ·simp [intOf];omega
  case neg =>
   obtain rfl:k=fs.length:=by omega
   have hI:=zBG HO.out HX.out.2.1
   have hne:=HX.out.2.2.2 h0
   have hsp:=zF (spanOf_eq HX.out.1)
   obtain ⟨aq,cq,rfl,_⟩:=zD hI
   have HI:=zF hI
   have hlx:=HX1.out.ext HB.out
   have z0:=hlx.cell 0 _ rfl
   have z1:=hlx.cell 1 _ rfl
   have zf0:=hlx.frozen 0
   have zf1:=hlx.frozen 1
   have zl:=hlx.lt
   clear hI HO HC HL
   go_wp2_with (first | (go_at_call 91;refine (min_ints wr _ xs HI.out hne).mono ?_;rintro e w5 ⟨rfl,rfl⟩) | (go_at_call 92;refine (max_ints _ _ xs HI.out hne).mono ?_;rintro e w5 ⟨rfl,rfl⟩))
   refine bodyPost_ret (v:=.agg #[.int .i64 (zCG xs).lo,.int .i64 (zCG xs).hi]) (by simp [results,results41,go_sem,z0,z1,zl]) rfl ?_
   exact ⟨by rw [hsp.out],zH (Nat.le_refl _) (zH (Nat.le_refl _) (zA HB1.out HB.out))⟩
end
end Go.Proofs.YtpolpdegpbahiaaGreatDoor
