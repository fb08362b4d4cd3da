/- Lemmas. -/
import Derived.WalkMore
import Derived.Laws.AppendOwn
import Derived.RangeFuncWrites
import Derived.RangeFuncNested
import Derived.Test.YtipaopbmklbmnaaGreatDoorT33
import Derived.Test.YtipaopbmklbmnaaGreatDoorT34
set_option linter.all false
set_option maxRecDepth 100000
set_option maxHeartbeats 0
namespace Go.Proofs.YtipaopbmklbmnaaGreatDoor
section
open Tryz
open Go.RowKit Go.Shelf
attribute [local go_sem] zAE Oper.grows Oper.growUpon
def AtSpan (w:World) (b o:Nat) (x:Span) : Prop:=(zK w b o (.int .i64 x.lo)/\zK w b (o+1) (.int .i64 x.hi))/\I64 x.lo/\I64 x.hi
theorem zPQ:zGG AtSpan:=fun _ _ _ _ _ hb ⟨⟨h0,h1⟩,hr⟩=>⟨⟨zC hb h0,zC hb h1⟩,hr⟩
theorem infoSpan:(prog.info? 40).map (fun i=>(i.zero,i.size,i.bytes))=some (some (.agg #[.int .i64 0,.int .i64 0]),2,16):=by kernel_rfl
def encS (x:Span) : List Value:=[.int .i64 x.lo,.int .i64 x.hi]
theorem zMF (L:List Span) (k:Nat) (hk:k < L.length) : (L.flatMap encS)[k*2]? = some (.int .i64 L[k].lo)/\(L.flatMap encS)[k*2+1]? = some (.int .i64 L[k].hi):=by
 induction L generalizing k with
 | nil=>simp at hk
 | cons x L ih =>
   cases k with
   | zero=>simp [encS]
   | succ k =>
     have:=ih k (by simpa using hk);have e1:(k+1)*2=k*2+1+1:=by omega
     simp only [List.flatMap_cons,encS,List.cons_append,List.nil_append,List.getElem_cons_succ,e1,List.getElem?_cons_succ];exact this
theorem encS_set (L:List Span) (k:Nat) (x:Span) : ((L.flatMap encS).set (k*2) (.int .i64 x.lo)).set (k*2+1) (.int .i64 x.hi)=(L.set k x).flatMap encS:=by
 induction L generalizing k with
 | nil=>simp
 | cons y L ih =>
   cases k with
   | zero=>simp [encS]
   | succ k =>
     have e1:(k+1)*2=k*2+1+1:=by omega
     simp only [List.flatMap_cons,encS,List.cons_append,List.nil_append,List.set_cons_succ,e1];rw [ih]
theorem spans_of_own {w:World} {base:Nat} {v:Value} {L:List Span} (h:w.ownsRow base 40 2 v L.length (L.flatMap encS)) (hI:∀ x∈L,I64 x.lo/\I64 x.hi) : Sl AtSpan 2 w v L:=by
 have h':=h;obtain ⟨_,h2⟩:=h;rcases h2 with ⟨rfl,hn⟩ | ⟨g,cap,cur,rfl,_,_,hc,hcm,_⟩
 ·exact ⟨none,0,by rw [hn],by omega,fun k hk=>by omega⟩
 ·refine ⟨some ⟨g,0,none⟩,cap,rfl,by unfold maxLen at hcm;omega,fun k hk=>⟨g,0,rfl,⟨?_,?_⟩,hI _ (List.getElem_mem hk)⟩⟩
  ·have:=h'.cells (g:=g) rfl _ _ (zMF L k hk).1;rw [zAZ] at this;unfold zK;simpa using this
  ·have:=h'.cells (g:=g) rfl _ _ (zMF L k hk).2;rw [zAZ] at this;unfold zK;simpa using this
def zDP (b:Built) : List Span:=b.hs.map fun h=>⟨h.lo,h.hi⟩
noncomputable def zCD (b:Built) (S:List Int) (L:List Span) (rs:List Report) : Option (List Span):=zJG (fun r=>zZ b S r.m r.d) (zKL b S) L rs
open Classical in
theorem leftBy_step (b:Built) (S:List Int) (L:List Span) (rs:List Report) (j:Nat) (hj:j < rs.length) : zCD b S L (rs.drop j) =
  if 0<=(zZ b S rs[j].m rs[j].d).h then (if (zPY (L.getD (zZ b S rs[j].m rs[j].d).h.toNat zCK) (zBG (zZ b S rs[j].m rs[j].d) (zKL b S rs[j]) rs[j].l rs[j].k)).lo<=(zPY (L.getD (zZ b S rs[j].m rs[j].d).h.toNat zCK) (zBG (zZ b S rs[j].m rs[j].d) (zKL b S rs[j]) rs[j].l rs[j].k)).hi then zCD b S (L.set (zZ b S rs[j].m rs[j].d).h.toNat (zPY (L.getD (zZ b S rs[j].m rs[j].d).h.toNat zCK) (zBG (zZ b S rs[j].m rs[j].d) (zKL b S rs[j]) rs[j].l rs[j].k))) (rs.drop (j+1)) else none)
  else if zBG (zZ b S rs[j].m rs[j].d) (zKL b S rs[j]) rs[j].l rs[j].k=zCK then none else zCD b S L (rs.drop (j+1)):=by
 rw [List.drop_eq_getElem_cons hj];rfl
theorem allowed_bd {x:Has} {bef l k:Int} (hc:0<=x.c/\x.c<=16777216000000) (hb:0<=bef/\bef<=12*16777216000000) : I64 (zBG x bef l k).lo/\I64 (zBG x bef l k).hi:=by
 unfold zBG spanAll zCK most I64;repeat' split
 all_goals (simp only;omega)
def NumsOk (L:List Span) : Prop:=∀ x∈L,I64 x.lo/\I64 x.hi
theorem meet_ok {a c:Span} (ha:I64 a.lo/\I64 a.hi) (hc:I64 c.lo/\I64 c.hi) : I64 (zPY a c).lo/\I64 (zPY a c).hi:=by
 unfold zPY I64 at *;simp only;omega
theorem left_site (w:World) (p:Nat) (vr vn vm vh vs vz vq:Value) (b:Built) (S:List Int) (rs:List Report) (hS:SiteAt w p vr vn vm vh vs vz b S) (hK:KindsAt w) (hv:zF b=0) (hq:Sl zAT 5 w vq rs) (hr:∀ r∈rs,zCE b.ns.reg b.ms r) :
  Calls prog 109 #[.pointer (some ⟨p,0,none⟩),vq] w fun e w'=>Below w.heap.size w w'/\match zCD b S (zDP b) rs with
   | some L=>∃ v base,e = .returned (.tuple #[v,.bool true])/\w'.ownsRow base 40 2 v L.length (L.flatMap encS)/\NumsOk L/\∃ a c,v = .slice a L.length c
   | none=>e = .returned (.tuple #[.slice none 0 0,.bool false]):=by
 obtain ⟨i0,hif,iz0,iz1,iz2⟩:=info_parts infoSpan;obtain ⟨vhas,hLs,_⟩:=hS.box;obtain ⟨ah,ch,rfl,_⟩:=zD hS.at_.hs;obtain ⟨aq,cq,rfl,_⟩:=zD hq;have s4:=hLs.cell 4 _ rfl;have HS:=zE hS;have HK:=zE hK;have HQ:=zE hq;have hrr:=zE hr;have hh4:b.hs.length<=4:=(zS hv).2.2.2.1;have hheap:=zE (fun k (hk:k < b.hs.length)=>zGO hv hk);have hsl:Hid ((zDP b).length=b.hs.length):=by unfold Hid zDP;rw [List.length_map]
 clear hS hK hq hLs hr;go_enter func109,ntmps109;go_wp2;go_step3;go_wp2;clear s4;go_loopw [6,19] (fun q i wr=>∃ k:Nat,i = .int .i64 k/\k<=b.hs.length/\Hid (wr.ownsRow w.heap.size 40 2 q k (((zDP b).take k).flatMap encS))/\Hid (Below w.heap.size w wr)) (fun _ i _=>b.hs.length - (intOf i).toNat)
 case atStart=>exact ⟨0,rfl,by omega,zE (World.ownsRow_nil _ _ _ _),zE (br_)⟩
 case round =>
  obtain ⟨k,rfl,hk,HO,HB⟩:=hrel;by_cases hlt:k < b.hs.length
  case pos =>
   obtain ⟨bh,oh,rfl,⟨g0,g1,g2,g3⟩,hg⟩:=(zY (zJ (α:=Heap) zCU HB.out HS.out.at_.hs)).2 k hlt;have htk:Hid ((zDP b).take (k+1)=(zDP b).take k++[⟨b.hs[k].lo,b.hs[k].hi⟩]):=by
    unfold Hid;have hlk:k < (zDP b).length:=by have:=hsl.out;omega
    rw [List.take_succ_eq_append_getElem hlk];congr 1;simp [zDP]
   generalize b.hs[k]=h at *;obtain ⟨hd,hle,hlo,hhi⟩:=h;simp only at *;have hkl:(k:Int) < b.hs.length:=by omega
   have hba:=zB wr (.cells #[.int .i64 hd,.int .i64 hle,.int .i64 hlo,.int .i64 hhi] 42);have HOA:=zE (zAC hba HO.out);have HBA:=zE (zA HB.out hba);have hszr:=HB.out.size;have hsA:Hid ((wr.alloc (.cells #[.int .i64 hd,.int .i64 hle,.int .i64 hlo,.int .i64 hhi] 42)).heap.size=wr.heap.size+1):=World.size_alloc _ _;have hc1:∀ j u,[Value.int .i64 hlo,.int .i64 hhi][j]? = some u->((wr.alloc (.cells #[.int .i64 hd,.int .i64 hle,.int .i64 hlo,.int .i64 hhi] 42)).alloc (.cells #[.int .i64 hlo,.int .i64 hhi] 40)).cell? ((⟨wr.heap.size+1,0,none⟩ : Addr).add j)=some u:=fun j u hj=>by
    rw [zAZ,<- hsA.out];exact zR (wr.alloc (.cells #[.int .i64 hd,.int .i64 hle,.int .i64 hlo,.int .i64 hhi] 42)) #[.int .i64 hlo,.int .i64 hhi] _ j u (by simpa using hj)
   unfold zK at g0 g1 g2 g3;clear hba HO;go_wp2_with (at_builtin;refine wpList_append_own _ rfl _ _ 124 rfl w.heap.size 40 i0 (.agg #[.int .i64 0,.int .i64 0]) 2 16 underlying124 hif iz0 iz1 iz2 rfl (by decide) _ _ _ rfl (HOA.out.alloc _) ⟨wr.heap.size+1,0,none⟩ 1 1 [.int .i64 hlo,.int .i64 hhi] rfl rfl hc1 (by intro u hu;simp at hu;rcases hu with rfl | rfl <;> rfl) (by unfold maxLen;omega) (by omega) (by simp;omega) ?_;intro v' w4 hown' hgrow _);have hbb:=zB (wr.alloc (.cells #[.int .i64 hd,.int .i64 hle,.int .i64 hlo,.int .i64 hhi] 42)) (.cells #[.int .i64 hlo,.int .i64 hhi] 40);have HB4:=zE ((zA HBA.out hbb).grown hgrow (zA HBA.out hbb).size (fun r e=>(HOA.out.lt r e).1));have HO4:Hid (w4.ownsRow w.heap.size 40 2 v' (k+1) (((zDP b).take (k+1)).flatMap encS)):=by unfold Hid;rw [htk.out,List.flatMap_append,List.flatMap_singleton];exact hown'
   clear hown' hgrow hbb;go_wp2;go_roundw
   ·exact ⟨k+1,by go_num,by omega,HO4,HB4⟩
   ·simp [intOf];omega
  case neg =>
   obtain rfl:k=b.hs.length:=by omega
   have hO:=HO.out;rw [List.take_of_length_le (show (zDP b).length<=b.hs.length by have:=hsl.out;omega)] at hO;have hN0:NumsOk (zDP b):=fun x hx=>by
    unfold zDP at hx;obtain ⟨h,hh,rfl⟩:=List.mem_map.1 hx;obtain ⟨k,hk,rfl⟩:=List.getElem_of_mem hh;have:=hheap.out k hk;unfold I64;simp only;omega
   have HO:=zE hO;have HN0:=zE hN0;have hsh:=zDC hO;obtain ⟨al,cl,rfl⟩:=hsh;clear hO hN0;go_wp2;go_step3;go_wp2;go_loopw [31] (fun i wr=>∃ (j:Nat) (L:List Span),i = .int .i64 j/\j<=rs.length/\L.length=b.hs.length/\Hid (wr.ownsRow w.heap.size 40 2 (.slice al b.hs.length cl) b.hs.length (L.flatMap encS))/\Hid (NumsOk L/\zCD b S (zDP b) rs=zCD b S L (rs.drop j))/\Hid (Below w.heap.size w wr)) (fun i _=>rs.length - (intOf i).toNat)
   case atStart=>exact ⟨0,zDP b,rfl,by omega,hsl.out,HO,zE ⟨HN0.out,by rw [List.drop_zero]⟩,HB⟩
   case round =>
    clear HO HN0 HB;obtain ⟨j,L,rfl,hj,hLl,HO,HN,HB⟩:=hrel;by_cases hlt:j < rs.length
    case neg =>
     obtain rfl:j=rs.length:=by omega
     have hfin:Hid (zCD b S (zDP b) rs=some L):=by unfold Hid;rw [HN.out.2,List.drop_length];rfl
     have hO:=HO.out;rw [<- hLl] at hO;have hsp:=zE hO;clear hO;go_wp2;try rw [Exit.noGoto_ret]
     go_ret2;refine ⟨HB.out,?_⟩;rw [hfin.out];exact ⟨.slice al b.hs.length cl,w.heap.size,rfl,by rw [<- hLl];exact hsp.out,HN.out.1,al,cl,by rw [hLl]⟩
    case pos =>
     have hrok:=hrr.out _ (List.getElem_mem hlt);have hstep:=zE (leftBy_step b S L rs j hlt);obtain ⟨bq,oq,rfl,⟨q0,q1,q2,q3,q4⟩,hnum⟩:=(zY (zJ zAP HB.out HQ.out)).2 j hlt;generalize rs[j]=r at *;have hba:=zB wr (.cells #[.int .i64 r.num,.int .i64 r.m,.int .i64 r.d,.int .i64 r.l,.int .u8 r.k] 49);have hcall:=allowed_site (wr.alloc (.cells #[.int .i64 r.num,.int .i64 r.m,.int .i64 r.d,.int .i64 r.l,.int .u8 r.k] 49)) p vr vn vm _ vs vz b S r (HS.out.ext (zA HB.out hba)) (HK.out.ext (zA HB.out hba)) hv hrok ⟨hnum.2.2.1,hnum.2.2.2.1⟩;have HOA:=zE (zAC hba HO.out);have HBA:=zE (zA HB.out hba);have hhb:=zIY b S r.m r.d;have hAb:=allowed_bd (l:=r.l) (k:=r.k) (zJP hv S r.m r.d) (befR_bd hv S hrok.2.2.1);have hjl:(j:Int) < rs.length:=by omega
     generalize zBG (zZ b S r.m r.d) (zKL b S r) r.l r.k=X at *;generalize zZ b S r.m r.d=H at *;unfold zK at q0 q1 q2 q3 q4;clear hba hrok;by_cases hh:0<=H.h
     ·have hkl:H.h.toNat < L.length:=by omega
      obtain ⟨g,hal⟩ : ∃ g,al=some ⟨g,0,none⟩:=by
       rcases HO.out.2 with ⟨h,h0⟩ | ⟨g,cap,cur,h,_⟩
       ·omega
       ·cases h;exact ⟨g,rfl⟩
      subst hal;obtain ⟨kk,hkk⟩ : ∃ kk:Nat,H.h=kk:=⟨H.h.toNat,by omega⟩;have hkn:H.h.toNat=kk:=by omega
      rw [hkn] at hkl;have hc0:=HOA.out.cells (g:=g) rfl _ _ (zMF L kk hkl).1;have hc1:=HOA.out.cells (g:=g) rfl _ _ (zMF L kk hkl).2;rw [zAZ] at hc0 hc1;have hNk:=HN.out.1 _ (List.getElem_mem hkl);have hgd:L.getD kk zCK=L[kk]:=by rw [List.getD_eq_getElem?_getD,List.getElem?_eq_getElem hkl];rfl
      have hst:Hid (zCD b S (zDP b) rs=if (zPY L[kk] X).lo<=(zPY L[kk] X).hi then zCD b S (L.set kk (zPY L[kk] X)) (rs.drop (j+1)) else none):=by unfold Hid;rw [HN.out.2,hstep.out,if_pos hh,hkn,hgd]
      have HNK:=zE hNk;have hX:=hAb;clear hgd hstep hc0 hc1 hNk;go_wp2_with (go_at_call 155;refine hcall.mono ?_;rintro e w3 ⟨rfl,hb3⟩);have hb4:=zB w3 (.cells #[.int .i64 X.lo,.int .i64 X.hi] 40);have hx:=Lay.new w3 40 #[.int .i64 X.lo,.int .i64 X.hi];have HO4:=zE (zAC (zA hb3 hb4) HOA.out);have HB4:=zE (zA HBA.out (zA hb3 hb4));have hxl:w3.heap.size≠g:=fun e=>by
       have:=(HOA.out.lt g rfl).2;have:=hb3.size;omega
      clear q0 q1 q2 q3 q4 hcall hb3 hb4;generalize w3.alloc _=w4 at *;have c0:=HO4.out.cells (g:=g) rfl _ _ (zMF L kk hkl).1;have c1:=HO4.out.cells (g:=g) rfl _ _ (zMF L kk hkl).2;rw [zAZ] at c0 c1;have f0:=zNI HO4.out (kk*2);have f1:=zNI HO4.out (kk*2+1);have fl:=(HO4.out.lt g rfl).2;have x0:=hx.cell 0 _ rfl;have x1:=hx.cell 1 _ rfl;have hkb:(kk:Int) < b.hs.length:=by omega
      generalize L[kk]=Lk at *;go_region;have hmx:(if Lk.lo < X.lo then X.lo else Lk.lo)=(zPY Lk X).lo:=by unfold zPY;simp only;split <;> omega
      have hmn:(if X.hi < Lk.hi then X.hi else Lk.hi)=(zPY Lk X).hi:=by unfold zPY;simp only;split <;> omega
      have hMI:=meet_ok HNK.out hX;first | rw [hmx,hmn] | rw [show max Lk.lo X.lo=(zPY Lk X).lo from rfl,show min Lk.hi X.hi=(zPY Lk X).hi from rfl]
      clear hmx hmn c0 c1 x0 x1 HNK hX hAb;generalize zPY Lk X=M at *;have HO5:Hid (((w4.setCell ⟨g,kk*2,none⟩ (.int .i64 M.lo)).setCell ⟨g,kk*2+1,none⟩ (.int .i64 M.hi)).drew.ownsRow w.heap.size 40 2 (.slice (some ⟨g,0,none⟩) b.hs.length cl) b.hs.length ((L.set kk M).flatMap encS)):=by have h:=((HO4.out.stored (kk*2) (.int .i64 M.lo)).1.stored (kk*2+1) (.int .i64 M.hi)).1;rw [encS_set] at h;exact zAC (zO _) h
      have hgw:=(HO4.out.lt g rfl).1;have HB5:Hid (Below w.heap.size w ((w4.setCell ⟨g,kk*2,none⟩ (.int .i64 M.lo)).setCell ⟨g,kk*2+1,none⟩ (.int .i64 M.hi)).drew):=zA (zI hgw (zI hgw HB4.out)) (zO _);clear f0 f1 fl;generalize ((w4.setCell _ _).setCell _ _).drew=w5 at *;have hks:kk < (L.set kk M).length:=by rw [List.length_set];exact hkl
      have hat:=zMF (L.set kk M) kk hks;rw [List.getElem_set_self] at hat;have c0:=HO5.out.cells (g:=g) rfl _ _ hat.1;have c1:=HO5.out.cells (g:=g) rfl _ _ hat.2;rw [zAZ] at c0 c1;clear hat;have hk0:¬ ((kk:Int) < 0):=by omega
      have hk2:decide ((kk:Int) < 0)=false:=by simp
      by_cases hle:M.lo<=M.hi
      ·have hfin:Hid (zCD b S (zDP b) rs=zCD b S (L.set kk M) (rs.drop (j+1))):=by unfold Hid;rw [hst.out,if_pos hle]
       have hNM:Hid (NumsOk (L.set kk M)):=fun x hx=>by
        rcases List.mem_or_eq_of_mem_set hx with h | h
        ·exact HN.out.1 x h
        ·subst h;exact hMI
       clear hst;go_wp2;go_region;go_wp2;go_roundw
       ·exact ⟨j+1,L.set kk M,by go_num,by omega,by rw [List.length_set];exact hLl,zE (zAC (zO _) HO5.out),zE ⟨hNM.out,hfin.out⟩,zE (zA HB5.out (zO _))⟩
       ·simp [intOf];omega
      ·have hfin:Hid (zCD b S (zDP b) rs=none):=by unfold Hid;rw [hst.out,if_neg hle]
       clear hst;go_wp2;go_region;go_wp2;try rw [Exit.noGoto_ret]
       go_ret2;refine ⟨zA HB5.out (zO _),?_⟩;rw [hfin.out];exact rfl
     ·have hh':H.h < 0:=by omega
      have hk2:decide (H.h < 0)=true:=by simp;omega
      have hst:Hid ((X=zCK->zCD b S (zDP b) rs=none)/\(X≠zCK->zCD b S (zDP b) rs=zCD b S L (rs.drop (j+1)))):=by
       constructor <;> intro h <;> rw [HN.out.2,hstep.out,if_neg hh]
       ·rw [if_pos h]
       ·rw [if_neg h]
      obtain ⟨xl,xh⟩:=X;clear hstep hAb;by_cases h1:xl=1
      ·subst h1
       by_cases h2:xh=0
       ·subst h2
        have hfin:Hid (zCD b S (zDP b) rs=none):=hst.out.1 rfl;clear hst;go_wp2_with (go_at_call 155;refine hcall.mono ?_;rintro e w3 ⟨rfl,hb3⟩;have hb4:=zB w3 (.cells #[.int .i64 1,.int .i64 0] 40);have n0:=(HK.out.ext (zA HBA.out (zA hb3 hb4))).n0;have n1:=(HK.out.ext (zA HBA.out (zA hb3 hb4))).n1;unfold zK at n0 n1;have HB4:=zE (zA HBA.out (zA hb3 hb4)));try rw [Exit.noGoto_ret]
        go_ret2;refine ⟨HB4.out,?_⟩;rw [hfin.out];exact rfl
       ·have h2':(xh == 0)=false:=by simpa using h2
        have hfin:Hid (zCD b S (zDP b) rs=zCD b S L (rs.drop (j+1))):=hst.out.2 (fun e=>by
         cases e;first | exact h1 rfl | exact h2 rfl)
        clear hst;go_wp2_with (go_at_call 155;refine hcall.mono ?_;rintro e w3 ⟨rfl,hb3⟩;have hb4:=zB w3 (.cells #[.int .i64 1,.int .i64 xh] 40);have n0:=(HK.out.ext (zA HBA.out (zA hb3 hb4))).n0;have n1:=(HK.out.ext (zA HBA.out (zA hb3 hb4))).n1;unfold zK at n0 n1;have HO4:=zE (zAC (zA hb3 hb4) HOA.out);have HB4:=zE (zA HBA.out (zA hb3 hb4)));generalize w3.alloc _=w4 at *;go_region;go_wp2;go_roundw
        ·exact ⟨j+1,L,by go_num,by omega,hLl,zE (zAC (zO _) HO4.out),zE ⟨HN.out.1,hfin.out⟩,zE (zA HB4.out (zO _))⟩
        ·simp [intOf];omega
      ·have h1':(xl == 1)=false:=by simpa using h1
       have hfin:Hid (zCD b S (zDP b) rs=zCD b S L (rs.drop (j+1))):=hst.out.2 (fun e=>by
        cases e;first | exact h1 rfl | exact h2 rfl)
       clear hst;go_wp2_with (go_at_call 155;refine hcall.mono ?_;rintro e w3 ⟨rfl,hb3⟩;have hb4:=zB w3 (.cells #[.int .i64 xl,.int .i64 xh] 40);have n0:=(HK.out.ext (zA HBA.out (zA hb3 hb4))).n0;have n1:=(HK.out.ext (zA HBA.out (zA hb3 hb4))).n1;unfold zK at n0 n1;have HO4:=zE (zAC (zA hb3 hb4) HOA.out);have HB4:=zE (zA HBA.out (zA hb3 hb4)));generalize w3.alloc _=w4 at *;go_region;go_wp2;go_roundw
       ·exact ⟨j+1,L,by go_num,by omega,hLl,zE (zAC (zO _) HO4.out),zE ⟨HN.out.1,hfin.out⟩,zE (zA HB4.out (zO _))⟩
       ·simp [intOf];omega
structure FoundAt (w:World) (p:Nat) (vr vn vm vh vs vz vc:Value) (b:Built) (S:List Int) (L:List Span) : Prop where
 site:SiteAt w p vr vn vm vh vs vz b S
 cnt:Sl AtSpan 2 w vc L
theorem FoundAt.ext {w w':World} {p:Nat} {vr vn vm vh vs vz vc:Value} {b:Built} {S:List Int} {L:List Span} (hb:Below w.heap.size w w') (h:FoundAt w p vr vn vm vh vs vz vc b S L) : FoundAt w' p vr vn vm vh vs vz vc b S L :=
 ⟨h.site.ext hb,zJ zPQ hb h.cnt⟩
end
section
open Tryz
open Go.RowKit
theorem zNQ (w:World) (p:Bool) (c:Int) : Calls prog 61 #[.bool p,.int .i64 c] w fun e w'=>e = .returned (.int .i64 (if p then 0 else c))/\w=w':=by
 go_enter func61,ntmps61;cases p
 ·go_wp2;go_ret;exact ⟨rfl,rfl⟩
 ·go_wp2;go_ret;exact ⟨rfl,rfl⟩
def cmpL:List Int->List Int->Int
 | [],[]=>0
 | [],_ :: _=>-1
 | _ :: _,[]=>1
 | a :: r,b :: s=>if zLD a b=0 then cmpL r s else zLD a b
theorem cmpL_drop {S T:List Int} {k:Nat} (h1:k < S.length) (h2:k < T.length) : cmpL (S.drop k) (T.drop k)=if zLD S[k] T[k]=0 then cmpL (S.drop (k+1)) (T.drop (k+1)) else zLD S[k] T[k]:=by
 rw [List.drop_eq_getElem_cons h1,List.drop_eq_getElem_cons h2];rfl
theorem cmpL_lex:∀ a b:List Int,a.length=b.length->(cmpL a b < 0↔lexB a b=true)
 | [],[],_=>by simp [cmpL,lexB]
 | [],_ :: _,h=>by simp at h
 | _ :: _,[],h=>by simp at h
 | a :: r,b :: s,h=>by
   have ih:=cmpL_lex r s (by simpa using h);simp only [cmpL,lexB];unfold zLD;by_cases e:a=b
   ·subst e;simp [ih]
   ·rw [if_neg e]
    by_cases h1:a < b
    ·simp [h1]
    ·have h2:b < a:=by omega
     simp [h1,h2]
def shortC (a b:List Int) : Int:=orI ((a.length:Int) - b.length) (cmpL a b)
theorem shortC_bef (a b:List Int) : shortC a b < 0↔zFV a b=true:=by
 unfold shortC orI zFV;by_cases e:a.length=b.length
 ·rw [if_pos (by omega),if_pos e];exact cmpL_lex a b e
 ·rw [if_neg (by omega),if_neg e];simp;omega
theorem compare_ints (w:World) (va vb:Value) (S T:List Int) (hS:Sl zAM 1 w va S) (hT:Sl zAM 1 w vb T) :
  Calls prog 138 #[va,vb] w fun e w'=>e = .returned (.int .i64 (cmpL S T))/\w=w':=by
 obtain ⟨a,capa,rfl,hm⟩:=zD hS;obtain ⟨c,capc,rfl,hm'⟩:=zD hT;have HS:=zE hS;have HT:=zE hT;clear hS hT;go_enter func138,ntmps138;go_wp2;go_loop [11] (fun i=>∃ k:Nat,i = .int .i64 k/\k<=S.length/\k<=T.length/\Hid (cmpL S T=cmpL (S.drop k) (T.drop k))) (fun i=>S.length - (intOf i).toNat)
 case atStart=>exact ⟨0,rfl,by omega,by omega,zE (by simp)⟩
 case round =>
  obtain ⟨k,rfl,hk,hk2,HE⟩:=hrel;by_cases hlt:k < S.length
  case neg =>
   obtain rfl:k=S.length:=by omega
   by_cases h2:S.length < T.length
   ·have he:Hid (cmpL S T = -1):=by
     unfold Hid;rw [HE.out,List.drop_length,List.drop_eq_getElem_cons h2];rfl
    go_wp2;go_ret;exact ⟨by rw [he.out];rfl,rfl⟩
   ·have he:Hid (cmpL S T=0):=by
     unfold Hid;rw [HE.out,List.drop_length,List.drop_of_length_le (by omega)];rfl
    go_wp2;go_ret;exact ⟨by rw [he.out];rfl,rfl⟩
  case pos =>
   obtain ⟨b1,o1,rfl,c1,_⟩:=(zY HS.out).2 k hlt;unfold zK at c1;rw [Nat.mul_one] at c1;by_cases h2:k < T.length
   case neg =>
    have he:Hid (cmpL S T=1):=by unfold Hid;rw [HE.out,List.drop_eq_getElem_cons hlt,(List.drop_of_length_le (show T.length<=k by omega) : T.drop k=[])];rfl
    go_wp2;go_ret;exact ⟨by rw [he.out];rfl,rfl⟩
   case pos =>
    obtain ⟨b2,o2,rfl,c2,_⟩:=(zY HT.out).2 k h2;unfold zK at c2;rw [Nat.mul_one] at c2;have hd:=zE (cmpL_drop hlt h2);generalize S[k]=x at *;generalize T[k]=y at *;by_cases hz:zLD x y=0
    ·have he:Hid (cmpL S T=cmpL (S.drop (k+1)) (T.drop (k+1))):=by
      unfold Hid;rw [HE.out,hd.out,if_pos hz]
     go_wp2_with (go_at_call 101;refine (zER _ _ _).mono ?_;rintro e w' ⟨rfl,rfl⟩);go_round
     ·exact ⟨k+1,by go_num,by omega,by omega,he⟩
     ·simp [intOf];omega
    ·have he:Hid (cmpL S T=zLD x y):=by
      unfold Hid;rw [HE.out,hd.out,if_neg hz]
     go_wp2_with (go_at_call 101;refine (zER _ _ _).mono ?_;rintro e w' ⟨rfl,rfl⟩);go_ret;exact ⟨by rw [he.out];rfl,rfl⟩
end
section
open Tryz
open Go.RowKit
section
variable {P:Program} {w:World}
theorem run_append_keep (base:Nat) (t ty e:TypeId) (i:TypeInfo) (z:Value) (size bytes:Nat) (ht:P.underlying t=some (.slice e)) (hi:P.info? e=some i) (hz:i.zero=some z)
  (hsize:i.size=size) (hby:i.bytes=bytes) (hzs:z.cells.size=size) (hsz:0 < size)
  (v:Value) (n:Nat) (xs:List Value) (hown:w.ownsRow base e size v n xs)
  (a:Addr) (m c:Nat) (news:List Value) (hl:news.length=m*size) (hnews:∀ j u,news[j]? = some u->w.cell? (a.add j)=some u) (h1:∀ u∈news,u.oneCell'=true)
  (h63:n+m<=maxLen) (hbytes:(n+m)*bytes<=140737488355328) (hbase:base<=w.heap.size) :
  ∃ v' w',(Builtin.append_ #[t,t] ty #[v,.slice (some a) m c]).run P w = .ok v' w'/\w'.ownsRow base e size v' (n+m) (xs++news)/\w.grownBy w' v.ownBlock /\
   ∀ g,v.ownBlock=some g->∀ j u,xs[j]? = some u->zK w' g j u:=by
 obtain ⟨v',w',hr,o1,g1,_⟩:=run_append_own (P:=P) w base t ty e i z size bytes ht hi hz hsize hby hzs hsz v n xs hown a m c news hl hnews h1 h63 hbytes hbase;refine ⟨v',w',hr,o1,g1,fun g hg j u hj=>?_⟩;rcases hown.2 with ⟨rfl,_⟩ | ⟨g',cap,cur,rfl,hbg,hgc,hnc,hcm,hcs,htake⟩
 ·cases hg
 ·have e':g'=g:=Option.some.inj hg
  subst e';have holds:=hown.cells (g:=g') rfl;subst hsize;subst hby;by_cases hroom:n+m<=cap
  ·have hfit:n*i.size+news.length<=cur.size:=by rw [hl,hcs,<- Nat.add_mul];exact Nat.mul_le_mul_right _ hroom
   have hr2:=run_append_room (P:=P) w t ty e i ht hi g' n cap cur hgc a m c news hl hnews h1 hroom hfit;rw [hr] at hr2;cases hr2;have:=o1.cells (g:=g') rfl j u (by rw [List.getElem?_append_left (List.getElem?_eq_some_iff.1 hj).1];exact hj);rw [zAZ] at this;exact this
  ·have hr2:=run_append_grow (P:=P) w t ty e i z ht hi hz ⟨g',0,none⟩ n cap xs hown.1 holds a m c news hl hnews (by omega) (by simp only [maxLen] at h63;omega) (growslice_fits (by omega) hbytes);rw [hr] at hr2;cases hr2;have h:=holds j u hj;rw [zAZ] at h;exact zC (zA (zO w) (zB _ _)) h
theorem zNV {ops:Array Oper} {rest:List Oper} {o:Oper} {a:Act} {Q:Exit->Act->World->Prop} (hgd:o.guard=none) (s x:Operand) (t:TypeId)
  (ho:o.op = .call { callee:=.builtin .append,args:=#[s,x],argTypes:=#[t,t] })
  (base:Nat) (e:TypeId) (i:TypeInfo) (z:Value) (size bytes:Nat) (ht:P.underlying t=some (.slice e)) (hi:P.info? e=some i) (hz:i.zero=some z)
  (hsize:i.size=size) (hby:i.bytes=bytes) (hzs:z.cells.size=size) (hsz:0 < size)
  (v:Value) (n:Nat) (xs:List Value) (hs:a.eval s=v) (hown:w.ownsRow base e size v n xs)
  (ad:Addr) (m c:Nat) (news:List Value) (hx:a.eval x = .slice (some ad) m c) (hl:news.length=m*size) (hnews:∀ j u,news[j]? = some u->w.cell? (ad.add j)=some u) (h1:∀ u∈news,u.oneCell'=true)
  (h63:n+m<=maxLen) (hbytes:(n+m)*bytes<=140737488355328) (hbase:base<=w.heap.size)
  (h:∀ v' w',w'.ownsRow base e size v' (n+m) (xs++news)->w.grownBy w' v.ownBlock->(∀ g,v.ownBlock=some g->∀ j u,xs[j]? = some u->zK w' g j u)->wpList P ops Q rest (a.put o.dst v') w') :
  wpList P ops Q (o :: rest) a w:=by
 refine wpList_plain hgd fun K hK=>?_
 obtain ⟨v',w',hr,h2,h3,h4⟩:=run_append_keep (P:=P) base t o.type e i z size bytes ht hi hz hsize hby hzs hsz v n xs hown ad m c news hl hnews h1 h63 hbytes hbase;unfold Oper.wp execOp;simp only [ho,resolve,invoke,builtin,Sem.run_bind,Sem.run_pure,Result.andThen_ok,List.map_toArray,List.map_cons,List.map_nil,hs,hx,hr];exact hK _ _ (h v' w' h2 h3 h4)
end
theorem own_ints {w:World} {base:Nat} {v:Value} {xs:List Int} {cs:List Value} (h:Sl zAM 1 w v xs) (ho:w.ownsRow base 3 1 v xs.length cs) : cs=xs.map (Value.int .i64):=by
 apply List.ext_getElem?;intro k;have hl:cs.length=xs.length:=by rw [ho.1,Nat.mul_one]
 by_cases hk:k < xs.length
 ·obtain ⟨ac,cc,rfl,_⟩:=zD h
  obtain ⟨b,off,rfl,hc,_⟩:=(zY h).2 k hk;rcases ho.2 with ⟨h0,_⟩ | ⟨g,cap,cur,h0,_⟩
  ·cases h0
  ·cases h0;have h2:=ho.cells (g:=b) rfl k cs[k] (List.getElem?_eq_getElem (by omega));rw [zAZ] at h2;unfold zK at hc;rw [Nat.mul_one,Nat.zero_add,h2] at hc;rw [List.getElem?_eq_getElem (by omega),List.getElem?_map,List.getElem?_eq_getElem hk];simpa using hc
 ·rw [List.getElem?_eq_none (by omega),List.getElem?_eq_none (by simp;omega)]
end
section
open Go.RowKit
variable {F:Fence} {n:Nat} {P:Program}
def Grows {β:Type} (J:β->World->Prop) : Prop:=∀ s A B,J s A->Below A.heap.size A B->J s B
structure OwnH {β:Type} (B:Nat) (I:β->World->Prop) : Prop where
 grow:Grows I
 put:∀ s (W:World) (l:Nat) (o o':Obj),I s W->B<=l->W.heap[l]? = some o->o.isCells=false->o.isWalk=false->I s (W.putObj l o')
theorem OwnH.putObj {β:Type} {B:Nat} {I:β->World->Prop} (h:OwnH B I) {s:β} {W:World} {l:Nat} {o:Obj} (o':Obj) (hs:I s W) (hB:B<=l) (hl:W.heap[l]? = some o) (ho:o.isCells=false) (hw:o.isWalk=false) : I s (W.putObj l o'):=h.put s W l o o' hs hB hl ho hw
def SeqStopsH {α:Type} (F:Fence) (n:Nat) (P:Program) (g:Nat) (lb:Array Value) (encs:α->Array Value) (G:α->World->Prop) (Kp:World->World->Prop) (S Sp:List α->Prop) (N:Nat) (w:World) : Prop :=
 ∀ (l:Nat) (J Jx:List α->World->Prop) (W:World),Below w.heap.size w W->Grows J->Grows Jx ->
  (∀ pre x W1,J pre W1->G x W1->pre.length < N->YieldAt F (n - 1) P l (encs x) W1 fun e W' =>
   (e = .returned (.bool true)/\J (pre++[x]) W'/\Kp W1 W')\/(e = .returned (.bool false)/\Jx (pre++[x]) W')) ->
  J [] W ->
  CallsIn F n P g (#[.func (.yield l) #[] #[]]++lb) W fun e W'=>(∃ v,e = .returned v)/\((∃ xs,S xs/\J xs W')\/(∃ pre,Sp pre/\Jx pre W'))
theorem zJH {α:Type} {g:Operand} {ps:Array Tmp} {assign body:Code} {Q:Exit->Act->World->Prop} {a:Act} {w:World}
  (hro:F.round=none) (h1:1<=n) {gf:Nat} {lb:Array Value} (hg:a.eval g = .func (.func gf) #[] lb) (hFg:F.fn gf) (eg:∀ args w,(callFunc gf args).run P w = .ok (.enter gf args) w)
  {encs:α->Array Value} {G:α->World->Prop} {Kp:World->World->Prop} {S Sp:List α->Prop} {N:Nat} {w0:World} (hseq:SeqStopsH F (n - 1) P gf lb encs G Kp S Sp N w0)
  (hG:∀ (x:α) (W:World) (l:Nat) (o o':Obj),W.heap[l]? = some o->o.isCells=false->G x W->G x (W.putObj l o'))
  (hKt:∀ {A B C:World},Kp A B->Kp B C->Kp A C) (hKb:∀ (W:World) (l:Nat) (o o':Obj),w.heap.size<=l->W.heap[l]? = some o->o.isCells=false->o.isWalk=false->Kp W (W.putObj l o')) (hb0:Below w0.heap.size w0 w) (hps:∀ x,(encs x).size=ps.size)
  (I:List α->World->Prop) (Ix:Code->List α->World->Prop) (hI:OwnH w.heap.size I) (hIx:∀ c,OwnH w.heap.size (Ix c)) (h0:I [] w) (a₁:α->Act)
  (hassign:∀ (l:Nat) (x:α) (W:World) (K:Act->World->Prop),K (a₁ x) W ->
   assign.wpIn (F.inRound l) (n - 1 - 1) P (Exit.then K (fun _ _ _=>False)) { tmps:=(ps.zip (encs x)).foldl (fun t (p,v)=>t.setIfInBounds p v) a.tmps,defers:=[] } W)
  (hbody:∀ (l:Nat) (pre:List α) (x:α) (W:World),I pre W->G x W->pre.length < N->body.wpIn (F.inRound l) (n - 1 - 1) P (ownPostG w.heap.size Kp I Ix (pre++[x]) W) (a₁ x) W)
  (hdone:∀ (D:Nat) (xs:List α) (W:World),w.heap.size<=D->S xs->I xs W->W.heap[D]? = some (.deferred (some []))->Q .normal { a with defers:={ target:=.collected D,args:=#[] } :: a.defers } W)
  (hstop:∀ (D:Nat) (c:Code) (pre:List α) (W:World),w.heap.size<=D->Sp pre->Ix c pre W->W.heap[D]? = some (.deferred (some []))->c.wpIn F n P Q { a with defers:={ target:=.collected D,args:=#[] } :: a.defers } W) :
  (Code.rangeFunc g ps assign body).wpIn F n P Q a w:=by
 refine wpIn_rangeFunc ?_;intro fn hfn;rw [hro];obtain ⟨rec,hrec⟩ : ∃ rec:LoopState->Option Code->Loop,rec=fun st pe=>{ state:=st,pending:=pe,fn,tmps:=a.tmps,params:=ps,assign,body,defers:=w.heap.size }:=⟨_,rfl⟩
 obtain ⟨W1,hW1⟩ : ∃ W1,(w.alloc (.deferred (some []))).alloc (.loop (rec .ready none))=W1:=⟨_,rfl⟩;have hsz:W1.heap.size=w.heap.size+2:=by rw [<- hW1];simp
 have hL1:W1.heap[w.heap.size+1]? = some (.loop (rec .ready none)):=by have:=World.alloc_heap_new (w.alloc (.deferred (some []))) (.loop (rec .ready none));rw [World.size_alloc,hW1] at this;exact this
 have hK1:W1.heap[w.heap.size]? = some (.deferred (some [])):=by rw [<- hW1];exact (Below.heap_alloc _ _ _ (by simp)).trans (World.alloc_heap_new w _)
 have hI1:I [] W1:=by rw [<- hW1];exact hI.grow _ _ _ (hI.grow _ _ _ h0 ((Below.refl _ w).alloc (Nat.le_refl _) _)) ((Below.refl _ _).alloc (Nat.le_refl _) _)
 have hb1:Below w0.heap.size w0 W1:=by rw [<- hW1];exact hb0.trans ((((Below.refl _ w).alloc (Nat.le_refl _) _).alloc (by simp) _).mono hb0.size)
 have hrec1:∀ st pe,rec st pe = { state:=st,pending:=pe,fn,tmps:=a.tmps,params:=ps,assign,body,defers:=w.heap.size }:=fun st pe=>by rw [hrec]
 refine ⟨w.heap.size+1,[{ target:=.collected w.heap.size,args:=#[] }],W1,{ target:=.fn (.func gf) lb,args:=#[.func (.yield (w.heap.size+1)) #[] #[]] },W1,gf,
  #[.func (.yield (w.heap.size+1)) #[] #[]]++lb,W1,by rw [<- hW1,hrec];exact run_enterLoop_outer _ _ _ _ _,by simp only [resolve,hg];simp [go_sem],fun f' hf'=>by simp [Target.leads] at hf';subst hf';exact hFg,by simp [invoke,go_sem,eg],fun _=>h1,?_⟩
 have hcall:=hseq (w.heap.size+1)
  (fun pre W=>I pre W/\W.heap[w.heap.size+1]? = some (.loop (rec .ready none))/\W.heap[w.heap.size]? = some (.deferred (some [])))
  (fun pre W=>∃ c,Ix c pre W/\W.heap[w.heap.size+1]? = some (.loop (rec .done (some c)))/\W.heap[w.heap.size]? = some (.deferred (some [])))
  W1 hb1
  (fun s A B hs hb=>⟨hI.grow _ _ _ hs.1 hb,(hb.block _ (Array.getElem?_eq_some_iff.1 hs.2.1).1).trans hs.2.1,(hb.block _ (Array.getElem?_eq_some_iff.1 hs.2.2).1).trans hs.2.2⟩)
  (fun s A B hs hb=>by
   obtain ⟨c,hc,hl,hk⟩:=hs;exact ⟨c,(hIx c).grow _ _ _ hc hb,(hb.block _ (Array.getElem?_eq_some_iff.1 hl).1).trans hl,(hb.block _ (Array.getElem?_eq_some_iff.1 hk).1).trans hk⟩)
  ?_ ⟨hI1,hL1,hK1⟩
 ·refine hcall.mono ?_
  rintro e W2 ⟨⟨v,rfl⟩,(⟨xs,hS,hi,hl,hk⟩ | ⟨pre,hSp,c,hi,hl,hk⟩)⟩
  ·have hr:=run_endLoop (P:=P) hl (by rw [hrec];simp);rw [hrec] at hr;exact ⟨none,_,hr,hdone _ xs _ (Nat.le_refl _) hS (hI.putObj _ hi (by omega) hl rfl rfl) ((World.putObj_heap_other (by omega)).trans hk)⟩
  ·have hr:=run_endLoop (P:=P) hl (by rw [hrec];simp);rw [hrec] at hr;exact ⟨some c,_,hr,hstop _ c pre _ (Nat.le_refl _) hSp ((hIx c).putObj _ hi (by omega) hl rfl rfl) ((World.putObj_heap_other (by omega)).trans hk)⟩
 ·rintro pre x W ⟨hi,hl,hk⟩ hgx hlen
  have hlt:w.heap.size+1 < W.heap.size:=(Array.getElem?_eq_some_iff.1 hl).1;have hy:=run_yield (P:=P) (args:=encs x) hl (by rw [hrec];exact hps x);rw [hrec] at hy;refine ⟨fn,_,assign,body,hy,roundIn_of_wpIn hfn (hassign _ x W _ ⟨_,run_beginRound hl (by rw [hrec]),?_⟩)⟩;have hl2:(W.putObj (w.heap.size+1) (.loop { rec .ready none with state:=.busy })).heap[w.heap.size+1]? = some (.loop { rec .ready none with state:=.busy }):=World.putObj_heap_same hlt;have hk2:(W.putObj (w.heap.size+1) (.loop { rec .ready none with state:=.busy })).heap[w.heap.size]? = some (.deferred (some [])):=(World.putObj_heap_other (by omega)).trans hk;have hw2:Kp W (W.putObj (w.heap.size+1) (.loop { rec .ready none with state:=.busy })):=hKb _ _ _ _ (by omega) hl rfl rfl;refine wpIn_mono (hbody _ pre x _ (hI.putObj _ hi (by omega) hl rfl rfl) (hG _ _ _ _ _ hl rfl hgx) hlen) ?_;have fin:∀ (jump:Option Code) (W3:World),KeepsFrom w.heap.size (W.putObj (w.heap.size+1) (.loop { rec .ready none with state:=.busy })) W3 ->
    (Instr.endRound (w.heap.size+1) jump).run P W3 = .ok (.bool jump.isNone) (W3.putObj (w.heap.size+1) (.loop (rec (if jump.isNone then .ready else .done) jump))) /\
    W3.heap[w.heap.size+1]? = some (.loop { rec .ready none with state:=.busy }) /\
    (W3.putObj (w.heap.size+1) (.loop (rec (if jump.isNone then .ready else .done) jump))).heap[w.heap.size+1]? = some (.loop (rec (if jump.isNone then .ready else .done) jump)) /\
    (W3.putObj (w.heap.size+1) (.loop (rec (if jump.isNone then .ready else .done) jump))).heap[w.heap.size]? = some (.deferred (some [])):=fun jump W3 hk3=>by
   have hl3:=hk3.same _ _ (by omega) hl2 rfl;have:=run_endRound (P:=P) jump hl3;rw [hrec] at this ⊢;exact ⟨this,by rw [hrec] at hl3;exact hl3,World.putObj_heap_same (Array.getElem?_eq_some_iff.1 hl3).1,(World.putObj_heap_other (by omega)).trans (hk3.same _ _ (Nat.le_refl _) hk2 rfl)⟩
  intro e a3 W3 hp;have left:∀ c,KeepsFrom w.heap.size (W.putObj (w.heap.size+1) (.loop { rec .ready none with state:=.busy })) W3->Ix c (pre++[x]) W3->_:=fun c hk3 hi3=>by
   have hf:=fin (some c) W3 hk3;exact And.intro hf ((hIx c).putObj (.loop (rec .done (some c))) hi3 (by omega) hf.2.1 rfl rfl)
  cases e with
  | normal =>obtain ⟨hk3,hkp3,hi3⟩:=hp;obtain ⟨hr,hl3,hl4,hk4⟩:=fin none W3 hk3;exact ⟨_,_,hr,.inl ⟨rfl,⟨hI.putObj _ hi3 (by omega) hl3 rfl rfl,hl4,hk4⟩,hKt (hKt hw2 hkp3) (hKb _ _ _ _ (by omega) hl3 rfl rfl)⟩⟩
  | ret=>obtain ⟨⟨hr,hl3,hl4,hk4⟩,hq⟩:=left _ hp.1 hp.2;exact ⟨_,_,hr,.inr ⟨rfl,.ret,hq,hl4,hk4⟩⟩
  | exit id=>obtain ⟨⟨hr,hl3,hl4,hk4⟩,hq⟩:=left _ hp.1 hp.2;exact ⟨_,_,hr,.inr ⟨rfl,.exit id,hq,hl4,hk4⟩⟩
  | goto t=>obtain ⟨⟨hr,hl3,hl4,hk4⟩,hq⟩:=left _ hp.1 hp.2;exact ⟨_,_,hr,.inr ⟨rfl,.goto t,hq,hl4,hk4⟩⟩
  | panic ch=>exact hp.elim
  | outgrown=>exact hp.elim
end
section
open Tryz
open Go.RowKit
theorem span_take {S:List Int} {k:Nat} (h0:0 < k) (hk:k < S.length) : zBI (S.take (k+1))=⟨min (zBI (S.take k)).lo S[k],max (zBI (S.take k)).hi S[k]⟩:=by
 rw [List.take_succ_eq_append_getElem hk];refine spanOf_snoc ?_ _;intro h;have:=congrArg List.length h;rw [List.length_take,List.length_nil] at this;omega
theorem span_first {S:List Int} (h:0 < S.length) : zBI (S.take 1)=⟨S[0],S[0]⟩:=by
 cases S with
 | nil=>simp at h
 | cons a r=>rfl
theorem min_ints (w:World) (v:Value) (S:List Int) (hS:Sl zAM 1 w v S) (hne:0 < S.length) :
  Calls prog 113 #[v] w fun e w'=>e = .returned (.int .i64 (zBI S).lo)/\w=w':=by
 obtain ⟨a,cap,rfl,hm⟩:=zD hS;have HS:=zE hS;clear hS;obtain ⟨b0,o0,rfl,c0,-⟩:=(zY HS.out).2 0 hne;unfold zK at c0;rw [Nat.mul_comm,Nat.mul_zero,Nat.add_zero] at c0;have hf:=zE (span_first hne);generalize S[0]=x0 at *;have h1:¬ ((S.length:Int) < 1):=by omega
 have h00:(0:Int) < S.length:=by omega
 go_enter func113,ntmps113;go_wp2;clear c0;go_loop [3,4] (fun q i=>∃ k:Nat,i = .int .i64 k/\0 < k/\k<=S.length/\q = .int .i64 (zBI (S.take k)).lo) (fun _ i=>S.length - (intOf i).toNat)
 case atStart=>exact ⟨1,rfl,by omega,by omega,by rw [hf.out]⟩
 case round =>
  obtain ⟨k,rfl,hk0,hk,rfl⟩:=hrel;by_cases hlt:k < S.length
  case neg =>
   obtain rfl:k=S.length:=by omega
   have hall:Hid (S.take S.length=S):=List.take_length;go_wp2;go_ret;exact ⟨rfl,rfl⟩
  case pos =>
   obtain ⟨b1,o1,he,c1,-⟩:=(zY HS.out).2 k hlt;cases he;unfold zK at c1;rw [Nat.mul_one] at c1;have hs:=zE (span_take hk0 hlt);generalize S[k]=x at *;go_wp2;go_round
   ·exact ⟨k+1,by go_num,by omega,by omega,by rw [hs.out] <;> (refine congrArg _ ?_;dsimp only;split <;> omega)⟩
   ·simp [intOf];omega
theorem max_ints (w:World) (v:Value) (S:List Int) (hS:Sl zAM 1 w v S) (hne:0 < S.length) :
  Calls prog 114 #[v] w fun e w'=>e = .returned (.int .i64 (zBI S).hi)/\w=w':=by
 obtain ⟨a,cap,rfl,hm⟩:=zD hS;have HS:=zE hS;clear hS;obtain ⟨b0,o0,rfl,c0,-⟩:=(zY HS.out).2 0 hne;unfold zK at c0;rw [Nat.mul_comm,Nat.mul_zero,Nat.add_zero] at c0;have hf:=zE (span_first hne);generalize S[0]=x0 at *;have h1:¬ ((S.length:Int) < 1):=by omega
 have h00:(0:Int) < S.length:=by omega
 go_enter func114,ntmps114;go_wp2;clear c0;go_loop [3,4] (fun q i=>∃ k:Nat,i = .int .i64 k/\0 < k/\k<=S.length/\q = .int .i64 (zBI (S.take k)).hi) (fun _ i=>S.length - (intOf i).toNat)
 case atStart=>exact ⟨1,rfl,by omega,by omega,by rw [hf.out]⟩
 case round =>
  obtain ⟨k,rfl,hk0,hk,rfl⟩:=hrel;by_cases hlt:k < S.length
  case neg =>
   obtain rfl:k=S.length:=by omega
   have hall:Hid (S.take S.length=S):=List.take_length;go_wp2;go_ret;exact ⟨rfl,rfl⟩
  case pos =>
   obtain ⟨b1,o1,he,c1,-⟩:=(zY HS.out).2 k hlt;cases he;unfold zK at c1;rw [Nat.mul_one] at c1;have hs:=zE (span_take hk0 hlt);generalize S[k]=x at *;go_wp2;go_round
   ·exact ⟨k+1,by go_num,by omega,by omega,by rw [hs.out] <;> (refine congrArg _ ?_;dsimp only;split <;> omega)⟩
   ·simp [intOf];omega
end
section
open Tryz
open Go.RowKit Go.Shelf
structure Fnd where
 p:Nat
 a:Option Addr
 n:Nat
 c:Nat
def encF (x:Fnd) : List Value:=[.pointer (some ⟨x.p,0,none⟩),.slice x.a x.n x.c]
def AtFnd (w:World) (b o:Nat) (x:Fnd) : Prop:=zK w b o (.pointer (some ⟨x.p,0,none⟩))/\zK w b (o+1) (.slice x.a x.n x.c)
theorem zNW:zGG AtFnd:=fun _ _ _ _ _ hb ⟨h0,h1⟩=>⟨zC hb h0,zC hb h1⟩
theorem flat_snoc {F:Nat->List Int} {k:Nat} : (List.range (k+1)).flatMap F=(List.range k).flatMap F++F k:=by
 rw [List.range_succ,List.flatMap_append,List.flatMap_singleton]
theorem int_cells {w:World} {b o n c:Nat} {ys:List Int} (hu:Sl zAM 1 w (.slice (some ⟨b,o,none⟩) n c) ys) : ∀ j u,(ys.map (Value.int .i64))[j]? = some u->w.cell? ((⟨b,o,none⟩ : Addr).add j)=some u:=fun j u hj=>by
 rw [Addr.add_lit];rw [List.getElem?_map] at hj;by_cases hl:j < ys.length
 ·rw [List.getElem?_eq_getElem hl] at hj;simp at hj;subst hj;obtain ⟨b2,o2,he,hc2,_⟩:=(zY hu).2 j hl;cases he;rw [Nat.mul_one] at hc2;exact hc2
 ·rw [List.getElem?_eq_none (by omega)] at hj;simp at hj
theorem zPM (w:World) (vl:Value) (g:Nat) (fv:Array Value) (fs:List Fnd) (F:Nat->List Int) (hl:Sl AtFnd 2 w vl fs) (eg:∀ args w,(callFunc g args).run prog w = .ok (.enter g args) w) (h0:0 < fs.length) (h32:fs.length<=32)
  (hcall:∀ k (hk:k < fs.length) w',Below w.heap.size w w'->Calls prog g (#[.agg #[.pointer (some ⟨fs[k].p,0,none⟩),.slice fs[k].a fs[k].n fs[k].c]]++fv) w' fun e w''=>∃ u xs,e = .returned u/\Sl zAM 1 w'' u xs/\(∀ y,y∈xs↔y∈F k)/\0 < xs.length/\xs.length<=2/\Below w'.heap.size w' w'') :
  Calls prog 62 #[vl,.func (.func g) #[] fv] w fun e w'=>e = .returned (.agg #[.int .i64 (zBI ((List.range fs.length).flatMap F)).lo,.int .i64 (zBI ((List.range fs.length).flatMap F)).hi])/\Below w.heap.size w w':=by
 obtain ⟨i0,hif,iz0,iz1,iz2⟩:=info_parts zFY;obtain ⟨al,cl,rfl,_⟩:=zD hl;have HL:=zE hl;have HC:=zE hcall;have HB1:=zE (zB w (.cells #[.int .i64 0,.int .i64 0] 40));have HX1:=zE (Lay.new w 40 #[.int .i64 0,.int .i64 0]);have hs1:Hid ((w.alloc (.cells #[.int .i64 0,.int .i64 0] 40)).heap.size=w.heap.size+1):=World.size_alloc _ _;clear hl hcall;go_enter func62,ntmps62;go_wp2;generalize w.alloc _=w1 at *;go_loopw [5,10] (fun q i wr=>∃ (k:Nat) (xs:List Int),i = .int .i64 k/\k<=fs.length/\Hid (wr.ownsRow w1.heap.size 3 1 q xs.length (xs.map (Value.int .i64)))/\Hid ((∀ y,y∈xs↔y∈(List.range k).flatMap F)/\(∀ x∈xs,I64 x)/\xs.length<=2*k/\(0 < k->0 < xs.length))/\Hid (Below w1.heap.size w1 wr)) (fun _ i _=>fs.length - (intOf i).toNat)
 case atStart=>exact ⟨0,[],rfl,by omega,zE (World.ownsRow_nil _ _ _ _),zE ⟨fun y=>by simp,fun x hx=>by simp at hx,by simp,fun h=>absurd h (by omega)⟩,zE (br_)⟩
 case round =>
  obtain ⟨k,xs,rfl,hk,HO,HX,HB⟩:=hrel;by_cases hlt:k < fs.length
  case pos =>
   have hbr:=zE (zA HB1.out HB.out);obtain ⟨b,off,rfl,c0,c1⟩:=(zY (zJ zNW hbr.out HL.out)).2 k hlt;have hba:=zB wr (.cells #[.pointer (some ⟨fs[k].p,0,none⟩),.slice fs[k].a fs[k].n fs[k].c] 126);have hc:=HC.out k hlt (wr.alloc (.cells #[.pointer (some ⟨fs[k].p,0,none⟩),.slice fs[k].a fs[k].n fs[k].c] 126)) (zA hbr.out hba);generalize fs[k]=f at *;have HBA:=zE (zA HB.out hba);have hOA:=zE (zAC hba HO.out);have hkl:(k:Int) < fs.length:=by omega
   unfold zK at c0 c1;clear hba HO;go_wp2_with (
    first
    | (go_at_fn g
       refine hc.mono ?_;rintro e w3 ⟨v,ys,rfl,hu,hys,hy0,hy2,hb3⟩;obtain ⟨av,cv,rfl,hmv⟩:=zD hu;have hnz:∃ b' o',av=some ⟨b',o',none⟩:=by obtain ⟨b',o',h,_⟩:=(zY hu).2 0 hy0;exact ⟨b',o',h⟩
       obtain ⟨b',o',rfl⟩:=hnz;have HU:=zE hu;have HY:=zE hys;have HB3:=zE (zA HBA.out hb3);have HO3:=zE (zAC hb3 hOA.out);have HCC:=zE (int_cells hu);have hx2:=HX.out.2.2.1;have hsz3:=HB3.out.size;clear hu hys hb3 hOA hc c0 c1)
    | (at_builtin
       refine wpList_append_own _ rfl _ _ 28 rfl w1.heap.size 3 i0 (.int .i64 0) 1 8 underlying28 hif iz0 iz1 iz2 rfl (by decide) _ _ _ rfl HO3.out ⟨b',o',none⟩ ys.length cv (ys.map (Value.int .i64)) rfl (by simp) HCC.out (by intro u hu;obtain ⟨y,_,rfl⟩:=List.mem_map.1 hu;rfl) (by unfold maxLen;omega) (by omega) (by omega) ?_;intro v' w4 hown' hgrow _))
   have HB4:=zE (HB3.out.grown hgrow HB3.out.size (fun r e=>(HO3.out.lt r e).1));rw [<- List.map_append,<- List.length_append] at hown';have HO4:=zE hown';have HX4:Hid ((∀ y,y∈xs++ys↔y∈(List.range (k+1)).flatMap F)/\(∀ x∈xs++ys,I64 x)/\(xs++ys).length<=2*(k+1)/\(0 < k+1->0 < (xs++ys).length)):=by
    refine ⟨fun y=>?_,fun x hx=>?_,?_,fun _=>?_⟩
    ·rw [flat_snoc,List.mem_append,List.mem_append,HX.out.1,HY.out]
    ·rcases List.mem_append.1 hx with h | h
     ·exact HX.out.2.1 x h
     ·obtain ⟨j,hj,rfl⟩:=List.getElem_of_mem h;obtain ⟨_,_,_,_,hI⟩:=(zY HU.out).2 j hj;exact hI
    ·rw [List.length_append];omega
    ·rw [List.length_append];omega
   clear hown' hgrow HX HY HU HO3;go_wp2;go_roundw
   ·exact ⟨k+1,xs++ys,by go_num,by omega,HO4,HX4,HB4⟩
   ·simp [intOf];omega
  case neg =>
   obtain rfl:k=fs.length:=by omega
   have hI:=zBF HO.out HX.out.2.1;have hne:=HX.out.2.2.2 h0;have hsp:=zE (spanOf_eq HX.out.1);obtain ⟨aq,cq,rfl,_⟩:=zD hI;have HI:=zE hI;have hlx:=HX1.out.ext HB.out;have z0:=hlx.cell 0 _ rfl;have z1:=hlx.cell 1 _ rfl;have zf0:=hlx.frozen 0;have zf1:=hlx.frozen 1;have zl:=hlx.lt;clear hI HO HC HL;go_wp2_with (first | (go_at_call 113;refine (min_ints wr _ xs HI.out hne).mono ?_;rintro e w5 ⟨rfl,rfl⟩) | (go_at_call 114;refine (max_ints _ _ xs HI.out hne).mono ?_;rintro e w5 ⟨rfl,rfl⟩));refine bodyPost_ret (v:=.agg #[.int .i64 (zBI xs).lo,.int .i64 (zBI xs).hi]) (by simp [results,results62,go_sem,z0,z1,zl]) rfl ?_;exact ⟨by rw [hsp.out],zI (Nat.le_refl _) (zI (Nat.le_refl _) (zA HB1.out HB.out))⟩
end
section
open Tryz
open Go.RowKit
theorem or_errno (w:World) (x y:Int) (b:Nat) (h:zK w b 0 (.int .i64 x)/\zK w b 1 (.int .i64 y)) :
  Calls prog 68 #[.slice (some ⟨b,0,none⟩) 2 2] w fun e w'=>e = .returned (.int .i64 (orI x y))/\w=w':=by
 obtain ⟨c0,c1⟩:=h;unfold zK at c0 c1;go_enter func68,ntmps68;go_wp2;go_loop [8] (fun i=>∃ k:Nat,i = .int .i64 k/\k<=2/\(0 < k->x=0)/\(1 < k->y=0)) (fun i=>2 - (intOf i).toNat)
 case atStart=>exact ⟨0,rfl,by omega,fun h=>absurd h (by omega),fun h=>absurd h (by omega)⟩
 case round =>
  obtain ⟨k,rfl,hk,hx,hy⟩:=hrel;have hkc:k=0\/k=1\/k=2:=by omega
  rcases hkc with rfl | rfl | rfl
  ·by_cases g:x=0
   ·have g':(x != 0)=false:=by simp [g]
    have G:=zE g;clear g hx hy;go_wp2;go_round
    ·exact ⟨1,by go_num,by omega,fun _=>G.out,fun h=>absurd h (by omega)⟩
    ·simp [intOf]
   ·have g':(x != 0)=true:=by simp [g]
    have G:=zE g;clear g hx hy;go_wp2;go_ret;exact ⟨by unfold orI;rw [if_neg G.out];rfl,rfl⟩
  ·have HX:=zE (hx (by omega))
   clear hx hy;by_cases g:y=0
   ·have g':(y != 0)=false:=by simp [g]
    have G:=zE g;clear g;go_wp2;go_round
    ·exact ⟨2,by go_num,by omega,fun _=>HX.out,fun _=>G.out⟩
    ·simp [intOf]
   ·have g':(y != 0)=true:=by simp [g]
    have G:=zE g;clear g;go_wp2;go_ret;exact ⟨by unfold orI;rw [if_pos HX.out];rfl,rfl⟩
  ·have HX:=zE (hx (by omega));have HY:=zE (hy (by omega));clear hx hy;go_wp2;go_ret;exact ⟨by unfold orI;rw [if_pos HX.out,HY.out];rfl,rfl⟩
attribute [local go_sem] zAE Oper.grows Oper.growUpon
theorem enter_right:Enters prog 67:=enters_of func67 (by kernel_rfl) rfl
noncomputable def rightC (R:List Issue) (i d l:Int) : Int:=orI (if 0<=i then 0 else 2) (if partB R d l then 0 else 6)
theorem right1_built (w:World) (ga gb gr:Nat) (vr:Value) (R:List Issue) (i d l:Int) (ha:zK w ga 0 (.int .i64 i)) (hb:zK w gb 0 vr) (hr:zK w gr 0 (.int .i64 d)/\zK w gr 1 (.int .i64 l)) (h:RegArg w vr R) (hz:zX R=0) (hk:∀ x∈R,In x.k 1 3) :
  Calls prog 67 #[.pointer (some ⟨ga,0,none⟩),.pointer (some ⟨gb,0,none⟩),.pointer (some ⟨gr,0,none⟩)] w fun e w'=>e = .returned (.int .i64 (rightC R i d l))/\Below w.heap.size w w':=by
 have c0:=zH ha;have c1:=zH hb;have c2:=zH hr.1;have c3:=zH hr.2;have HRR:=zE (And.intro h (And.intro hz hk));clear ha hb hr h hz hk;go_enter func67,ntmps67;go_wp2;refine zM 11 (by kernel_rfl) (by kernel_rfl) ?_;simp only [tk_];iterate 2 (apply gx_;focus (intro vs xq hd;(try simp [hq_] at hd);simp only [pf_];go_simp;exact ⟨br_,rfl⟩))
 refine zT ?_;apply Exists.intro;refine ⟨fun vs xq hd=>?_,?_⟩
 ·(try simp [hq_] at hd)
  simp only [pf_];go_simp;refine (zNQ _ _ _).mono ?_;rintro e w9 ⟨rfl,rfl⟩;exact ⟨rfl,br_⟩
 iterate 4 (apply gx_;focus (intro vs xq hd;(try simp [hq_] at hd);simp only [pf_];go_simp;exact ⟨br_,rfl⟩))
 refine zT ?_;apply Exists.intro;refine ⟨fun vs xq hd=>?_,?_⟩
 ·(try simp [hq_] at hd)
  simp only [pf_];go_simp;refine (zEW (w.later xq) vr R d l (HRR.out.1.ext (zG w xq)) HRR.out.2.1 HRR.out.2.2).mono ?_;rintro e w9 ⟨rfl,hb9⟩;exact ⟨rfl,hb9⟩
 refine zT ?_;apply Exists.intro;refine ⟨fun vs xq hd=>?_,?_⟩
 ·(try simp [hq_] at hd)
  simp only [pf_];go_simp;refine (zNQ _ _ _).mono ?_;rintro e w9 ⟨rfl,rfl⟩;exact ⟨rfl,br_⟩
 refine zL (RowTwo (if 0<=i then 0 else 2) (if partB R d l then 0 else 6)) (zHL _ _) ?_ ?_
 ·intro vs xq hd
  (try simp [hq_] at hd)
  simp only [pf_];go_simp;exact ⟨zB _ _,_,rfl,zR _ _ _ 0 _ rfl,zR _ _ _ 1 _ rfl⟩
 refine zL (fun v _=>v = .int .i64 (rightC R i d l)) (fun _ _ _ _ h=>h) ?_ ?_
 ·intro vs xq hd
  (try simp [hq_] at hd)
  simp only [pf_];obtain ⟨⟨bb,e,hc⟩,eg⟩:=hd;simp only [e,eg];go_simp;refine (or_errno _ _ _ bb hc).mono ?_;rintro e w' ⟨rfl,rfl⟩;exact ⟨rfl,br_⟩
 refine zQ rfl (fun vs xq hd=>?_);simp [zW,zAI,List.range,List.range.loop] at hd;simp only [pf_];obtain ⟨_,_,_,_,_,_,_,_,_,_,e10⟩:=hd;simp only [Nat.zero_add,Nat.reduceAdd] at e10 ⊢;simp only [e10];clear c0 c1 c2 c3;go_wp2;go_ret;exact ⟨rfl,zG w xq⟩
theorem enter_rightP:Enters prog 81:=enters_of func81 (by kernel_rfl) rfl
theorem rightP_built (w:World) (ga:Nat) (i:Int) (ha:zK w ga 0 (.int .i64 i)) :
  Calls prog 81 #[.pointer (some ⟨ga,0,none⟩)] w fun e w'=>e = .returned (.int .i64 (if 0<=i then 0 else 2))/\w=w':=by
 unfold zK at ha;go_enter func81,ntmps81;by_cases hi:0<=i
 ·rw [if_pos hi];go_wp2_with fail;refine (zNQ _ true _).mono ?_;rintro e w2 ⟨rfl,rfl⟩;go_wp2;go_ret;exact ⟨rfl,rfl⟩
 ·rw [if_neg hi];go_wp2_with fail;refine (zNQ _ false _).mono ?_;rintro e w2 ⟨rfl,rfl⟩;go_wp2;go_ret;exact ⟨rfl,rfl⟩
end
section
open Tryz
open Go.RowKit Go.Shelf
attribute [local go_sem] zAE Oper.grows Oper.growUpon
theorem foundPieces (w:World) (p:Nat) (vr vn vm vh vs vz vc:Value) (b:Built) (S:List Int) (L:List Span) (i:Nat) (m d l:Int) (hF:FoundAt w p vr vn vm vh vs vz vc b S L) (hv:zF b=0) (hL:zJO b S=some L) (hm:b.ms[i]? = some m) (hix:b.ms.idxOf m=i) (hd:d∈nums b.ns.reg) (hd64:I64 d) :
  Calls prog 71 #[.agg #[.pointer (some ⟨p,0,none⟩),vc],.int .i64 i,.agg #[.int .i64 d,.int .i64 l]] w fun e w'=>∃ u xs,e = .returned u/\Sl zAM 1 w' u xs/\(∀ y,y∈xs↔y∈zOP b S m d l)/\(0 < xs.length/\xs.length<=2)/\Below w.heap.size w w':=by
 obtain ⟨ac,cc,rfl,_⟩:=zD hF.cnt;have hb1:=zB w (.cells #[.pointer (some ⟨p,0,none⟩),.slice ac L.length cc] 126);have hb2:=zB (w.alloc (.cells #[.pointer (some ⟨p,0,none⟩),.slice ac L.length cc] 126)) (.cells #[.int .i64 d,.int .i64 l] 45);have hl1:(w.alloc (.cells #[.pointer (some ⟨p,0,none⟩),.slice ac L.length cc] 126)).heap.size=w.heap.size+1:=World.size_alloc _ _;have hfb:=(Lay.new w 126 #[.pointer (some ⟨p,0,none⟩),.slice ac L.length cc]).alloc (.cells #[.int .i64 d,.int .i64 l] 45);have hrb:=Lay.new (w.alloc (.cells #[.pointer (some ⟨p,0,none⟩),.slice ac L.length cc] 126)) 45 #[.int .i64 d,.int .i64 l];rw [hl1] at hrb;have HWA:=zE (zA hb1 hb2);have HF:=zE (hF.ext HWA.out);have HFB:=zE hfb;have HRB:=zE hrb;have hi:i < b.ms.length:=(List.getElem?_eq_some_iff.1 hm).1;clear hF hb1 hb2 hl1 hfb hrb;go_enter func71,ntmps71;go_wp2;generalize (w.alloc _).alloc _=w1 at *;obtain ⟨vhas,hLs,a,cap,rfl,hrow⟩:=HF.out.site.box;obtain ⟨g,off,mb,n0,rfl,hcm,hM⟩:=hrow i hi;have hvis:visF b S i d=some (zQZ (zZ b S m d).c (zZ b S m d).l (zZ b S m d).h (bfAt b S i (zZ b S m d).h)):=by unfold visF;rw [if_pos hd,hm];rfl
 have hlook:∀ xq,(Instr.lookup 200 (.map (some mb)) (.int .i64 d) false).run prog (w1.later xq) = .ok (zQZ (zZ b S m d).c (zZ b S m d).l (zZ b S m d).h (bfAt b S i (zZ b S m d).h)) (w1.later xq):=fun xq=>by
  have h:=zFS underlying200 (Tryz.zeroValue199 (w1.later xq)) (hM.ext (zG w1 xq)) hd64;rw [hvis] at h;exact h
 have f0:=zH (show zK w1 w.heap.size 0 _ from HFB.out.cell 0 _ rfl);have s7:=zH (show zK w1 p 7 _ from hLs.cell 7 _ rfl);have r0:=zH (show zK w1 (w.heap.size+1) 0 _ from HRB.out.cell 0 _ rfl);have cm:=zH hcm;have hil:(i:Int) < b.ms.length:=by omega
 unfold zQZ at hlook;refine zM 12 (by kernel_rfl) (by kernel_rfl) ?_;simp only [tk_];iterate 11 (apply gx_;focus (intro vs xq hd;(try simp [hq_] at hd);simp only [pf_];go_simp;exact ⟨br_,rfl⟩))
 refine zL (NewBx w1.heap.size #[.int .i64 0,.int .i64 0,.int .i64 0,.int .i64 0] 199) (zFE _ _ _) ?_ ?_
 ·intro vs xq hd
  (try simp [hq_] at hd)
  simp only [pf_];go_simp;exact ⟨zB _ _,_,rfl,(zG w1 xq).size,Lay.new _ _ _⟩
 refine zQ (by simp only [List.length_append,List.length_cons,List.length_nil]) (fun vs xq hd=>?_);simp [zW,zAI,List.range,List.range.loop] at hd;simp only [pf_];obtain ⟨e0,e1,e2,e3,e4,e5,e6,e7,e8,e9,e10,gb,e11,hgb,hLb⟩:=hd;simp only [Nat.zero_add,Nat.reduceAdd] at e0 e1 e2 e3 e4 e5 e6 e7 e8 e9 e10 e11 ⊢;simp only [e0,e1,e2,e3,e4,e5,e6,e7,e8,e9,e10,e11];have hb8:=zG w1 xq;clear e0 e1 e2 e3 e4 e5 e6 e7 e8 e9 e10 e11 f0 s7 r0 cm hlook;generalize w1.later xq=w8 at *;have q0:=hLb.cell 0 _ rfl;have q1:=hLb.cell 1 _ rfl;have q2:=hLb.cell 2 _ rfl;have q3:=hLb.cell 3 _ rfl;have f0:=hLb.frozen 0;have f1:=hLb.frozen 1;have f2:=hLb.frozen 2;have f3:=hLb.frozen 3;have hl:=hLb.lt;have HB9:=zE (zI (j:=3) (u:=.int .i64 (bfAt b S i (zZ b S m d).h)) hgb (zI (j:=2) (u:=.int .i64 (zZ b S m d).h) hgb (zI (j:=1) (u:=.int .i64 (zZ b S m d).l) hgb (zI (j:=0) (u:=.int .i64 (zZ b S m d).c) hgb hb8))));have HL9:=zE (zCF (zCF (zCF (zCF hLb 0 (.int .i64 (zZ b S m d).c)) 1 (.int .i64 (zZ b S m d).l)) 2 (.int .i64 (zZ b S m d).h)) 3 (.int .i64 (bfAt b S i (zZ b S m d).h)));clear hLb hb8;go_step;go_simp;generalize (((w8.setCell _ _).setCell _ _).setCell _ _).setCell _ _=w9 at *;clear q0 q1 q2 q3 f0 f1 f2 f3 hl;have HRB9:=zE (HRB.out.ext HB9.out);have HF9:=zE (HF.out.ext HB9.out);have HFB9:=zE (HFB.out.ext HB9.out);have hc:=zJP hv S m d;have hlt:=zNN (zS hv).1 S m hd;have hle:(zZ b S m d).l=zAA S m b.ns.notes d:=rfl;rw [<- hle] at hlt;have hhb:=zIY b S m d;have HE:Hid (zOP b S m d l=[zGH (zZ b S m d) l (if (zZ b S m d).h < 0 then 0 else oldC (zCX b S (zZ b S m d).h.toNat i) (zZ b S m d).c (spanS b S m d).lo),zGH (zZ b S m d) l (if (zZ b S m d).h < 0 then 0 else oldC (zCX b S (zZ b S m d).h.toNat i) (zZ b S m d).c (spanS b S m d).hi)]):=by unfold Hid;rw [<- hix];rfl
 have HSP:Hid (spanS b S m d=if (zZ b S m d).h < 0 then ⟨0,0⟩ else (zEM b S (zZ b S m d).h.toNat).getD ⟨0,0⟩):=rfl;have HBF:Hid (bfAt b S i (zZ b S m d).h=if 0<=(zZ b S m d).h then zCX b S (zZ b S m d).h.toNat i else 0):=rfl;have hlf:=zFK hv hL;have HLF:=zE hlf;clear hle hlf;generalize zZ b S m d=h at *;generalize bfAt b S i h.h=bf at *;have q0:=HL9.out.cell 0 _ rfl;have q1:=HL9.out.cell 1 _ rfl;have q2:=HL9.out.cell 2 _ rfl;have q3:=HL9.out.cell 3 _ rfl;have r1:=HRB9.out.cell 1 _ rfl;have hgl:=HL9.out.lt;have hrl:=HRB9.out.lt;have hwl:IntKind.i64.wrap (h.l - 1)=h.l - 1:=IntWalk.i64_in _ (by omega);have hwl2:wrap64 (h.l - 1)=h.l - 1:=IntWalk.wrap64_in _ (by omega);by_cases h0:h.h < 0
 ·have h0':¬ (0<=h.h):=by omega
  by_cases hA:l=h.l
  ·have hends:Hid (zOP b S m d l=[h.c,h.c]):=by
    unfold Hid;rw [HE.out];unfold zGH;rw [if_pos hA,if_pos hA,if_pos h0,if_pos h0,Int.sub_zero]
   have hwc:wrap64 h.c=h.c:=IntWalk.wrap64_in _ (by omega);have hwc2:IntKind.i64.wrap h.c=h.c:=IntWalk.i64_in _ (by omega);go_wp2;have hb10:=zB w9 (.cells #[.int .i64 0,.int .i64 0] 3);have h20:=Lay.new w9 3 #[.int .i64 0,.int .i64 0];have hL10:=HL9.out.ext hb10;have HB10:=zE (zA HWA.out (zA HB9.out hb10));clear hb10;generalize w9.heap.size=g8 at *;generalize hw10:w9.alloc _=w10 at *;have p0:=zH (show zK w10 gb 0 _ from hL10.cell 0 _ rfl);have t0:=zH (show zK w10 g8 0 _ from h20.cell 0 _ rfl);have t1:=zH (show zK w10 g8 1 _ from h20.cell 1 _ rfl);refine zM 13 (by kernel_rfl) (by kernel_rfl) ?_;simp only [tk_];iterate 12 (apply gx_;focus (intro vs xq hd;(try simp [hq_] at hd);simp only [pf_];go_simp;exact ⟨br_,rfl⟩))
   refine zL (fun v w'=>Sl zAM 1 w' v [h.c,h.c]) (fun v w w' hb h=>zJ zN hb h) ?_ ?_
   ·intro vs xq hd
    (try simp [hq_] at hd)
    simp only [pf_];go_simp;exact ⟨zB _ _,zNS _ h.c h.c (by unfold I64;omega) (by unfold I64;omega)⟩
   refine zQ (by simp only [List.length_append,List.length_cons,List.length_nil]) (fun vs xq hd=>?_);simp [zW,zAI,List.range,List.range.loop] at hd;simp only [pf_];obtain ⟨_,_,_,_,_,_,_,_,_,_,_,_,e12⟩:=hd;simp only [Nat.zero_add,Nat.reduceAdd] at e12 ⊢;have HBZ:=zE (zA HB10.out (zG w10 xq));have HE12:=zE e12;clear e12 p0 t0 t1;generalize vs 12=v12 at *;go_wp2;go_ret;exact ⟨_,[h.c,h.c],rfl,HE12.out,fun y=>by rw [hends.out],by simp,HBZ.out⟩
  ·by_cases hB:l=h.l - 1
   ·have hends:Hid (zOP b S m d l=[0,0]):=by
     unfold Hid;rw [HE.out];unfold zGH;rw [if_neg hA,if_neg hA,if_pos hB,if_pos hB,if_pos h0,if_pos h0]
    go_wp2;go_ret;have hI:=zNS w9 0 0 (by unfold I64;decide) (by unfold I64;decide);exact ⟨_,rfl,[0,0],hI,fun y=>by rw [<- hB,hends.out],by simp,zA HWA.out (zA HB9.out (zB _ _))⟩
   ·have hends:Hid (zOP b S m d l=[0,0]):=by
     unfold Hid;rw [HE.out];unfold zGH;rw [if_neg hA,if_neg hA,if_neg hB,if_neg hB]
    have hsz:Hid ((w9.alloc (.cells #[.int .i64 0,.int .i64 0] 3)).heap.size=w9.heap.size+1):=World.size_alloc _ _;go_wp2;go_ret;have hI:=zRE (w9.alloc (.cells #[.int .i64 0,.int .i64 0] 3)) 0 (by unfold I64;decide);rw [hsz.out] at hI;exact ⟨_,rfl,[0],hI,fun y=>by rw [hends.out];simp,by simp,zA HWA.out (zA HB9.out (zA (zB _ _) (zB _ _)))⟩
 ·have h0':0<=h.h:=by omega
  obtain ⟨kk,hkk⟩ : ∃ kk:Nat,h.h=kk:=⟨h.h.toNat,by omega⟩;obtain ⟨_,hll,hlk⟩:=HLF.out;have hkL:kk < L.length:=by omega
  obtain ⟨gc,oc,rfl,⟨n0,n1⟩,_⟩:=(zY HF9.out.cnt).2 kk hkL;have hspan:=hlk kk hkL;have hvh:=zGO hv (show kk < b.hs.length by omega);have hsp:Hid (spanS b S m d=L[kk]):=by unfold Hid;rw [HSP.out,if_neg h0,show h.h.toNat=kk by omega,hspan.1];rfl
  have hlb:=hspan.2.2 (by omega);generalize L[kk]=c at *;have hkl:(kk:Int) < L.length:=by omega
  have hbfe:Hid (bf=zCX b S kk i):=by unfold Hid;rw [HBF.out,if_pos h0',show h.h.toNat=kk by omega]
  rw [hkk] at q2;have HN:=zE (And.intro n0 n1);have hfb:=HFB9.out.cell 1 _ rfl;unfold zK at n0 n1;have hkc:(kk:Int) < L.length:=by omega
  have hfl:=HFB9.out.lt;have hcl:=zAD (show zK w9 gc _ _ from n0);have hcb:0<=c.lo/\c.lo<=200/\0<=c.hi/\c.hi<=200:=by have:=hspan.2.1;omega
  clear hll hlk hspan hkl;have q1:∀ A B C:Obj,(((w9.alloc A).alloc B).alloc C).cell? ⟨gb,1,none⟩=some (.int .i64 h.l):=fun A B C=>zC (zA (zA (zB w9 A) (zB _ B)) (zB _ C)) (show zK w9 gb 1 (.int .i64 h.l) from HL9.out.cell 1 _ rfl)
  have hbfn:0<=bf/\bf<=12*16777216000000:=by rw [hbfe.out];have h1:=bef_bd hv S kk i;have h3:=(zS hv).2.2.1;omega
  have hww:∀ n:Int,0<=n->n<=200->wrap64 (n - bf)=n - bf:=fun n h0 h1=>IntWalk.wrap64_in _ (by omega)
  have HO:∀ n:Int,0<=n->n<=200->(if (if 0 < wrap64 (n - bf) then wrap64 (n - bf) else 0) < h.c then (if 0 < wrap64 (n - bf) then wrap64 (n - bf) else 0) else h.c)=oldC bf h.c n:=fun n h0 h1=>by
   rw [hww n h0 h1];unfold oldC;split <;> split <;> omega
  have HO1:=zE (HO c.lo (by omega) (by omega));have HO2:=zE (HO c.hi (by omega) (by omega));have hOb:∀ n:Int,0<=oldC bf h.c n/\oldC bf h.c n<=h.c:=fun n=>by unfold oldC;omega
  have hOb1:=hOb c.lo;have hOb2:=hOb c.hi;clear HO hww hOb;have HE2:Hid (zOP b S m d l=[zGH h l (oldC bf h.c c.lo),zGH h l (oldC bf h.c c.hi)]):=by unfold Hid;rw [HE.out,if_neg h0,if_neg h0,hsp.out,show h.h.toNat=kk by omega,hbfe.out]
  generalize oldC bf h.c c.lo=O1 at *;generalize oldC bf h.c c.hi=O2 at *;obtain ⟨T1,hT1⟩ : ∃ T,wrap64 (c.lo - bf)=T:=⟨_,rfl⟩;obtain ⟨T2,hT2⟩ : ∃ T,wrap64 (c.hi - bf)=T:=⟨_,rfl⟩;rw [hT1] at HO1;rw [hT2] at HO2;obtain ⟨M1,hM1⟩ : ∃ M,(if 0 < T1 then T1 else 0)=M:=⟨_,rfl⟩;obtain ⟨M2,hM2⟩ : ∃ M,(if 0 < T2 then T2 else 0)=M:=⟨_,rfl⟩;rw [hM1] at HO1;rw [hM2] at HO2;have hO1:=HO1.out;have hO2:=HO2.out;clear hcb hbfn hlb hvh;have HBA:=zE (zA (zA (zB w9 (.cells #[.int .i64 0,.int .i64 0] 3)) (zB _ (.cells #[.int .i64 c.lo,.int .i64 c.hi] 40))) (zB _ (.cells #[.int .i64 O1,.int .i64 O2] 3)));have HBB:=zE (zA HWA.out (zA HB9.out HBA.out));have hO1I:I64 O1:=by unfold I64;omega
  have hO2I:I64 O2:=by unfold I64;omega
  have hrow2:=zNS ((w9.alloc (.cells #[.int .i64 0,.int .i64 0] 3)).alloc (.cells #[.int .i64 c.lo,.int .i64 c.hi] 40)) O1 O2 hO1I hO2I;have hsz2:((w9.alloc (.cells #[.int .i64 0,.int .i64 0] 3)).alloc (.cells #[.int .i64 c.lo,.int .i64 c.hi] 40)).heap.size=w9.heap.size+1+1:=by rw [World.size_alloc,World.size_alloc]
  rw [hsz2] at hrow2;have HROW:=zE hrow2;clear hrow2 hsz2;by_cases hA:l=h.l
  ·have hends:Hid (zOP b S m d l=[h.c - O1,h.c - O2]):=by
    unfold Hid;rw [HE2.out];unfold zGH;rw [if_pos hA,if_pos hA]
   have hgb0:=zC HBA.out (show zK w9 gb 0 (.int .i64 h.c) from HL9.out.cell 0 _ rfl);have h20:=Lay.new ((w9.alloc (.cells #[.int .i64 0,.int .i64 0] 3)).alloc (.cells #[.int .i64 c.lo,.int .i64 c.hi] 40)) 3 #[.int .i64 O1,.int .i64 O2];have hsz2:((w9.alloc (.cells #[.int .i64 0,.int .i64 0] 3)).alloc (.cells #[.int .i64 c.lo,.int .i64 c.hi] 40)).heap.size=w9.heap.size+1+1:=by rw [World.size_alloc,World.size_alloc]
   rw [hsz2] at h20;have H20:=zE h20;have HG0:=zE hgb0;clear h20 hgb0 hsz2;have hw1:wrap64 (h.c - O1)=h.c - O1:=IntWalk.wrap64_in _ (by omega);have hw2:wrap64 (h.c - O2)=h.c - O2:=IntWalk.wrap64_in _ (by omega);have hw3:IntKind.i64.wrap (h.c - O1)=h.c - O1:=IntWalk.i64_in _ (by omega);have hw4:IntKind.i64.wrap (h.c - O2)=h.c - O2:=IntWalk.i64_in _ (by omega);go_wp2;generalize hg8:w9.heap.size+1+1=g8 at *;generalize ((w9.alloc _).alloc _).alloc _=w12 at *;have p0:=zH HG0.out;have t0:=zH (show zK w12 g8 0 _ from H20.out.cell 0 _ rfl);have t1:=zH (show zK w12 g8 1 _ from H20.out.cell 1 _ rfl);refine zM 13 (by kernel_rfl) (by kernel_rfl) ?_;simp only [tk_];iterate 12 (apply gx_;focus (intro vs xq hd;(try simp [hq_] at hd);simp only [pf_];go_simp;exact ⟨br_,rfl⟩))
   refine zL (fun v w'=>Sl zAM 1 w' v [h.c - O1,h.c - O2]) (fun v w w' hb h=>zJ zN hb h) ?_ ?_
   ·intro vs xq hd
    (try simp [hq_] at hd)
    simp only [pf_];go_simp;exact ⟨zB _ _,zNS _ (h.c - O1) (h.c - O2) (by unfold I64;omega) (by unfold I64;omega)⟩
   refine zQ (by simp only [List.length_append,List.length_cons,List.length_nil]) (fun vs xq hd=>?_);simp [zW,zAI,List.range,List.range.loop] at hd;simp only [pf_];obtain ⟨_,_,_,_,_,_,_,_,_,_,_,_,e12⟩:=hd;simp only [Nat.zero_add,Nat.reduceAdd] at e12 ⊢;have HBZ:=zE (zA HBB.out (zG w12 xq));have HE12:=zE e12;clear e12 p0 t0 t1;generalize vs 12=v12 at *;go_wp2;go_ret;exact ⟨_,[h.c - O1,h.c - O2],rfl,HE12.out,fun y=>by rw [hends.out],by simp,HBZ.out⟩
  ·by_cases hB:l=h.l - 1
   ·have hends:Hid (zOP b S m d l=[O1,O2]):=by
     unfold Hid;rw [HE2.out];unfold zGH;rw [if_neg hA,if_neg hA,if_pos hB,if_pos hB]
    go_wp2;go_ret;exact ⟨_,rfl,[O1,O2],HROW.out,fun y=>by rw [<- hB,hends.out],by simp,HBB.out⟩
   ·have hends:Hid (zOP b S m d l=[0,0]):=by
     unfold Hid;rw [HE2.out];unfold zGH;rw [if_neg hA,if_neg hA,if_neg hB,if_neg hB]
    have hI:=zRE (((w9.alloc (.cells #[.int .i64 0,.int .i64 0] 3)).alloc (.cells #[.int .i64 c.lo,.int .i64 c.hi] 40)).alloc (.cells #[.int .i64 O1,.int .i64 O2] 3)) 0 (by unfold I64;decide);have hsz3:(((w9.alloc (.cells #[.int .i64 0,.int .i64 0] 3)).alloc (.cells #[.int .i64 c.lo,.int .i64 c.hi] 40)).alloc (.cells #[.int .i64 O1,.int .i64 O2] 3)).heap.size=w9.heap.size+1+1+1:=by rw [World.size_alloc,World.size_alloc,World.size_alloc]
    rw [hsz3] at hI;have HI:=zE hI;clear hI hsz3;go_wp2;go_ret;exact ⟨_,rfl,[0],HI.out,fun y=>by rw [hends.out];simp,by simp,zA HBB.out (zB _ _)⟩
end
end Go.Proofs.YtipaopbmklbmnaaGreatDoor
