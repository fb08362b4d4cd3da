/- Arguments opened: an int, and the name of an issue. -/
import Derived.Deep.Slices
import Derived.Test.YtpolpdegpbahiaaGreatDoorM03
import Derived.Test.YtpolpdegpbahiaaGreatDoorM08
import Derived.Test.YtpolpdegpbahiaaGreatDoorM53
import Derived.Test.YtpolpdegpbahiaaGreatDoorM58
import Derived.Test.YtpolpdegpbahiaaGreatDoorM62
import Derived.Test.YtpolpdegpbahiaaGreatDoorM63
import Derived.Test.YtpolpdegpbahiaaGreatDoorM76
set_option linter.all false
set_option maxRecDepth 100000
set_option maxHeartbeats 12800000

namespace Go.Proofs.YtpolpdegpbahiaaGreatDoor
open Tryz
section
open Go.RowKit
attribute [local go_sem] zAN Oper.grows Oper.growUpon
open Classical in
theorem failTo_view {b:Built} (h:zM b=0) (S:List Int) (hp n:Int) : zCR (zQD (fun _=>true) b.ms b.rs (zBS b S) (zBO b S) hp n) b.rs b.rs.length=zQB b S hp n:=by
 have key:∀ k,k≤b.rs.length→zCR (zQD (fun _=>true) b.ms b.rs (zBS b S) (zBO b S) hp n) b.rs k=zQB { b with rs:=b.rs.take k } S hp n:=by
  intro k
  induction k with
  | zero=>intro _;rfl
  | succ k ih =>
    intro hk
    have hlt:k < b.rs.length:=by omega
    have hv:=zQK h S hp n hlt
    have hF:=zQZ b (b.rs.take (k+1)) S hp n b.rs[k]
    have e:zQB { b with rs:=b.rs.take (k+1) } S hp n=zQB { b with rs:=b.rs.take k } S hp n++(if zNY b S hp n b.rs[k] then [b.rs[k].num] else []):=by
     unfold zQB
     simp only
     rw [List.take_succ_eq_append_getElem hlt,List.filter_append,List.map_append]
     simp only [zQZ]
     by_cases hc:zNY b S hp n b.rs[k] <;> simp [hc]
    rw [e]
    by_cases hc:zNY b S hp n b.rs[k]
    ·rw [zRT hlt ⟨rfl,hv.2 hc⟩,ih (by omega),if_pos hc]
    ·rw [failTo_no (fun h=>hc (hv.1 h.2)),ih (by omega),if_neg hc,List.append_nil]
 have:=key b.rs.length (Nat.le_refl _)
 rw [List.take_length] at this
 exact this
theorem failL_len (b:Built) (S:List Int) (k n:Int) : (zQB b S k n).length≤b.rs.length:=by
 unfold zQB
 rw [List.length_map]
 exact List.length_filter_le _ _
theorem failsAll (w:World) (vr vn vm vh vz vp vt:Value) (b:Built) (S:List Int) (hB:BuiltAt w vr vn vm vh vz b) (hv:zM b=0) (hV:ViewAt w vp vt (zBS b S) (zBO b S)) (hp n:Int) (hn:0≤n∧n≤200) :
  Calls prog 107 #[.agg #[vr,vn,.int .i64 b.of,vm,vh,vz],.agg #[vp,vt],.int .i64 (2 ^ b.rs.length - 1),.int .i64 hp,.int .i64 n] w fun e w' =>
   ∃ u,e = .returned u∧(∃ base,w.heap.size≤base∧OwnL w' base u (zQB b S hp n))∧Below w.heap.size w w':=by
 have hr10:=(zW hv).2.2.2.2.1
 have:=fails08s w vr vn vm vh vz vp vt b.of b.ms b.rs (zBS b S) (zBO b S) hB.ms hB.rs hV (zRU hv S) hr10 (2 ^ b.rs.length - 1) (fun _=>true) (fun k hk=>by rw [every_bit b.rs.length (by omega) k hk];rfl) hp n hn
 rw [failTo_view hv] at this
 exact this
structure InsTo (l L:List Int) (j:Nat) (r:List Int) : Prop where
 rise:r.Pairwise (· < ·)
 mem:∀ x,x∈r↔x∈l∨x∈L.take j
theorem InsTo.put {l L r:List Int} {j k:Nat} (h:InsTo l L j r) (hj:j < L.length) (hk:k≤r.length) (h1:∀ y∈r.drop k,L[j] < y) (h2:∀ y∈r.take k,y < L[j]) : InsTo l L (j+1) (r.take k++L[j] :: r.drop k):=by
 have e:∀ x,x∈r↔x∈r.take k∨x∈r.drop k:=fun x=>by rw [← List.mem_append,List.take_append_drop]
 refine ⟨?_,fun x=>?_⟩
 ·have hr:=h.rise
  rw [← List.take_append_drop k r,List.pairwise_append] at hr
  rw [List.pairwise_append,List.pairwise_cons]
  refine ⟨hr.1,⟨h1,hr.2.1⟩,fun a ha c hc=>?_⟩
  rcases List.mem_cons.1 hc with rfl | hc
  ·exact h2 a ha
  ·exact hr.2.2 a ha c hc
 ·rw [List.mem_append,List.mem_cons,List.take_succ_eq_append_getElem hj,List.mem_append,List.mem_singleton]
  have hm:=h.mem x
  have he:=e x
  constructor
  ·rintro (a | a | a)
   ·rcases hm.1 (he.2 (.inl a)) with c | c
    ·exact .inl c
    ·exact .inr (.inl c)
   ·exact .inr (.inr a)
   ·rcases hm.1 (he.2 (.inr a)) with c | c
    ·exact .inl c
    ·exact .inr (.inl c)
  ·rintro (a | a | a)
   ·rcases he.1 (hm.2 (.inl a)) with c | c
    ·exact .inl c
    ·exact .inr (.inr c)
   ·rcases he.1 (hm.2 (.inr a)) with c | c
    ·exact .inl c
    ·exact .inr (.inr c)
   ·exact .inr (.inl a)
theorem InsTo.ahead {l L r:List Int} {j k:Nat} (h:InsTo l L j r) (hj:j < L.length) (hL:L.Pairwise (· < ·)) (hd:L[j] ∉ l) (hk:k < r.length) (hn:¬ L[j] < r[k]) : ∀ y∈r.take (k+1),y < L[j]:=by
 have hne:r[k]≠L[j]:=fun e=>by
  rcases (h.mem r[k]).1 (List.getElem_mem hk) with h1 | h1
  ·rw [e] at h1;exact hd h1
  ·rw [e] at h1
   obtain ⟨i,hi,he⟩:=List.mem_take_iff_getElem.1 h1
   have:=List.pairwise_iff_getElem.1 hL i j (by omega) hj (by omega)
   omega
 intro y hy
 rw [List.take_succ_eq_append_getElem hk,List.mem_append,List.mem_singleton] at hy
 rcases hy with hy | rfl
 ·obtain ⟨i,hi,rfl⟩:=List.mem_take_iff_getElem.1 hy
  have:=List.pairwise_iff_getElem.1 h.rise i k (by omega) hk (by omega)
  omega
 ·omega
theorem IsBrk.step {b:Built} (hv:zM b=0) {S:List Int} {m:Nat} {nn:Nat→Int} {l r:List Int} (h:IsBrk b S m nn l) (hm:m < b.hs.length) {z:Int} (hz:b.hs[m].lo≤z∧z≤b.hs[m].hi) (hb:∀ n,b.hs[m].lo≤n→n≤b.hs[m].hi→LeL (zQB b S m z) (zQB b S m n))
  (hr:InsTo l (zQB b S m z) (zQB b S m z).length r) : ∃ nn',IsBrk b S (m+1) nn' r:=by
 refine ⟨fun k=>if k=m then z else nn k,fun k hk hkm=>?_,hr.rise,fun x=>?_⟩
 ·by_cases e:k=m
  ·subst e
   simp only [if_true]
   exact ⟨hz,hb⟩
  ·simp only [if_neg e]
   exact h.best k hk (by omega)
 ·rw [hr.mem,List.take_length,h.mem]
  constructor
  ·rintro ((a | ⟨k,hk,a⟩) | a)
   ·exact .inl a
   ·exact .inr ⟨k,by omega,by simp only [if_neg (show ¬ k=m by omega)];exact a⟩
   ·exact .inr ⟨m,by omega,by simp only [if_true];exact a⟩
  ·rintro (a | ⟨k,hk,a⟩)
   ·exact .inl (.inl a)
   ·by_cases e:k=m
    ·subst e
     simp only [if_true] at a
     exact .inr a
    ·simp only [if_neg e] at a
     exact .inl (.inr ⟨k,by omega,a⟩)
theorem IsBrk.apart {b:Built} (hv:zM b=0) {S:List Int} {m:Nat} {nn:Nat→Int} {l:List Int} (h:IsBrk b S m nn l) (z x:Int) (hx:x∈zQB b S m z) : x ∉ l:=fun hl=>by
 rcases (h.mem x).1 hl with h1 | ⟨k,hk,h1⟩
 ·have:=zQS hv h1 hx;omega
 ·have:=zQS hv h1 hx;omega
theorem IsBrk.I64 {b:Built} (hv:zM b=0) {S:List Int} {m:Nat} {nn:Nat→Int} {l:List Int} (h:IsBrk b S m nn l) (hI:∀ r∈b.rs,I64 r.num) : ∀ x∈l,I64 x:=fun x hx=>by
 rcases (h.mem x).1 hx with h1 | ⟨k,hk,h1⟩ <;> obtain ⟨r,hr,_,rfl⟩:=zQJ.1 h1 <;> exact hI r hr
theorem IsBrk.len {b:Built} (hv:zM b=0) {S:List Int} {m:Nat} {nn:Nat→Int} {l:List Int} (h:IsBrk b S m nn l) : l.length≤10:=by
 have h1:l.length≤(zQN b).length:=rise_len h.rise (fun x hx=>by
  rcases (h.mem x).1 hx with h1 | ⟨k,hk,h1⟩
  ·exact (zQF hv S _ _).2 x h1
  ·exact (zQF hv S _ _).2 x h1)
 have h2:=(zW hv).2.2.2.2.1
 unfold zQN at h1
 rw [List.length_map] at h1
 omega
theorem InsTo.len {b:Built} (hv:zM b=0) {S:List Int} {m:Nat} {nn:Nat→Int} {l r:List Int} {z:Int} {j:Nat} (h:IsBrk b S m nn l) (hr:InsTo l (zQB b S m z) j r) : r.length≤10:=by
 have h1:r.length≤(zQN b).length:=rise_len hr.rise (fun x hx=>by
  rcases (hr.mem x).1 hx with hx | hx
  ·rcases (h.mem x).1 hx with h1 | ⟨k,hk,h1⟩
   ·exact (zQF hv S _ _).2 x h1
   ·exact (zQF hv S _ _).2 x h1
  ·exact (zQF hv S _ _).2 x (List.mem_of_mem_take hx))
 have h2:=(zW hv).2.2.2.2.1
 unfold zQN at h1
 rw [List.length_map] at h1
 omega
structure BestTo (b:Built) (S:List Int) (k:Nat) (lo:Int) (j:Nat) (z:Int) : Prop where
 in_:lo≤z∧z≤lo+j
 best:∀ n,lo≤n→n≤lo+j→LeL (zQB b S k z) (zQB b S k n)
theorem BestTo.keep {b:Built} {S:List Int} {k:Nat} {lo:Int} {j:Nat} {z:Int} (h:BestTo b S k lo j z) (hn:zIP (zQB b S k (lo+j+1)) (zQB b S k z)=false) : BestTo b S k lo (j+1) z :=
 ⟨by have:=h.in_;omega,fun n h1 h2=>by
  by_cases e:n=lo+j+1
  ·subst e;exact hn
  ·exact h.best n h1 (by omega)⟩
theorem BestTo.turn {b:Built} {S:List Int} {k:Nat} {lo:Int} {j:Nat} {z:Int} (h:BestTo b S k lo j z) (hn:zIP (zQB b S k (lo+j+1)) (zQB b S k z)=true) : BestTo b S k lo (j+1) (lo+j+1) :=
 ⟨by omega,fun n h1 h2=>by
  by_cases e:n=lo+j+1
  ·subst e;exact zQV _
  ·exact leL_tr (leL_of hn) (h.best n h1 (by omega))⟩
end
section
open Go.RowKit
attribute [local go_sem] zAN Oper.grows Oper.growUpon
theorem OwnL.down {w:World} {base base':Nat} {v:Value} {L:List Int} (hb:base'≤base) (h:OwnL w base v L) : OwnL w base' v L:=by
 obtain ⟨⟨l1,l2⟩,hI⟩:=h
 refine ⟨⟨l1,?_⟩,hI⟩
 rcases l2 with h | ⟨g2,cap2,cur2,e2,hb2,hh⟩
 ·exact .inl h
 ·exact .inr ⟨g2,cap2,cur2,e2,Nat.le_trans hb hb2,hh⟩
theorem cell_apart {w w':World} {b o:Nat} {v:Value} {blk:Option Nat} (hg:w.grownBy w' blk) (hb:some b≠blk) (h:zJ w b o v) : zJ w' b o v:=by
 have hl:=zAF h
 unfold zJ at *
 rw [World.cell?_of_block (hg.block b hl hb)]
 exact h
theorem sl_apart {w w':World} {v:Value} {L:List Int} {blk:Option Nat} (hg:w.grownBy w' blk) (hb:∀ g,v.ownBlock=some g→some g≠blk) (h:Sl zAJ 1 w v L) : Sl zAJ 1 w' v L:=by
 obtain ⟨a,c,rfl,hm,hx⟩:=h
 refine ⟨a,c,rfl,hm,fun k hk=>?_⟩
 obtain ⟨b,off,rfl,h1,h2⟩:=hx k hk
 exact ⟨b,off,rfl,cell_apart hg (hb b rfl) h1,h2⟩
theorem broken08 (w:World) (vr vn vm vh vz vp vt:Value) (b:Built) (S:List Int) (hB:BuiltAt w vr vn vm vh vz b) (hv:zM b=0) (hV:ViewAt w vp vt (zBS b S) (zBO b S)) :
  Calls prog 86 #[.agg #[vr,vn,.int .i64 b.of,vm,vh,vz],.agg #[vp,vt]] w fun e w'=>∃ u l nn,e = .returned u∧IsBrk b S b.hs.length nn l∧Sl zAJ 1 w' u l∧Below w.heap.size w w':=by
 obtain ⟨i0,hif,iz0,iz1,iz2⟩:=info_parts zDM
 obtain ⟨ah,ch,rfl,hmh⟩:=zD hB.hs
 obtain ⟨hb1,B1,B2⟩:=zDY w #[vr,vn,.int .i64 b.of,vm,.slice ah b.hs.length ch,vz] #[vp,vt] 32 130
 have hb0:=B1 0 vr rfl
 have hb1':=B1 1 vn rfl
 have hb2:=B1 2 (.int .i64 b.of) rfl
 have hb3:=B1 3 vm rfl
 have hb4:=B1 4 (.slice ah b.hs.length ch) rfl
 have hb5:=B1 5 vz rfl
 have d0:=B2 0 vp rfl
 have d1:=B2 1 vt rfl
 clear B1 B2
 have CA:=zF (And.intro hb0 (And.intro hb1' (And.intro hb2 (And.intro hb3 (And.intro hb4 (And.intro hb5 (And.intro d0 d1)))))))
 have HB:=zF (hB.ext hb1)
 have HVW:=zF (hV.ext hb1)
 have HV:=zF hv
 have hr10:b.rs.length≤10:=(zW hv).2.2.2.2.1
 have HI64:Hid (∀ r∈b.rs,I64 r.num):=fun r hr=>by
  have:=(zEN hv hr).1
  unfold In at this
  unfold I64
  omega
 have HLE:=zF (fun k n=>Nat.le_trans (failL_len b S k n) hr10)
 clear hB hV hv hb0 hb1' hb2 hb3 hb4 hb5 d0 d1
 go_enter func86,ntmps86
 go_wp2
 generalize (w.alloc _).alloc _=wA at *
 have HB1:=zF hb1
 clear hb1
 have c0:=zG (CA.out.1)
 have c1:=zG (CA.out.2.1)
 have c2:=zG (CA.out.2.2.1)
 have c3:=zG (CA.out.2.2.2.1)
 have c4:=zG (CA.out.2.2.2.2.1)
 have c5:=zG (CA.out.2.2.2.2.2.1)
 have d0:=zG (CA.out.2.2.2.2.2.2.1)
 have d1:=zG (CA.out.2.2.2.2.2.2.2)
 refine zK 5 (by kernel_rfl) (by kernel_rfl) ?_
 simp only [tk_]
 iterate 3 (apply gx_;focus (intro vs xq hd;(try simp [hq_] at hd);simp only [pf_];go_simp;exact ⟨br_,rfl⟩))
 refine zAE ?_
 apply Exists.intro
 refine ⟨fun vs xq hd=>?_,?_⟩
 ·(try simp [hq_] at hd)
  simp only [pf_]
  go_simp
  refine (zRE (wA.later xq) vr vn vm _ vz b.of b.rs (HB.out.ext (zE wA xq)).rs (by omega)).mono ?_
  rintro e w9 ⟨rfl,hb9⟩
  exact ⟨rfl,hb9⟩
 refine zL (fun v w'=>Hid (OwnL w' wA.heap.size v (zQB b S (-1) 0))) (fun v w w' hb h=>zF (h.out.ext hb)) ?_ ?_
 ·intro vs xq hd
  (try simp [hq_] at hd)
  simp only [pf_]
  go_simp
  refine (failsAll (wA.later xq) vr vn vm _ vz vp vt b S (HB.out.ext (zE wA xq)) HV.out (HVW.out.ext (zE wA xq)) (-1) 0 (by omega)).mono ?_
  rintro e w9 ⟨u,rfl,⟨base,hba,ho⟩,hb9⟩
  exact ⟨u,rfl,hb9,zF (ho.down (Nat.le_trans (zE wA xq).size hba))⟩
 refine zT (by simp only [List.length_append,List.length_cons,List.length_nil]) (fun vs xq hd=>?_)
 simp [zV,zAD,List.range,List.range.loop] at hd
 simp only [pf_]
 obtain ⟨e0,e1,e2,e3,h4⟩:=hd
 simp only [Nat.zero_add,Nat.reduceAdd] at e0 e1 e2 e3 ⊢
 simp only [e0,e1,e2,e3]
 clear e0 e1 e2 e3 c0 c1 c2 c3 c4 c5 d0 d1
 have HBA:=zF (zE wA xq)
 have HO4:=zF h4.out
 generalize vs 4=v4 at *
 generalize wA.later xq=w8 at *
 clear h4
 have hb0:IsBrk b S 0 (fun _=>0) (zQB b S (-1) 0):=⟨fun k _ hk=>absurd hk (by omega),(zQF HV.out S _ _).1,fun x=>by simp⟩
 have HB0:=zF hb0
 clear hb0
 go_wp2
 go_loopw [5,6] (fun o i wr=>∃ (k:Nat) (l:List Int),i = .int .i64 k∧k≤b.hs.length∧Hid (∃ nn,IsBrk b S k nn l)∧Hid (OwnL wr wA.heap.size o l)∧Hid (Below wA.heap.size wA wr)) (fun _ i _=>b.hs.length - (intOf i).toNat)
 case atStart=>exact ⟨0,_,rfl,by omega,zF ⟨_,HB0.out⟩,HO4,HBA⟩
 case round =>
  clear HB0 HO4 HBA
  obtain ⟨k,l,rfl,hk,HBR,HO,HBK⟩:=hrel
  have c4:=zC HBK.out CA.out.2.2.2.2.1
  unfold zJ at c4
  by_cases hlt:k < b.hs.length
  case neg =>
   obtain rfl:k=b.hs.length:=by omega
   obtain ⟨nn,hbr⟩:=HBR.out
   have H:=zF (And.intro hbr HO.out.sl)
   clear hbr HO HBR
   go_wp2
   go_ret
   exact ⟨_,l,nn,rfl,H.out.1,H.out.2,zA HB1.out HBK.out⟩
  case pos =>
   obtain ⟨gh,oh,hah,⟨-,-,q2,q3⟩,-⟩:=(zZ (zI zCL HBK.out HB.out.hs)).2 k hlt
   subst hah
   have hvh:=zDP HV.out hlt
   have hkl:(k:Int) < b.hs.length:=by omega
   have HBEST:Hid (∀ z,BestTo b S k b.hs[k].lo (b.hs[k].hi - b.hs[k].lo).toNat z→(b.hs[k].lo≤z∧z≤b.hs[k].hi)∧∀ n,b.hs[k].lo≤n→n≤b.hs[k].hi→LeL (zQB b S k z) (zQB b S k n)):=fun z h =>
    ⟨by have:=h.in_;omega,fun n h1 h2=>h.best n h1 (by omega)⟩
   have HSTEP:Hid (∀ z r,(b.hs[k].lo≤z∧z≤b.hs[k].hi)→(∀ n,b.hs[k].lo≤n→n≤b.hs[k].hi→LeL (zQB b S k z) (zQB b S k n))→InsTo l (zQB b S k z) (zQB b S k z).length r→∃ nn,IsBrk b S (k+1) nn r):=fun z r h1 h2 h3=>by
    obtain ⟨nn,hbr⟩:=HBR.out
    exact hbr.step HV.out hlt h1 h2 h3
   have hQ:=zF (And.intro q2 q3)
   generalize b.hs[k].lo=lo at *
   generalize b.hs[k].hi=hi at *
   generalize hwk:wr=wk at *
   clear hwk
   go_wp2
   clear c4
   have c0:=zG (zC HBK.out CA.out.1)
   have c1:=zG (zC HBK.out CA.out.2.1)
   have c2:=zG (zC HBK.out CA.out.2.2.1)
   have c3:=zG (zC HBK.out CA.out.2.2.2.1)
   have c4:=zG (zC HBK.out CA.out.2.2.2.2.1)
   have c5:=zG (zC HBK.out CA.out.2.2.2.2.2.1)
   have d0:=zG (zC HBK.out CA.out.2.2.2.2.2.2.1)
   have d1:=zG (zC HBK.out CA.out.2.2.2.2.2.2.2)
   have m2:=zG q2
   refine zK 13 (by kernel_rfl) (by kernel_rfl) ?_
   simp only [tk_]
   iterate 3 (apply gx_;focus (intro vs xq hd;(try simp [hq_] at hd);simp only [pf_];go_simp;exact ⟨br_,rfl⟩))
   refine zAE ?_
   apply Exists.intro
   refine ⟨fun vs xq hd=>?_,?_⟩
   ·(try simp [hq_] at hd)
    simp only [pf_]
    go_simp
    refine (zRE (wk.later xq) vr vn vm _ vz b.of b.rs (HB.out.ext (zA HBK.out (zE wk xq))).rs (by omega)).mono ?_
    rintro e w9 ⟨rfl,hb9⟩
    exact ⟨rfl,hb9⟩
   iterate 8 (apply gx_;focus (intro vs xq hd;(try simp [hq_] at hd);simp only [pf_];go_simp;exact ⟨br_,rfl⟩))
   refine zL (fun v w'=>Hid (OwnL w' wk.heap.size v (zQB b S k lo))) (fun v w w' hb h=>zF (h.out.ext hb)) ?_ ?_
   ·intro vs xq hd
    (try simp [hq_] at hd)
    simp only [pf_]
    go_simp
    refine (failsAll (wk.later xq) vr vn vm _ vz vp vt b S (HB.out.ext (zA HBK.out (zE wk xq))) HV.out (HVW.out.ext (zA HBK.out (zE wk xq))) k lo (by omega)).mono ?_
    rintro e w9 ⟨u,rfl,⟨base,hba,ho⟩,hb9⟩
    exact ⟨u,rfl,hb9,zF (ho.down (Nat.le_trans (zE wk xq).size hba))⟩
   refine zT (by simp only [List.length_append,List.length_cons,List.length_nil]) (fun vs xq hd=>?_)
   simp [zV,zAD,List.range,List.range.loop] at hd
   simp only [pf_]
   obtain ⟨e0,e1,e2,e3,e4,e5,e6,e7,e8,e9,e10,e11,h12⟩:=hd
   simp only [Nat.zero_add,Nat.reduceAdd] at e0 e1 e2 e3 e4 e5 e6 e7 e8 e9 e10 e11 ⊢
   simp only [e0,e1,e2,e3,e4,e5,e6,e7,e8,e9,e10,e11]
   clear m2 e0 e1 e2 e3 e4 e5 e6 e7 e8 e9 e10 e11 c0 c1 c2 c3 c4 c5 d0 d1
   have HB8:=zF (zE wk xq)
   have HO8:=zF h12.out
   generalize vs 12=v12 at *
   generalize wk.later xq=w8 at *
   clear h12
   have c4:=zC (zA HBK.out HB8.out) CA.out.2.2.2.2.1
   have m2:=zC HB8.out hQ.out.1
   unfold zJ at c4 m2
   have hw1:IntKind.i64.wrap (lo+1)=lo+1:=IntWalk.i64_in _ (by omega)
   have hw2:wrap64 (lo+1)=lo+1:=IntWalk.wrap64_in _ (by omega)
   clear q2 q3
   go_wp2
   clear c4 m2 hw1 hw2
   go_loopw [7,8] (fun q i wr=>∃ (j:Nat) (z:Int),i = .int .i64 (lo+j+1)∧lo+j≤hi∧Hid (BestTo b S k lo j z)∧Hid (OwnL wr wk.heap.size q (zQB b S k z))∧Hid (Below wk.heap.size wk wr)) (fun _ i _=>(hi+1 - intOf i).toNat)
   case atStart=>exact ⟨0,lo,by simp,by omega,zF ⟨by omega,fun n h1 h2=>by rw [show n=lo by omega];exact zQV _⟩,HO8,HB8⟩
   case round =>
    clear HO8 HB8
    obtain ⟨j,z,rfl,hj,HBT,HO8,HB8⟩:=hrel
    have c4:=zC (zA HBK.out HB8.out) CA.out.2.2.2.2.1
    have m3:=zC HB8.out hQ.out.2
    unfold zJ at c4 m3
    by_cases hlj:lo+j+1≤hi
    case pos =>
     have HBQ:=zF (zA HBK.out HB8.out)
     have hkeep:=zF (fun h=>HBT.out.keep h)
     have hturn:=zF (fun h=>HBT.out.turn h)
     obtain ⟨nq,hnq⟩ : ∃ nq,lo+(j:Int)+1=nq:=⟨_,rfl⟩
     have hnb:0≤nq∧nq≤200:=by omega
     rw [hnq] at hlj hkeep hturn ⊢
     have HNQ:=zF hnq
     clear hnq HBT
     generalize hwq:wr=wq at *
     clear hwq
     go_wp2
     clear c4 m3
     have c0:=zG (zC HBQ.out CA.out.1)
     have c1:=zG (zC HBQ.out CA.out.2.1)
     have c2:=zG (zC HBQ.out CA.out.2.2.1)
     have c3:=zG (zC HBQ.out CA.out.2.2.2.1)
     have c4:=zG (zC HBQ.out CA.out.2.2.2.2.1)
     have c5:=zG (zC HBQ.out CA.out.2.2.2.2.2.1)
     have d0:=zG (zC HBQ.out CA.out.2.2.2.2.2.2.1)
     have d1:=zG (zC HBQ.out CA.out.2.2.2.2.2.2.2)
     refine zK 7 (by kernel_rfl) (by kernel_rfl) ?_
     simp only [tk_]
     iterate 3 (apply gx_;focus (intro vs xq hd;(try simp [hq_] at hd);simp only [pf_];go_simp;exact ⟨br_,rfl⟩))
     refine zAE ?_
     apply Exists.intro
     refine ⟨fun vs xq hd=>?_,?_⟩
     ·(try simp [hq_] at hd)
      simp only [pf_]
      go_simp
      refine (zRE (wq.later xq) vr vn vm _ vz b.of b.rs (HB.out.ext (zA HBQ.out (zE wq xq))).rs (by omega)).mono ?_
      rintro e w9 ⟨rfl,hb9⟩
      exact ⟨rfl,hb9⟩
     iterate 2 (apply gx_;focus (intro vs xq hd;(try simp [hq_] at hd);simp only [pf_];go_simp;exact ⟨br_,rfl⟩))
     refine zL (fun v w'=>Hid (OwnL w' wq.heap.size v (zQB b S k nq))) (fun v w w' hb h=>zF (h.out.ext hb)) ?_ ?_
     ·intro vs xq hd
      (try simp [hq_] at hd)
      simp only [pf_]
      go_simp
      refine (failsAll (wq.later xq) vr vn vm _ vz vp vt b S (HB.out.ext (zA HBQ.out (zE wq xq))) HV.out (HVW.out.ext (zA HBQ.out (zE wq xq))) k nq hnb).mono ?_
      rintro e w9 ⟨u,rfl,⟨base,hba,ho⟩,hb9⟩
      exact ⟨u,rfl,hb9,zF (ho.down (Nat.le_trans (zE wq xq).size hba))⟩
     refine zT (by simp only [List.length_append,List.length_cons,List.length_nil]) (fun vs xq hd=>?_)
     simp [zV,zAD,List.range,List.range.loop] at hd
     simp only [pf_]
     obtain ⟨e0,e1,e2,e3,e4,e5,h6⟩:=hd
     simp only [Nat.zero_add,Nat.reduceAdd] at e0 e1 e2 e3 e4 e5 ⊢
     simp only [e0,e1,e2,e3,e4,e5]
     clear e0 e1 e2 e3 e4 e5 c0 c1 c2 c3 c4 c5 d0 d1
     have HB9:=zF (zA HB8.out (zE wq xq))
     have ho6:=h6.out.down HB8.out.size
     have ho8':=HO8.out.ext (zE wq xq)
     have hszq:=HB8.out.size
     generalize vs 6=v6 at *
     generalize wq.later xq=w7 at *
     obtain ⟨a6,c6,rfl,_⟩:=zD ho6.sl
     obtain ⟨a8,c8,rfl,_⟩:=zD ho8'.sl
     have hcall:=zF (before03 w7 _ _ _ _ ho6.sl ho8'.sl)
     have H6:=zF ho6
     have H8:=zF ho8'
     clear h6 ho6 ho8' HO8
     go_wp2_with fail
     refine hcall.out.mono ?_
     rintro e w9 ⟨rfl,hb9⟩
     have HB9:=zF (zA HB9.out hb9)
     have H6:=zF (H6.out.ext hb9)
     have H8:=zF (H8.out.ext hb9)
     clear hb9 hcall
     by_cases hbf:zIP (zQB b S k nq) (zQB b S k z)=true
     ·have ht:=zF (hturn.out hbf)
      rw [hbf]
      clear hbf hkeep hturn
      go_wp2
      go_roundw
      ·exact ⟨j+1,nq,by rw [← HNQ.out];go_num,by have:=HNQ.out;omega,ht,H6,HB9⟩
      ·simp [intOf];omega
     ·have hbf':zIP (zQB b S k nq) (zQB b S k z)=false:=by simpa using hbf
      have ht:=zF (hkeep.out hbf')
      rw [hbf']
      clear hbf hbf' hkeep hturn
      go_wp2
      go_roundw
      ·exact ⟨j+1,z,by rw [← HNQ.out];go_num,by have:=HNQ.out;omega,ht,H8,HB9⟩
      ·simp [intOf];omega
    case neg =>
     have hjt:(hi - lo).toNat=j:=by omega
     have hbz:=HBEST.out z (by rw [hjt];exact HBT.out)
     have hst:=zF (fun r h=>HSTEP.out z r hbz.1 hbz.2 h)
     have hapl:Hid (∀ x∈zQB b S k z,x ∉ l):=fun x hx=>by
      obtain ⟨nn,hbr⟩:=HBR.out
      exact hbr.apart HV.out z x hx
     have hrl:Hid (∀ j r,InsTo l (zQB b S k z) j r→r.length≤10):=fun j r h=>by
      obtain ⟨nn,hbr⟩:=HBR.out
      exact InsTo.len HV.out hbr h
     have hl0:Hid (InsTo l (zQB b S k z) 0 l):=by
      obtain ⟨nn,hbr⟩:=HBR.out
      exact ⟨hbr.rise,fun x=>by simp⟩
     have hLr:Hid ((zQB b S k z).Pairwise (· < ·)):=(zQF HV.out S k z).1
     have hLI:Hid (∀ x∈zQB b S k z,I64 x):=fun x hx=>by
      obtain ⟨r,hr,_,rfl⟩:=zQJ.1 hx
      exact HI64.out r hr
     have hLl:=HLE.out k z
     clear hbz hjt HBT HBEST HSTEP
     generalize zQB b S k z=L at *
     have ho:=HO.out
     have ho8:=HO8.out
     obtain ⟨aq,cq,rfl,_⟩:=zD ho8.sl
     have ho':=ho.ext HB8.out
     have hsep:Hid (∀ g,(Value.slice aq L.length cq).ownBlock=some g→u5.ownBlock≠some g):=fun g hg he=>by
      have h1:=(ho8.1.lt g hg).1
      have h2:=(ho.1.lt g he).2
      omega
     have HO4:=zF ho'
     have HS4:=zF ho8.sl
     have HB4:=zF (zA HBK.out HB8.out)
     clear ho ho8 ho' HO HO8
     go_wp2
     clear c4 m3
     go_loopw [5,10] (fun o i wr=>∃ (j:Nat) (r:List Int),i = .int .i64 j∧j≤L.length∧Hid (InsTo l L j r)∧Hid (OwnL wr wA.heap.size o r)∧Hid (Sl zAJ 1 wr (.slice aq L.length cq) L∧∀ g,(Value.slice aq L.length cq).ownBlock=some g→o.ownBlock≠some g)∧Hid (Below wA.heap.size wA wr)) (fun _ i _=>L.length - (intOf i).toNat)
     case atStart=>exact ⟨0,l,rfl,by omega,hl0,HO4,zF ⟨HS4.out,hsep.out⟩,HB4⟩
     case round =>
      clear HO4 HS4 hsep HB4 HB8
      obtain ⟨j,r,rfl,hj,HI,HO4,HS4,HB4⟩:=hrel
      by_cases hlj:j < L.length
      case neg =>
       obtain rfl:j=L.length:=by omega
       have hfin:=zF (hst.out r HI.out)
       clear hst
       go_wp2
       go_roundw
       ·exact ⟨k+1,r,by go_num,by omega,hfin,HO4,HB4⟩
       ·simp [intOf];omega
      case pos =>
       have hrl10:=hrl.out j r HI.out
       obtain ⟨ao,co,rfl,_⟩:=zD HO4.out.sl
       obtain ⟨gb,ob,haq,hcx,-⟩:=(zZ HS4.out.1).2 j hlj
       rw [Nat.mul_one] at hcx
       have hjl:(j:Int) < L.length:=by omega
       have hput:=zF (fun i h1 h2 h3=>HI.out.put (k:=i) hlj h1 h2 h3)
       have hahead:=zF (fun i h1 h2=>HI.out.ahead (k:=i) hlj hLr.out (hapl.out _ (List.getElem_mem hlj)) h1 h2)
       have hxI:=hLI.out _ (List.getElem_mem hlj)
       generalize hxx:L[j]=x at *
       clear hxx
       generalize hwx:wr=wx at *
       clear hwx
       have hba4:=zB wx (.cells #[.int .i64 x] 3)
       have HOA:=zF (HO4.out.1.alloc (.cells #[.int .i64 x] 3))
       have HSA:=zF (zI zN hba4 HS4.out.1)
       have hszx:=HB4.out.size
       unfold zJ at hcx
       subst haq
       go_wp2_with (at_builtin;refine zRG _ rfl _ _ 28 rfl wA.heap.size 3 i0 (.int .i64 0) 1 8 underlying28 hif iz0 iz1 iz2 rfl (by decide) _ _ _ rfl HOA.out ⟨wx.heap.size,0,none⟩ 1 1 [.int .i64 x] rfl rfl (cell_one_new _ _ _) (by simp [Value.oneCell']) (by unfold maxLen;omega) (by omega) (by simp;omega) ?_;intro v' w4 hown' hgrow hap)
       obtain ⟨gg,capg,rfl⟩:=zCT hown'
       have hgbl:=zAF (show zJ wx gb (ob+j) _ from hcx)
       have hne:gb≠gg:=fun e=>by
        subst e
        rcases hap gb rfl with h | h
        ·exact HS4.out.2 gb rfl h
        ·rw [World.size_alloc] at h;omega
       have HS5:=zF (sl_apart hgrow (fun g hg=>fun e=>HS4.out.2 g hg e.symm) HSA.out)
       have HB5:=zF ((zA HB4.out hba4).grown hgrow (zA HB4.out hba4).size (fun r e=>(HOA.out.lt r e).1))
       have hcl:(r.map (Value.int .i64)).length=r.length:=List.length_map ..
       have HRI:=zF HO4.out.2
       have HO5:Hid (w4.ownsRow wA.heap.size 3 1 (.slice (some ⟨gg,0,none⟩) (r.length+1) capg) (r.length+1) ((r.map (Value.int .i64)).take r.length ++ .int .i64 x :: (r.map (Value.int .i64)).drop r.length)):=by
        unfold Hid
        rw [← hcl,List.take_length,List.drop_length,hcl]
        exact hown'
       have hfin:Hid (∀ i W,i≤r.length→W.ownsRow wA.heap.size 3 1 (.slice (some ⟨gg,0,none⟩) (r.length+1) capg) (r.length+1) ((r.map (Value.int .i64)).take i ++ .int .i64 x :: (r.map (Value.int .i64)).drop i)→OwnL W wA.heap.size (.slice (some ⟨gg,0,none⟩) (r.length+1) capg) (r.take i++x :: r.drop i)):=fun i W hi h=>by
        have hl:(r.take i++x :: r.drop i).length=r.length+1:=by
         rw [List.length_append,List.length_cons,List.length_take,List.length_drop]
         omega
        refine ⟨?_,fun y hy=>?_⟩
        ·rw [hl,List.map_append,List.map_cons,List.map_take,List.map_drop]
         exact h
        ·rcases List.mem_append.1 hy with h | h
         ·exact HRI.out y (List.mem_of_mem_take h)
         ·rcases List.mem_cons.1 h with rfl | h
          ·exact hxI
          ·exact HRI.out y (List.mem_of_mem_drop h)
       clear hown' hgrow hap hcx hba4 HOA HSA HO4 HB4 hgbl HS4 HI
       go_wp2
       go_loopw [11] (fun kk wz=>∃ i:Nat,kk = .int .i64 i∧i≤r.length∧Hid (wz.ownsRow wA.heap.size 3 1 (.slice (some ⟨gg,0,none⟩) (r.length+1) capg) (r.length+1) ((r.map (Value.int .i64)).take i ++ .int .i64 x :: (r.map (Value.int .i64)).drop i))∧Hid (∀ y∈r.drop i,x < y)∧Hid (Sl zAJ 1 wz (.slice (some ⟨gb,ob,none⟩) L.length cq) L)∧Hid (Below wA.heap.size wA wz)) (fun kk _=>(intOf kk).toNat)
       case atStart=>exact ⟨r.length,rfl,Nat.le_refl _,HO5,zF (by simp [List.drop_length]),HS5,HB5⟩
       case round =>
        clear HO5 HS5 HB5
        obtain ⟨i,rfl,hi,HOW,HALL,HSL,HBZ⟩:=hrel
        have hszz:=HBZ.out.size
        have hsepq:Hid (∀ g,(Value.slice (some ⟨gb,ob,none⟩) L.length cq).ownBlock=some g→(Value.slice (some ⟨gg,0,none⟩) (r.length+1) capg).ownBlock≠some g):=fun g hg he=>by
         cases hg
         cases he
         exact hne rfl
        cases i with
        | zero =>
          go_wp2
          refine zAW (by kernel_rfl) (by kernel_rfl) (no_implicit_lambda% ?_)
          repeat ((with_reducible refine wpQuiet_step (fun K hK=>?_));go_simp;first | ((with_reducible refine hK _ ?_);clear hK K) | (refine hK _ (no_implicit_lambda% ?_);clear hK K) | (apply Exists.intro;(with_reducible refine ⟨fun _=>?_,hK _ ?_⟩);(fail);clear hK K))
          with_reducible refine wpQuiet_nil ?_
          intro _ hw9
          obtain ⟨xq,hw8⟩:=hw9
          subst hw8
          go_wp2
          go_roundw
          ·exact ⟨j+1,r.take 0++x :: r.drop 0,by go_num,by omega,zF (hput.out 0 (by omega) HALL.out (fun y hy=>by simp at hy)),zF ((hfin.out 0 _ (by omega) HOW.out).ext (zE wr xq)),zF ⟨zI zN (zE wr xq) HSL.out,hsepq.out⟩,zF (zA HBZ.out (zE wr xq))⟩
          ·simp [intOf];omega
        | succ i =>
          have hil:i < r.length:=by omega
          have hic:i < (r.map (Value.int .i64)).length:=by omega
          have hpa:=put_at (x:=Value.int .i64 x) hic
          have hsw:=zRS (r.map (Value.int .i64)) (Value.int .i64 x) i hic
          rw [List.getElem_map] at hpa hsw
          have hah:=zF (fun h=>hahead.out i hil h)
          have hdrop:Hid (r.drop i=r[i] :: r.drop (i+1)):=List.drop_eq_getElem_cons hil
          have hpt:=zF (hput.out (i+1) (by omega) HALL.out)
          have hfn:=zF (fun W h=>hfin.out (i+1) W (by omega) h)
          generalize r[i]=y at *
          have e1:=HOW.out.cells (g:=gg) rfl (i+1) _ hpa.1
          have e0:=HOW.out.cells (g:=gg) rfl i _ hpa.2
          rw [zBP] at e1 e0
          have q1:=zG (show zJ wr gg (i+1) (.int .i64 x) from e1)
          have q0:=zG (show zJ wr gg i (.int .i64 y) from e0)
          have HSW:=zF hsw
          have hi1:(i:Int)+1 < (r.length:Int)+1:=by omega
          have hi2:(i:Int) < (r.length:Int)+1:=by omega
          have hi3:0≤(i:Int)+1:=by omega
          have hi4:((i:Int)+1).toNat=i+1:=by omega
          have hi5:(0:Int) < (i:Int)+1:=by omega
          have hwk:IntKind.i64.wrap (i:Int)=i:=IntWalk.i64_in _ (by omega)
          by_cases hc:x < y
          ·go_wp2
           refine zAW (by kernel_rfl) (by kernel_rfl) (no_implicit_lambda% ?_)
           repeat ((with_reducible refine wpQuiet_step (fun K hK=>?_));go_simp;first | ((with_reducible refine hK _ ?_);clear hK K) | (refine hK _ (no_implicit_lambda% ?_);clear hK K) | (apply Exists.intro;(with_reducible refine ⟨fun _=>?_,hK _ ?_⟩);(fail);clear hK K))
           with_reducible refine wpQuiet_nil ?_
           intro _ hw9
           obtain ⟨xq,hw8⟩:=hw9
           subst hw8
           have ho9:=zAA (zE wr xq) HOW.out
           have hs9:=zF (zI zN (zE wr xq) HSL.out)
           have hb9:=zF (zA HBZ.out (zE wr xq))
           clear q0 q1
           generalize wr.later xq=w9 at *
           have e1:=ho9.cells (g:=gg) rfl (i+1) _ hpa.1
           have e0:=ho9.cells (g:=gg) rfl i _ hpa.2
           rw [zBP] at e1 e0
           have f1:=zFE ho9 (i+1)
           have f0:=zFE ho9 i
           have hgl:gg < w9.heap.size:=(ho9.lt gg rfl).2
           have hgA:wA.heap.size≤gg:=(ho9.lt gg rfl).1
           have HO9:=zF ho9
           clear ho9 hpa
           go_wp2
           go_roundw
           case rel =>
            obtain ⟨h2,g2⟩:=HO9.out.stored (i+1) (.int .i64 y)
            obtain ⟨h3,g3⟩:=h2.stored i (.int .i64 x)
            rw [HSW.out] at h3
            have hs2:=sl_apart g2 (fun g hg e=>hsepq.out g hg e.symm) hs9.out
            have hs3:=sl_apart g3 (fun g hg e=>hsepq.out g hg e.symm) hs2
            refine ⟨i,rfl,by omega,zF h3,zF (fun z hz=>?_),zF hs3,zF (zH hgA (zH hgA hb9.out))⟩
            rw [hdrop.out] at hz
            rcases List.mem_cons.1 hz with rfl | hz
            ·exact hc
            ·exact HALL.out z hz
           case measure=>first | (simp [intOf];done) | (simp [intOf];omega)
          ·have hah2:=zF (hah.out (by omega))
           go_wp2
           refine zAW (by kernel_rfl) (by kernel_rfl) (no_implicit_lambda% ?_)
           repeat ((with_reducible refine wpQuiet_step (fun K hK=>?_));go_simp;first | ((with_reducible refine hK _ ?_);clear hK K) | (refine hK _ (no_implicit_lambda% ?_);clear hK K) | (apply Exists.intro;(with_reducible refine ⟨fun _=>?_,hK _ ?_⟩);(fail);clear hK K))
           with_reducible refine wpQuiet_nil ?_
           intro _ hw9
           obtain ⟨xq,hw8⟩:=hw9
           subst hw8
           clear q0 q1
           go_wp2
           go_roundw
           ·exact ⟨j+1,r.take (i+1)++x :: r.drop (i+1),by go_num,by omega,zF (hpt.out hah2.out),zF ((hfn.out _ HOW.out).ext (zE wr xq)),zF ⟨zI zN (zE wr xq) HSL.out,hsepq.out⟩,zF (zA HBZ.out (zE wr xq))⟩
           ·simp [intOf];omega
end
section
open Go.RowKit Go.Shelf
attribute [local go_sem] zAN Oper.grows Oper.growUpon
open Classical in
noncomputable def wdL (b:Built) : List Int:=if h:zM b=0∧∃ l,IsWd b l then h.2.choose else []
theorem wdL_is {b:Built} (hv:zM b=0) {l:List Int} (h:IsWd b l) : wdL b=l:=by
 have hh:zM b=0∧∃ l,IsWd b l:=⟨hv,l,h⟩
 unfold wdL
 rw [dif_pos hh]
 exact hh.2.choose_spec.eq h
theorem wdL_bad {b:Built} (hv:zM b≠0) : wdL b=[]:=by
 unfold wdL
 rw [dif_neg (fun h=>hv h.1)]
structure WdTo (b:Built) (T:List (List Int)) (k:Nat) (l:List Int) : Prop where
 one:∃ S∈T.take k,∃ nn,IsBrk b S b.hs.length nn l
 all:∀ S∈T.take k,∃ l' nn,IsBrk b S b.hs.length nn l'∧LeL l l'
theorem WdTo.first {b:Built} {T:List (List Int)} {l:List Int} {nn:Nat→Int} (hk:0 < T.length) (h:IsBrk b T[0] b.hs.length nn l) : WdTo b T 1 l:=by
 have e:T.take 1=[T[0]]:=by
  cases T with
  | nil=>simp at hk
  | cons x r=>rfl
 refine ⟨⟨T[0],by rw [e];simp,nn,h⟩,fun S hS=>?_⟩
 rw [e,List.mem_singleton] at hS
 subst hS
 exact ⟨l,nn,h,zQV _⟩
theorem WdTo.keep {b:Built} {T:List (List Int)} {k:Nat} {l x:List Int} {nn:Nat→Int} (h:WdTo b T k l) (hk:k < T.length) (hx:IsBrk b T[k] b.hs.length nn x) (hn:zIP x l=false) : WdTo b T (k+1) l:=by
 obtain ⟨⟨S,hS,hh⟩,ha⟩:=h
 refine ⟨⟨S,by rw [List.take_succ_eq_append_getElem hk];exact List.mem_append_left _ hS,hh⟩,fun S' hS'=>?_⟩
 rw [List.take_succ_eq_append_getElem hk,List.mem_append,List.mem_singleton] at hS'
 rcases hS' with h | rfl
 ·exact ha S' h
 ·exact ⟨x,nn,hx,hn⟩
theorem WdTo.turn {b:Built} {T:List (List Int)} {k:Nat} {l x:List Int} {nn:Nat→Int} (h:WdTo b T k l) (hk:k < T.length) (hx:IsBrk b T[k] b.hs.length nn x) (hn:zIP x l=true) : WdTo b T (k+1) x:=by
 refine ⟨⟨T[k],by rw [List.take_succ_eq_append_getElem hk];exact List.mem_append_right _ (List.mem_singleton.2 rfl),nn,hx⟩,fun S' hS'=>?_⟩
 rw [List.take_succ_eq_append_getElem hk,List.mem_append,List.mem_singleton] at hS'
 rcases hS' with h' | rfl
 ·obtain ⟨l',nn',h1,h2⟩:=h.all S' h'
  exact ⟨l',nn',h1,leL_tr (leL_of hn) h2⟩
 ·exact ⟨x,nn,hx,zQV _⟩
theorem WdTo.is {b:Built} (hv:zM b=0) {T:List (List Int)} {l:List Int} (h:WdTo b T T.length l) (hT:∀ l,l∈T↔IsT (zCA b.ns.notes) l) : IsWd b l:=by
 obtain ⟨⟨S,hS,nn,hh⟩,ha⟩:=h
 rw [List.take_length] at hS ha
 exact isWd_of hv ⟨S,(hT S).1 hS,nn,hh⟩ (fun S' hS'=>ha S' ((hT S').2 hS'))
def BrkAt (b:Built) (S:List Int) (v:Value) (w:World) : Prop:=∃ r nn,IsBrk b S b.hs.length nn r∧Sl zAJ 1 w v r
theorem brkAt_stays (b:Built) (S:List Int) : zCX (BrkAt b S):=fun _ _ _ hb ⟨r,nn,h1,h2⟩=>⟨r,nn,h1,zI zN hb h2⟩
theorem withdraw08 (w:World) (vr vn vm vh vz:Value) (b:Built) (hB:BuiltAt w vr vn vm vh vz b) :
  Calls prog 32 #[.agg #[vr,vn,.int .i64 b.of,vm,vh,vz]] w fun e w'=>∃ u,e = .returned (.tuple #[u,.int .i64 (zM b)])∧Sl zAJ 1 w' u (wdL b)∧Below w.heap.size w w':=by
 have hb1:=zB w (.cells #[vr,vn,.int .i64 b.of,vm,vh,vz] 32)
 have HBOX:=zF (zHC w vr vn vm vh vz b.of 32)
 have HB:=zF (hB.ext hb1)
 have HBW:=zF hb1
 clear hB hb1
 have k0:=HBOX.out.c0
 have k1:=HBOX.out.c1
 have k2:=HBOX.out.c2
 have k3:=HBOX.out.c3
 have k4:=HBOX.out.c4
 have k5:=HBOX.out.c5
 unfold zJ at k0 k1 k2 k3 k4 k5
 go_enter func32,ntmps32
 go_wp2_with fail
 clear k0 k1 k2 k3 k4 k5
 generalize w.alloc _=w1 at *
 refine (check08 _ _ _ _ _ _ b HB.out).mono ?_
 rintro e w2 ⟨rfl,hb2⟩
 have HBW:=zF (zA HBW.out hb2)
 have HBOX:=zF (HBOX.out.ext hb2)
 have HB:=zF (HB.out.ext hb2)
 clear hb2
 by_cases hv:zM b=0
 case neg =>
  have hv':(zM b != 0)=true:=by simpa using hv
  have HT:=zF (wdL_bad hv)
  clear hv
  go_wp2
  go_ret2
  exact ⟨_,rfl,by rw [HT.out];exact zGS _ _ _ _ _,HBW.out⟩
 case pos =>
  have HV:=zF hv
  have hok:=(zAS (zW hv).1).2
  have HOK:=zF hok
  have hN12:=hok.1
  have HC:Hid (zM b=0):=hv
  rw [hv]
  clear hv hok
  have k0:=HBOX.out.c0
  have k1:=HBOX.out.c1
  unfold zJ at k0 k1
  go_wp2_with fail
  clear k0 k1
  refine (truths03 _ _ _ _ HB.out.notes (by omega) (zKU HOK.out) (fun L h=>zRF HOK.out h)).mono ?_
  rintro e w6 ⟨u6',O,rfl,hO,hOm,hO5,⟨base,cl,hown6,hri6⟩,hb2⟩
  have hsl6:=(hri6.sl hown6 zME).now
  have hTl:Hid ((zNC O).length≤32∧0 < (zNC O).length):=by
   unfold Hid
   rw [zPW]
   exact ⟨Nat.pow_le_pow_right (n:=2) (by decide) hO5,Nat.two_pow_pos _⟩
  have hTT:Hid (∀ l,l∈zNC O↔IsT (zCA b.ns.notes) l):=fun l=>(zRI hO l).trans (zRO hOm l)
  generalize zNC O=T at *
  obtain ⟨al,cl2,rfl,_⟩:=zD hsl6
  have HT:=zF hsl6
  have HBW:=zF (zA HBW.out hb2)
  have HBOX:=zF (HBOX.out.ext hb2)
  have HB:=zF (HB.out.ext hb2)
  have hn32:T.length≤32:=hTl.out.1
  have hpos:=hTl.out.2
  have hfin:Hid (∀ l,WdTo b T T.length l→wdL b=l):=fun l h=>wdL_is HV.out (h.is HV.out hTT.out)
  clear hO hOm hO5 hown6 hri6 hsl6 hb2
  go_wp2
  go_loopw [5,7] (fun q i wr=>∃ (k:Nat) (l:List Int),i = .int .i64 k∧k≤T.length∧Hid (k=0∨WdTo b T k l)∧Hid (Sl zAJ 1 wr q l)∧Hid (Below w6.heap.size w6 wr)) (fun _ i _=>T.length - (intOf i).toNat)
  case atStart=>exact ⟨0,[],rfl,by omega,zF (.inl rfl),zF (zGS _ _ _ _ _),zF (br_)⟩
  case round =>
   obtain ⟨k,l,rfl,hk,HW,HS,HB6⟩:=hrel
   by_cases hlt:k < T.length
   case neg =>
    obtain rfl:k=T.length:=by omega
    have hw:Hid (wdL b=l):=by
     rcases HW.out with h | h
     ·omega
     ·exact hfin.out l h
    go_wp2
    go_ret2
    exact ⟨_,by rw [HC.out];rfl,by rw [hw.out];exact HS.out,zA HBW.out HB6.out⟩
   case pos =>
    have hkl:(k:Int) < T.length:=by omega
    obtain ⟨gl,ol,rfl,vx,hcx,hx⟩:=(zZ HT.out).2 k hlt
    obtain ⟨ax,cx,rfl,_⟩:=zD hx
    have hTx:=(hTT.out _).1 (List.getElem_mem hlt)
    have hfirst:Hid (∀ nn x,k=0→IsBrk b T[k] b.hs.length nn x→WdTo b T (k+1) x):=fun nn x h0 h=>by
     subst h0
     exact WdTo.first hlt h
    have hkeep:Hid (∀ nn x,¬ k=0→IsBrk b T[k] b.hs.length nn x→zIP x l=false→WdTo b T (k+1) l):=fun nn x h0 h hn=>by
     rcases HW.out with h1 | h1
     ·exact absurd h1 h0
     ·exact h1.keep hlt h hn
    have hturn:Hid (∀ nn x,¬ k=0→IsBrk b T[k] b.hs.length nn x→zIP x l=true→WdTo b T (k+1) x):=fun nn x h0 h hn=>by
     rcases HW.out with h1 | h1
     ·exact absurd h1 h0
     ·exact h1.turn hlt h hn
    have HX:=zF hx
    have HCX:=zF hcx
    have HTX:=zF hTx
    clear hx hcx hTx HW
    generalize T[k]=x at *
    generalize wr=wq at *
    have k0:=zG (zC HB6.out HBOX.out.c0)
    have k1:=zG (zC HB6.out HBOX.out.c1)
    have k2:=zG (zC HB6.out HBOX.out.c2)
    have k3:=zG (zC HB6.out HBOX.out.c3)
    have k4:=zG (zC HB6.out HBOX.out.c4)
    have k5:=zG (zC HB6.out HBOX.out.c5)
    have km:=zG (zC HB6.out HCX.out)
    rw [Nat.mul_one] at km
    go_wp2
    refine zK 8 (by kernel_rfl) (by kernel_rfl) ?_
    simp only [tk_]
    iterate 6 (apply gx_;focus (intro vs xq hd;(try simp [hq_] at hd);simp only [pf_];go_simp;exact ⟨br_,rfl⟩))
    refine zL (fun v w'=>∃ vp vt,v = .agg #[vp,vt]∧ViewAt w' vp vt (zBS b x) (zBO b x)) (fun v w w' hb h=>by obtain ⟨vp,vt,e,h⟩:=h;exact ⟨vp,vt,e,h.ext hb⟩) ?_ ?_
    ·intro vs xq hd
     (try simp [hq_] at hd)
     simp only [pf_]
     go_simp
     refine (zRB (wq.later xq) vr vn vm vh vz (.slice ax x.length cx) b x (HB.out.ext (zA HB6.out (zE wq xq))) (zI zN (zA HB6.out (zE wq xq)) HX.out) HV.out HTX.out).mono ?_
     rintro e w9 ⟨vp,vt,rfl,hV,hb9⟩
     exact ⟨_,rfl,hb9,vp,vt,rfl,hV.now⟩
    refine zL (BrkAt b x) (brkAt_stays _ _) ?_ ?_
    ·intro vs xq hd
     (try simp [hq_] at hd)
     simp only [pf_]
     obtain ⟨_,⟨vp,vt,e6,hVW⟩⟩:=hd
     rw [e6]
     go_simp
     refine (broken08 (wq.later xq) vr vn vm vh vz vp vt b x (HB.out.ext (zA HB6.out (zE wq xq))) HV.out hVW).mono ?_
     rintro e w9 ⟨u,r,nn,rfl,hbr,hs,hb9⟩
     exact ⟨_,rfl,hb9,r,nn,hbr,hs⟩
    refine zT (by simp only [List.length_append,List.length_cons,List.length_nil]) (fun vs xq hd=>?_)
    simp [zV,zAD,List.range,List.range.loop] at hd
    simp only [pf_]
    obtain ⟨_,_,_,_,_,_,_,h7⟩:=hd
    simp only [Nat.zero_add,Nat.reduceAdd]
    obtain ⟨r,nn,hbr,hs⟩:=h7
    have HR:=zF hs
    have HBR:=zF hbr
    have HS:=zF (zI zN (zE wq xq) HS.out)
    have HB7:=zF (zA HB6.out (zE wq xq))
    clear hs hbr k0 k1 k2 k3 k4 k5 km HB6
    generalize vs 0=u0 at *
    generalize vs 1=u1 at *
    generalize vs 2=u2 at *
    generalize vs 3=u3 at *
    generalize vs 4=u4 at *
    generalize vs 5=u5 at *
    generalize vs 6=u6 at *
    generalize vs 7=u7 at *
    generalize wq.later xq=w7 at *
    by_cases h0:k=0
    ·have hw:=zF (hfirst.out nn r h0 HBR.out)
     subst h0
     clear hfirst hkeep hturn
     go_wp2
     go_roundw
     ·exact ⟨0+1,r,by go_num,by omega,zF (.inr hw.out),HR,HB7⟩
     ·simp [intOf];omega
    ·have h0':((k:Int) == 0)=false:=by
      simp
      omega
     have hcall:=zF (before03 w7 _ _ r l HR.out HS.out)
     have hky:=zF (fun h=>hkeep.out nn r h0 HBR.out h)
     have htn:=zF (fun h=>hturn.out nn r h0 HBR.out h)
     clear hfirst hkeep hturn
     go_wp2_with fail
     refine hcall.out.mono ?_
     rintro e w9 ⟨rfl,hb9⟩
     have HB9:=zF (zA HB7.out hb9)
     have HR:=zF (zI zN hb9 HR.out)
     have HS:=zF (zI zN hb9 HS.out)
     clear hb9 hcall
     by_cases hbf:zIP r l=true
     ·have ht:=zF (htn.out hbf)
      rw [hbf]
      clear hbf hky htn
      go_wp2
      go_roundw
      ·exact ⟨k+1,r,by go_num,by omega,zF (.inr ht.out),HR,HB9⟩
      ·simp [intOf];omega
     ·have hbf':zIP r l=false:=by simpa using hbf
      have ht:=zF (hky.out hbf')
      rw [hbf']
      clear hbf hbf' hky htn
      go_wp2
      go_roundw
      ·exact ⟨k+1,l,by go_num,by omega,zF (.inr ht.out),HS,HB9⟩
      ·simp [intOf];omega
end
section
open Go.RowKit
theorem bit10:∀ s,s < 1024→∀ i,i < 10→bits BinOp.and IntKind.i64 (((s:Nat) : Int) / 2 ^ i) 1=if s.testBit i then 1 else 0:=by decide +kernel
theorem shl11 (n:Nat) (hn:n < 11) : ∃ M:Nat,M=2 ^ n∧M≤1024∧wrap64 (2 ^ n)=(M:Int)∧IntKind.i64.wrap (2 ^ n)=(M:Int):=by
 have h:n=0∨n=1∨n=2∨n=3∨n=4∨n=5∨n=6∨n=7∨n=8∨n=9∨n=10:=by omega
 rcases h with rfl | rfl | rfl | rfl | rfl | rfl | rfl | rfl | rfl | rfl | rfl <;> exact ⟨_,rfl,by decide,IntWalk.wrap64_in _ (by omega),IntWalk.i64_in _ (by omega)⟩
def zQT (b:Built) (s j:Nat) : List Int:=zEH (zQN b) s j
def zQP (b:Built) (s j:Nat) : List Report:=(b.rs.take j).filter fun r=>decide (r.num ∉ zQT b s b.rs.length)
theorem rnums_len (b:Built) : (zQN b).length=b.rs.length:=List.length_map ..
theorem zRL {b:Built} {j:Nat} (hj:j < b.rs.length) : (zQN b)[j]? = some b.rs[j].num:=by unfold zQN;rw [List.getElem?_map,List.getElem?_eq_getElem hj];rfl
theorem out_bit {b:Built} (h:zM b=0) {s j:Nat} (hj:j < b.rs.length) : b.rs[j].num∈zQT b s b.rs.length↔s.testBit j=true:=by
 unfold zQT
 rw [zIB (by rw [rnums_len];exact Nat.le_refl _)]
 constructor
 ·rintro ⟨i,hi,h1,h2⟩
  rw [zRL hi] at h2
  have e:b.rs[i]=b.rs[j]:=rep_eq h (List.getElem_mem hi) (List.getElem_mem hj) (by simpa using h2)
  have:i=j:=by
   have hr:=List.pairwise_iff_getElem.1 (zQG h)
   unfold zQN at hr
   simp only [List.length_map,List.getElem_map] at hr
   rcases Nat.lt_trichotomy i j with h3 | h3 | h3
   ·have:=hr i j hi hj h3;rw [e] at this;omega
   ·exact h3
   ·have:=hr j i hj hi h3;rw [e] at this;omega
  subst this
  exact h1
 ·intro hb
  exact ⟨j,hj,hb,zRL hj⟩
theorem outOf_succ {b:Built} {s j:Nat} (hj:j < b.rs.length) : zQT b s (j+1)=zQT b s j++(if s.testBit j then [b.rs[j].num] else []):=by
 unfold zQT
 simp only [zEH]
 rw [List.getD_eq_getElem?_getD,zRL hj]
 rfl
theorem outOf_le (b:Built) (s j:Nat) : (zQT b s j).length≤j:=zSA _ _ _
theorem kept_yes {b:Built} (h:zM b=0) {s j:Nat} (hj:j < b.rs.length) (hb:s.testBit j=false) : zQP b s (j+1)=zQP b s j++[b.rs[j]]:=by
 unfold zQP
 rw [List.take_succ_eq_append_getElem hj,List.filter_append]
 have:b.rs[j].num ∉ zQT b s b.rs.length:=fun hm=>by rw [(out_bit h hj).1 hm] at hb;cases hb
 simp [this]
theorem kept_no {b:Built} (h:zM b=0) {s j:Nat} (hj:j < b.rs.length) (hb:s.testBit j=true) : zQP b s (j+1)=zQP b s j:=by
 unfold zQP
 rw [List.take_succ_eq_append_getElem hj,List.filter_append]
 simp [(out_bit h hj).2 hb]
theorem kept_all (b:Built) (s:Nat) : { b with rs:=zQP b s b.rs.length } = b.but (zQT b s b.rs.length):=by
 unfold zQP Built.but
 rw [List.take_length]
theorem kept_sub (b:Built) (s j:Nat) : (zQP b s j).Sublist b.rs:=List.filter_sublist.trans (List.take_sublist _ _)
theorem kept_le (b:Built) (s j:Nat) : (zQP b s j).length≤j:=Nat.le_trans (List.length_filter_le _ _) (by rw [List.length_take];omega)
def FitsB (b:Built) (l:List Int) : Prop:=∃ S,IsT (zCA b.ns.notes) S∧zII (b.but l) S
open Classical in
noncomputable def zQE (b:Built) (s:Nat) : List (List Int):=((List.range s).map fun s=>zQT b s b.rs.length).filter fun l=>decide (FitsB b l)
theorem outs_yes {b:Built} {s:Nat} (h:FitsB b (zQT b s b.rs.length)) : zQE b (s+1)=zQE b s++[zQT b s b.rs.length]:=by
 unfold zQE
 rw [List.range_succ,List.map_append,List.filter_append]
 simp [h]
theorem outs_no {b:Built} {s:Nat} (h:¬ FitsB b (zQT b s b.rs.length)) : zQE b (s+1)=zQE b s:=by
 unfold zQE
 rw [List.range_succ,List.map_append,List.filter_append]
 simp [h]
theorem outs_le (b:Built) (s:Nat) : (zQE b s).length≤s:=by
 unfold zQE
 exact Nat.le_trans (List.length_filter_le _ _) (by rw [List.length_map,List.length_range];exact Nat.le_refl _)
theorem outs_mem {b:Built} (h:zM b=0) (l:List Int) : l∈zQE b (2 ^ b.rs.length)↔Outs b l:=by
 have e:((List.range (2 ^ b.rs.length)).map fun s=>zQT b s b.rs.length)=zNC (zQN b):=by
  unfold zNC zQT
  rw [rnums_len]
 unfold zQE
 rw [e,List.mem_filter,zRI (zQG h)]
 simp only [decide_eq_true_eq]
 exact Iff.rfl
theorem outs_ne {b:Built} (h:zM b=0) : 0 < (zQE b (2 ^ b.rs.length)).length:=by
 have:zQN b∈zQE b (2 ^ b.rs.length):=(outs_mem h _).2 ⟨⟨zQG h,fun x hx=>hx⟩,[],⟨List.Pairwise.nil,fun x hx=>by simp at hx⟩,left_but.2 ⟨fun k hk=>⟨b.hs[k].lo,⟨Int.le_refl _,(zDP h hk).2.1⟩,(zQF h [] _ _).2⟩,(zQF h [] _ _).2⟩⟩
 exact List.length_pos_of_mem this
theorem rep_get:∀ (L:List Report) (k:Nat) (hk:k < L.length) (j:Nat),j < 5→(L.flatMap encR)[k*5+j]? = (encR L[k])[j]?
 | [],k,hk,_,_=>by simp at hk
 | x :: L,0,_,j,hj=>by
   rw [List.flatMap_cons,Nat.zero_mul,Nat.zero_add,List.getElem?_append_left (by simp [encR];omega)]
   rfl
 | x :: L,k+1,hk,j,hj=>by
   rw [List.flatMap_cons,List.getElem?_append_right (by simp [encR];omega)]
   have e:(k+1)*5+j - (encR x).length=k*5+j:=by simp [encR];omega
   rw [e,rep_get L k (by simpa using hk) j hj]
   rfl
def RepNum (x:Report) : Prop:=I64 x.num∧I64 x.m∧I64 x.d∧I64 x.l∧U8 x.k
theorem rep_sl {w:World} {base:Nat} {v:Value} {L:List Report} (h:w.ownsRow base 116 5 v L.length (L.flatMap encR)) (hI:∀ x∈L,RepNum x) : Sl zDD 5 w v L:=by
 have h':=h
 obtain ⟨_,h2⟩:=h
 rcases h2 with ⟨rfl,hn⟩ | ⟨g,cap,cur,rfl,_,_,hc,hcm,_⟩
 ·exact ⟨none,0,by rw [hn],by omega,fun k hk=>by omega⟩
 ·have hcell:∀ k (hk:k < L.length) j u,j < 5→(encR L[k])[j]? = some u→zJ w g (0+k*5+j) u:=fun k hk j u hj hu=>by
   have:=h'.cells (g:=g) rfl (k*5+j) u (by rw [rep_get L k hk j hj];exact hu)
   rw [zBP] at this
   rw [Nat.zero_add]
   exact this
  refine ⟨some ⟨g,0,none⟩,cap,rfl,by unfold maxLen at hcm;omega,fun k hk=>⟨g,0,rfl,⟨?_,?_,?_,?_,?_⟩,hI _ (List.getElem_mem hk)⟩⟩
  ·exact hcell k hk 0 _ (by decide) rfl
  ·exact hcell k hk 1 _ (by decide) rfl
  ·exact hcell k hk 2 _ (by decide) rfl
  ·exact hcell k hk 3 _ (by decide) rfl
  ·exact hcell k hk 4 _ (by decide) rfl
end
section
open Go.RowKit Go.ChangeShapes Go.WideShapes
section
variable {H:Type} {enc:TypeId×Value→H} {w:World} {sp:Nat→Bool} {hd:Bool}
theorem zOD {cs:List Value} {o k j:Nat} {v:Value} (h:((cs.drop o).take k)[j]? = some v) : cs[o+j]? = some v:=by
 rw [List.getElem?_take] at h
 split at h
 ·rw [List.getElem?_drop] at h;exact h
 ·cases h
theorem zIU {cs:List Value} {o:Nat} {v:Value} (h:(cs.drop o).take 1=[v]) : cs[o]? = some v:=by
 have:((cs.drop o).take 1)[0]? = some v:=by rw [h];rfl
 exact zOD this
theorem cells_i:prog.cellsOf 3=1:=by kernel_rfl
theorem cells_u:prog.cellsOf 5=1:=by kernel_rfl
theorem cells_b:prog.cellsOf 4=1:=by kernel_rfl
theorem zDH {n o:Nat} {cs:List Value} {y:DataW H×List MemPlace} (h:DataW.trod enc prog w 0 sp hd n 3 ((cs.drop o).take (prog.cellsOf 3))=some y) : ∃ x,cs[o]? = some (.int .i64 x)∧I64 x:=by
 rw [cells_i] at h
 obtain ⟨x,e,_,hw⟩:=DataW.trod_int underlying3 h
 refine ⟨x,zIU e,?_⟩
 simp [Lit.wf,IntKind.has,IntKind.min,IntKind.max,IntKind.signed,IntKind.bits] at hw
 unfold I64
 omega
theorem leaf_u {n o:Nat} {cs:List Value} {y:DataW H×List MemPlace} (h:DataW.trod enc prog w 0 sp hd n 5 ((cs.drop o).take (prog.cellsOf 5))=some y) : ∃ x,cs[o]? = some (.int .u8 x)∧U8 x:=by
 rw [cells_u] at h
 obtain ⟨x,e,_,hw⟩:=DataW.trod_int underlying5 h
 refine ⟨x,zIU e,?_⟩
 simp [Lit.wf,IntKind.has,IntKind.min,IntKind.max,IntKind.signed,IntKind.bits] at hw
 unfold U8
 omega
theorem leaf_b {n o:Nat} {cs:List Value} {y:DataW H×List MemPlace} (h:DataW.trod enc prog w 0 sp hd n 4 ((cs.drop o).take (prog.cellsOf 4))=some y) : ∃ x,cs[o]? = some (.bool x):=by
 rw [cells_b] at h
 obtain ⟨x,e,_⟩:=DataW.trod_bool underlying4 h
 exact ⟨x,zIU e⟩
theorem zDN {n:Nat} {t:TypeId} {fs:Array Field} {cs:List Value} {y:DataW H×List MemPlace} (ht:prog.underlying t=some (.struct fs)) (h:DataW.trod enc prog w 0 sp hd n t cs=some y) :
  cs.length=prog.cellsOf t∧∃ m,∀ (i:Nat) (f:Field),fs[i]? = some f→∃ z,DataW.trod enc prog w 0 sp hd m f.type ((cs.drop f.offset).take (prog.cellsOf f.type))=some z:=by
 obtain ⟨xs,m,_,_,hl,hx,hf⟩:=DataW.trod_struct ht h
 refine ⟨hl,m,fun i f hi=>?_⟩
 have hlt:i < xs.length:=by rw [hx];exact (Array.getElem?_eq_some_iff.1 hi).1
 exact ⟨xs[i],by rw [hf i f hi,List.getElem?_eq_getElem hlt]⟩
theorem list_of {α:Type} : ∀ (n:Nat) (p:Nat→α→Prop),(∀ i,i < n→∃ x,p i x)→∃ xs:List α,xs.length=n∧∀ i (h:i < xs.length),p i xs[i]
 | 0,_,_=>⟨[],rfl,fun i h=>by simp at h⟩
 | n+1,p,h=>by
   obtain ⟨xs,hl,hx⟩:=list_of n p (fun i hi=>h i (by omega))
   obtain ⟨x,hp⟩:=h n (by omega)
   refine ⟨xs++[x],by simp [hl],fun i hi=>?_⟩
   by_cases e:i < xs.length
   ·rw [List.getElem_append_left e];exact hx i e
   ·have e2:i=n:=by simp at hi;omega
    subst e2
    have:(xs++[x])[i]=x:=by simp [← hl]
    rw [this];exact hp
theorem zLX {n o sz:Nat} {t e:TypeId} {cs:List Value} {y:DataW H×List MemPlace} {α:Type} {E:World→Nat→Nat→α→Prop} (ht:prog.underlying t=some (.slice e)) (hc:prog.cellsOf t=1) (hz:prog.cellsOf e=sz) (hpos:0 < sz)
  (hE:∀ (m:Nat) (cs':List Value) (z:DataW H×List MemPlace) (b o':Nat),DataW.trod enc prog w 0 sp hd m e cs'=some z→(∀ j v,cs'[j]? = some v→zJ w b (o'+j) v)→∃ x,E w b o' x)
  (h:DataW.trod enc prog w 0 sp hd n t ((cs.drop o).take (prog.cellsOf t))=some y) : ∃ v xs,cs[o]? = some v∧Sl E sz w v xs∧Capd v xs.length:=by
 rw [hc] at h
 rcases Deep.open_slice ht h with ⟨e0,_⟩ | ⟨a,len,cap,m,k,D,Pl,e0,_,hl,hm,hmm,_,hx⟩
 ·exact ⟨_,[],zIU e0,zGS _ _ _ _ _,_,_,rfl,Nat.zero_le _⟩
 ·rw [hz] at hx
  have hlm:len≤m:=by rw [hmm];split <;> omega
  have key:∀ i,i < len→∃ x,∃ b off,a=⟨b,off,none⟩∧E w b (off+i*sz) x:=fun i hi=>by
   obtain ⟨cs',h1,h2⟩:=hx i (by omega)
   obtain ⟨_,hlen,hcell⟩:=World.cells?_some h1
   obtain ⟨cs0,h10,_⟩:=hx 0 (by omega)
   obtain ⟨_,hlen0,hcell0⟩:=World.cells?_some h10
   obtain ⟨b,off,spot⟩:=a
   have h0:=hcell0 0 hpos
   rw [List.getElem?_eq_getElem (by omega)] at h0
   have hspot:spot=none:=by simpa [Addr.add] using World.cell?_spot h0
   subst hspot
   obtain ⟨x,hX⟩:=hE _ cs' _ b (off+i*sz) h2 (fun j v hj=>by
    have hj2:j < sz:=by rw [← hlen];exact (List.getElem?_eq_some_iff.1 hj).1
    have:=hcell j hj2
    rw [hj] at this
    simp only [Addr.add_lit] at this
    exact this)
   exact ⟨x,b,off,rfl,hX⟩
  obtain ⟨xs,hxl,hxs⟩:=list_of len _ key
  subst hxl
  refine ⟨_,xs,zIU e0,⟨some a,cap,rfl,by unfold maxLen at hm;omega,fun i hi=>?_⟩,_,_,rfl,hl⟩
  obtain ⟨b,off,rfl,hX⟩:=hxs i hi
  exact ⟨b,off,rfl,hX⟩
theorem el_item (m:Nat) (cs:List Value) (z:DataW H×List MemPlace) (b o:Nat) (h:DataW.trod enc prog w 0 sp hd m 205 cs=some z) (hc:∀ j v,cs[j]? = some v→zJ w b (o+j) v) : ∃ x,zCP w b o x:=by
 obtain ⟨_,k,hf⟩:=zDN underlying205 h
 obtain ⟨_,h0⟩:=hf 0 _ rfl
 obtain ⟨x0,c0,r0⟩:=zDH h0
 obtain ⟨_,h1⟩:=hf 1 _ rfl
 obtain ⟨x1,c1,r1⟩:=zDH h1
 exact ⟨⟨x0,x1⟩,⟨hc 0 _ c0,hc 1 _ c1⟩,r0,r1⟩
theorem el_dim (m:Nat) (cs:List Value) (z:DataW H×List MemPlace) (b o:Nat) (h:DataW.trod enc prog w 0 sp hd m 252 cs=some z) (hc:∀ j v,cs[j]? = some v→zJ w b (o+j) v) : ∃ x,zGQ w b o x:=by
 obtain ⟨_,k,hf⟩:=zDN underlying252 h
 obtain ⟨_,h0⟩:=hf 0 _ rfl
 obtain ⟨x0,c0,r0⟩:=zDH h0
 obtain ⟨_,h1⟩:=hf 1 _ rfl
 obtain ⟨x1,c1,r1⟩:=zDH h1
 obtain ⟨_,h2⟩:=hf 2 _ rfl
 obtain ⟨x2,c2,r2⟩:=zDH h2
 exact ⟨⟨x0,x1,x2⟩,⟨hc 0 _ c0,hc 1 _ c1,hc 2 _ c2⟩,r0,r1,r2⟩
theorem el_note (m:Nat) (cs:List Value) (z:DataW H×List MemPlace) (b o:Nat) (h:DataW.trod enc prog w 0 sp hd m 147 cs=some z) (hc:∀ j v,cs[j]? = some v→zJ w b (o+j) v) : ∃ x,zBM w b o x:=by
 obtain ⟨_,k,hf⟩:=zDN underlying147 h
 obtain ⟨_,h0⟩:=hf 0 _ rfl
 obtain ⟨x0,c0,r0⟩:=zDH h0
 obtain ⟨_,h1⟩:=hf 1 _ rfl
 obtain ⟨x1,c1,r1⟩:=zDH h1
 obtain ⟨_,h2⟩:=hf 2 _ rfl
 obtain ⟨x2,c2,r2⟩:=leaf_u h2
 obtain ⟨_,h3⟩:=hf 3 _ rfl
 obtain ⟨x3,c3,r3⟩:=zDH h3
 obtain ⟨_,h4⟩:=hf 4 _ rfl
 obtain ⟨x4,c4,r4⟩:=zDH h4
 obtain ⟨_,h5⟩:=hf 5 _ rfl
 obtain ⟨x5,c5,r5⟩:=zDH h5
 obtain ⟨_,h6⟩:=hf 6 _ rfl
 obtain ⟨x6,c6,r6⟩:=zDH h6
 obtain ⟨_,h7⟩:=hf 7 _ rfl
 obtain ⟨x7,c7,r7⟩:=zDH h7
 obtain ⟨_,h8⟩:=hf 8 _ rfl
 obtain ⟨x8,c8⟩:=leaf_b h8
 obtain ⟨_,h9⟩:=hf 9 _ rfl
 obtain ⟨x9,c9,r9⟩:=leaf_u h9
 exact ⟨⟨x0,x1,x2,x3,x4,x5,x6,x7,x8,x9⟩,⟨hc 0 _ c0,hc 1 _ c1,hc 2 _ c2,hc 3 _ c3,hc 4 _ c4,hc 5 _ c5,hc 6 _ c6,hc 7 _ c7,hc 8 _ c8,hc 9 _ c9⟩,r0,r1,r2,r3,r4,r5,r6,r7,r9⟩
theorem el_report (m:Nat) (cs:List Value) (z:DataW H×List MemPlace) (b o:Nat) (h:DataW.trod enc prog w 0 sp hd m 116 cs=some z) (hc:∀ j v,cs[j]? = some v→zJ w b (o+j) v) : ∃ x,zDD w b o x:=by
 obtain ⟨_,k,hf⟩:=zDN underlying116 h
 obtain ⟨_,h0⟩:=hf 0 _ rfl
 obtain ⟨x0,c0,r0⟩:=zDH h0
 obtain ⟨_,h1⟩:=hf 1 _ rfl
 obtain ⟨x1,c1,r1⟩:=zDH h1
 obtain ⟨_,h2⟩:=hf 2 _ rfl
 obtain ⟨x2,c2,r2⟩:=zDH h2
 obtain ⟨_,h3⟩:=hf 3 _ rfl
 obtain ⟨x3,c3,r3⟩:=zDH h3
 obtain ⟨_,h4⟩:=hf 4 _ rfl
 obtain ⟨x4,c4,r4⟩:=leaf_u h4
 exact ⟨⟨x0,x1,x2,x3,x4⟩,⟨hc 0 _ c0,hc 1 _ c1,hc 2 _ c2,hc 3 _ c3,hc 4 _ c4⟩,r0,r1,r2,r3,r4⟩
theorem el_int (m:Nat) (cs:List Value) (z:DataW H×List MemPlace) (b o:Nat) (h:DataW.trod enc prog w 0 sp hd m 3 cs=some z) (hc:∀ j v,cs[j]? = some v→zJ w b (o+j) v) : ∃ x,zAJ w b o x:=by
 obtain ⟨x,e,_,hw⟩:=DataW.trod_int underlying3 h
 subst e
 refine ⟨x,hc 0 _ rfl,?_⟩
 simp [Lit.wf,IntKind.has,IntKind.min,IntKind.max,IntKind.signed,IntKind.bits] at hw
 unfold I64
 omega
theorem el_heap (m:Nat) (cs:List Value) (z:DataW H×List MemPlace) (b o:Nat) (h:DataW.trod enc prog w 0 sp hd m 114 cs=some z) (hc:∀ j v,cs[j]? = some v→zJ w b (o+j) v) : ∃ x,zHA w b o x:=by
 obtain ⟨_,k,hf⟩:=zDN underlying114 h
 obtain ⟨_,h0⟩:=hf 0 _ rfl
 obtain ⟨x0,c0,r0⟩:=zDH h0
 obtain ⟨_,h1⟩:=hf 1 _ rfl
 obtain ⟨x1,c1,r1⟩:=zDH h1
 obtain ⟨_,h2⟩:=hf 2 _ rfl
 obtain ⟨_,k2,hg⟩:=zDN underlying38 h2
 obtain ⟨_,g0⟩:=hg 0 _ rfl
 obtain ⟨x2,c2,r2⟩:=zDH g0
 obtain ⟨_,g1⟩:=hg 1 _ rfl
 obtain ⟨x3,c3,r3⟩:=zDH g1
 exact ⟨⟨x0,x1,x2,x3⟩,⟨hc 0 _ c0,hc 1 _ c1,hc 2 _ (zOD c2),hc 3 _ (zOD c3)⟩,r0,r1,r2,r3⟩
theorem el_issue (m:Nat) (cs:List Value) (z:DataW H×List MemPlace) (b o:Nat) (h:DataW.trod enc prog w 0 sp hd m 107 cs=some z) (hc:∀ j v,cs[j]? = some v→zJ w b (o+j) v) : ∃ x,zAU w b o x:=by
 obtain ⟨_,k,hf⟩:=zDN underlying107 h
 obtain ⟨_,h0⟩:=hf 0 _ rfl
 obtain ⟨x0,c0,r0⟩:=zDH h0
 obtain ⟨_,h1⟩:=hf 1 _ rfl
 obtain ⟨x1,c1,r1⟩:=zDH h1
 obtain ⟨_,h2⟩:=hf 2 _ rfl
 obtain ⟨x2,c2,r2⟩:=leaf_u h2
 obtain ⟨_,h3⟩:=hf 3 _ rfl
 obtain ⟨v3,x3,c3,s3,_⟩:=zLX (E:=zCP) (sz:=2) underlying104 (by kernel_rfl) (by kernel_rfl) (by decide) el_item h3
 obtain ⟨_,h4⟩:=hf 4 _ rfl
 obtain ⟨v4,x4,c4,s4,_⟩:=zLX (E:=zGQ) (sz:=3) underlying105 (by kernel_rfl) (by kernel_rfl) (by decide) el_dim h4
 exact ⟨⟨x0,x1,x2,x3,x4⟩,⟨hc 0 _ c0,hc 1 _ c1,hc 2 _ c2⟩,⟨r0,r1,r2⟩,v3,v4,hc 3 _ c3,hc 4 _ c4,s3,s4⟩
theorem arg_built {r:Reach} {b0:Nat} {v:Value} {d:DataW H} {p:List MemPlace} (hv:Value.okWide prog w r b0 32 v) (h:DataW.Trod enc prog w 0 sp hd 32 v d p) :
  ∃ vr vn vm vh vs b,v = .agg #[vr,vn,.int .i64 (Built.of b),vm,vh,vs]∧BuiltAt w vr vn vm vh vs b:=by
 obtain ⟨cs,rfl,hsz⟩:=okWide_struct underlying32 hv
 rw [show prog.cellsOf 32=6 by kernel_rfl] at hsz
 obtain ⟨fuel,h⟩:=h
 obtain ⟨_,k,hf⟩:=zDN underlying32 h
 obtain ⟨_,h0⟩:=hf 0 _ rfl
 obtain ⟨_,k0,hg⟩:=zDN underlying27 h0
 obtain ⟨_,g0⟩:=hg 0 _ rfl
 obtain ⟨_,k1,hr⟩:=zDN underlying24 g0
 obtain ⟨_,r0⟩:=hr 0 _ rfl
 obtain ⟨vr,R,cr,sr,_⟩:=zLX (E:=zAU) (sz:=5) underlying22 (by kernel_rfl) (by kernel_rfl) (by decide) el_issue r0
 obtain ⟨_,g1⟩:=hg 1 _ rfl
 obtain ⟨vn,N,cn,sn,_⟩:=zLX (E:=zBM) (sz:=10) underlying25 (by kernel_rfl) (by kernel_rfl) (by decide) el_note g1
 obtain ⟨_,h1⟩:=hf 1 _ rfl
 obtain ⟨of,cof,rof⟩:=zDH h1
 obtain ⟨_,h2⟩:=hf 2 _ rfl
 obtain ⟨vm,ms,cm,sm,_⟩:=zLX (E:=zAJ) (sz:=1) underlying28 (by kernel_rfl) (by kernel_rfl) (by decide) el_int h2
 obtain ⟨_,h3⟩:=hf 3 _ rfl
 obtain ⟨vh,hs,ch,sh,_⟩:=zLX (E:=zHA) (sz:=4) underlying29 (by kernel_rfl) (by kernel_rfl) (by decide) el_heap h3
 obtain ⟨_,h4⟩:=hf 4 _ rfl
 obtain ⟨vs,rs,cs',ss,_⟩:=zLX (E:=zDD) (sz:=5) underlying30 (by kernel_rfl) (by kernel_rfl) (by decide) el_report h4
 refine ⟨vr,vn,vm,vh,vs,⟨⟨R,N⟩,of,ms,hs,rs⟩,?_,sr,sn,sm,sh,ss,rof⟩
 have q0:=zOD (zOD cr)
 have q1:=zOD cn
 obtain ⟨l⟩:=cs
 match l,hsz with
 | [c0,c1,c2,c3,c4,c5],_ =>
   simp [Value.cells] at q0 q1 cof cm ch cs'
   subst q0 q1 cof cm ch cs'
   rfl
end
end
section
open Go.RowKit Go.ChangeShapes Go.WideShapes
section
variable {H:Type} {enc:TypeId×Value→H} {w:World} {sp:Nat→Bool} {hd:Bool}
theorem arg_int {r:Reach} {b0:Nat} {v:Value} {d:DataW H} {p:List MemPlace} (hv:Value.okWide prog w r b0 3 v) (h:DataW.Trod enc prog w 0 sp hd 3 v d p) :
  ∃ x:Int,v = .int .i64 x∧I64 x:=by
 obtain ⟨x,rfl⟩:=okWide_int underlying3 hv
 obtain ⟨fuel,h⟩:=h
 obtain ⟨y,e,_,hw⟩:=DataW.trod_int underlying3 h
 have e2:x=y:=by simpa [Value.cells] using e
 subst e2
 refine ⟨x,rfl,?_⟩
 simp [Lit.wf,IntKind.has,IntKind.min,IntKind.max,IntKind.signed,IntKind.bits] at hw
 unfold I64
 omega
theorem arg_ref {r:Reach} {b0:Nat} {v:Value} {d:DataW H} {p:List MemPlace} (hv:Value.okWide prog w r b0 34 v) (h:DataW.Trod enc prog w 0 sp hd 34 v d p) :
  ∃ x y:Int,v = .agg #[.int .i64 x,.int .i64 y]∧I64 x∧I64 y:=by
 obtain ⟨cs,rfl,hsz⟩:=okWide_struct underlying34 hv
 rw [show prog.cellsOf 34=2 by kernel_rfl] at hsz
 obtain ⟨fuel,h⟩:=h
 obtain ⟨_,k,hf⟩:=zDN underlying34 h
 obtain ⟨_,h0⟩:=hf 0 _ rfl
 obtain ⟨x0,c0,r0⟩:=zDH h0
 obtain ⟨_,h1⟩:=hf 1 _ rfl
 obtain ⟨x1,c1,r1⟩:=zDH h1
 refine ⟨x0,x1,?_,r0,r1⟩
 obtain ⟨l⟩:=cs
 match l,hsz with
 | [d0,d1],_ =>
   simp [Value.cells] at c0 c1
   subst c0 c1
   rfl
end
end
end Go.Proofs.YtpolpdegpbahiaaGreatDoor
