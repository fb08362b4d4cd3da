/- The truths that are left, in order: plain. -/
import Derived.Test.YtpolpdegpbahiaaGreatDoorM58
import Derived.Test.YtpolpdegpbahiaaGreatDoorM61
set_option linter.all false
set_option maxRecDepth 100000
set_option maxHeartbeats 12800000

namespace Go.Proofs.YtpolpdegpbahiaaGreatDoor
open Tryz
section
open Go.RowKit
attribute [local go_sem] zAN Oper.grows Oper.growUpon
def Built.bare (b:Built) : Built:={ b with rs:=[] }
theorem bare_ok {b:Built} (h:zM b=0) : zM b.bare=0:=by
 obtain ⟨h1,h2⟩:=zW h
 have h3:zIL b.bare:=⟨h2.1,h2.2.1,h2.2.2.1,by simp [Built.bare],h2.2.2.2.2.1,h2.2.2.2.2.2.1,fun k hk=>by simp [Built.bare] at hk⟩
 unfold zM
 rw [if_neg (by simpa [Built.bare] using h1),if_pos h3]
def zQM (b:Built) (S:List Int) (k:Nat) (n:Int) (i:Nat) : Bool:=decide (zES b S k i < n) && decide (0 < (b.ms[i]?).elim 0 (zKM b S k))
def zQL (b:Built) (S:List Int) (k:Nat) (n:Int) : Nat→Int
 | 0=>0
 | i+1=>if zQM b S k n i then (b.ms[i]?).elim 0 id else zQL b S k n i
def zQC (b:Built) (S:List Int) (k:Nat) (n:Int) : Int:=zQL b S k n b.ms.length
theorem zRH {b:Built} {S:List Int} {k:Nat} {n:Int} {i:Nat} (h:zQM b S k n i=true) (hi:i < b.ms.length) : zQL b S k n (i+1)=b.ms[i]:=by
 simp only [zQL,h,if_true,List.getElem?_eq_getElem hi,Option.elim,id]
theorem zRR {b:Built} {S:List Int} {k:Nat} {n:Int} {i:Nat} (h:zQM b S k n i=false) : zQL b S k n (i+1)=zQL b S k n i:=by
 simp [zQL,h]
theorem untilTo_in (b:Built) (S:List Int) (k:Nat) (n:Int) : ∀ i,i≤b.ms.length→zQL b S k n i=0∨zQL b S k n i∈b.ms:=by
 intro i
 induction i with
 | zero=>intro _;exact .inl rfl
 | succ i ih =>
   intro hi
   cases h:zQM b S k n i with
   | true=>rw [zRH h (by omega)];exact .inr (List.getElem_mem _)
   | false=>rw [zRR h];exact ih (by omega)
theorem untilR_bd {b:Built} (h:zM b=0) (S:List Int) (k:Nat) (n:Int) : 0≤zQC b S k n∧zQC b S k n≤999:=by
 rcases untilTo_in b S k n _ (Nat.le_refl _) with e | e
 ·unfold zQC;rw [e];omega
 ·obtain ⟨j,hj,he⟩:=List.getElem_of_mem e
  have h1:In b.ms[j] 1 999:=((zW h).2.2.2.2.2.1 j hj hj).1
  rw [he] at h1
  have:=h1.1
  have:=h1.2
  unfold zQC
  omega
def zQO (b:Built) (S:List Int) (k:Nat) (n:Int) : List Int:=(List.range b.ms.length).map (fun i=>oldV (zBO b S) k i n)
theorem taken_len (b:Built) (S:List Int) (k:Nat) (n:Int) : (zQO b S k n).length=b.ms.length:=by unfold zQO;rw [List.length_map,List.length_range]
theorem taken_at {b:Built} {S:List Int} {k:Nat} {n:Int} {i:Nat} (hi:i < (zQO b S k n).length) : (zQO b S k n)[i]=oldV (zBO b S) k i n:=by simp [zQO]
theorem takes_iff {b:Built} {S:List Int} {k:Nat} {n:Int} {i:Nat} (hk:k < b.hs.length) (hi:i < b.ms.length) : decide (0 < oldV (zBO b S) k i n)=zQM b S k n i:=by
 have e:oldV (zBO b S) k i n=zPD (zES b S k i) (zKM b S k b.ms[i]) n:=by
  unfold oldV
  rw [if_neg (by omega),Int.toNat_natCast,viewT_at b S hk,sumTo_rowT]
  congr 1
  unfold atD zSD
  rw [List.getD_eq_getElem?_getD,List.getElem?_map,List.getElem?_eq_getElem hi]
  rfl
 have e2:zQM b S k n i=(decide (zES b S k i < n) && decide (0 < zKM b S k b.ms[i])):=by unfold zQM;rw [List.getElem?_eq_getElem hi];rfl
 rw [e,e2]
 generalize zES b S k i=B
 generalize zKM b S k b.ms[i]=c
 unfold zPD
 by_cases h1:B < n
 ·by_cases h2:0 < c
  ·rw [decide_eq_true h1,decide_eq_true h2,decide_eq_true (by omega)];rfl
  ·rw [decide_eq_false h2,decide_eq_false (by omega)];simp
 ·rw [decide_eq_false h1,decide_eq_false (by omega)];rfl
theorem with08 (w:World) (vr vn vm vh vs:Value) (b:Built) (hB:BuiltAt w vr vn vm vh vs b) :
  Calls prog 153 #[.agg #[vr,vn,.int .i64 b.of,vm,vh,vs],.slice none 0 0] w fun e w'=>e = .returned (.agg #[vr,vn,.int .i64 b.of,vm,vh,.slice none 0 0])∧Below w.heap.size w w':=by
 obtain ⟨ar,cr,rfl,_⟩:=zD hB.reg
 obtain ⟨an,cn,rfl,_⟩:=zD hB.notes
 obtain ⟨am,cm,rfl,_⟩:=zD hB.ms
 obtain ⟨ah,ch,rfl,_⟩:=zD hB.hs
 obtain ⟨as',cs',rfl,_⟩:=zD hB.rs
 clear hB
 go_enter func153,ntmps153
 go_wp2
 refine bodyPost_ret (v:=.agg #[.slice ar b.ns.reg.length cr,.slice an b.ns.notes.length cn,.int .i64 b.of,.slice am b.ms.length cm,.slice ah b.hs.length ch,.slice none 0 0]) (by simp [results,results153,go_sem]) rfl ?_
 refine ⟨rfl,?_⟩
 first
 | exact zA (zB _ _) (zB _ _)
 | simp [zH,zB]
theorem taken08 (w:World) (vr vn vm vh vs vz:Value) (b:Built) (S:List Int) (k:Nat) (n:Int) (hB:BuiltAt w vr vn vm vh vs b) (hS:Sl zAJ 1 w vz S) (hv:zM b=0) (hT:IsT (zCA b.ns.notes) S) (hk:k < b.hs.length) (hn:0≤n∧n≤200) :
  Calls prog 116 #[.agg #[vr,vn,.int .i64 b.of,vm,vh,vs],vz,.int .i64 k,.int .i64 n] w fun e w'=>∃ u,e = .returned u∧Sl zAJ 1 w' u (zQO b S k n)∧Below w.heap.size w w':=by
 obtain ⟨i0,hi,hz0,hz1,hz2⟩:=info_parts zDM
 obtain ⟨am,cm,rfl,_⟩:=zD hB.ms
 have hb1:=zB w (.cells #[vr,vn,.int .i64 b.of,.slice am b.ms.length cm,vh,vs] 32)
 have hbox:=zHC w vr vn (.slice am b.ms.length cm) vh vs b.of 32
 have HB:=zF (hB.ext hb1)
 have HS:=zF (zI zN hb1 hS)
 have HBOX:=zF hbox
 have hm12:b.ms.length≤12:=(zW hv).2.2.1
 have HROW:=zF (zRU hv S).row
 have hTl:Hid ((k:Int) < (zBO b S).length):=by
  unfold Hid zBO
  rw [List.length_map,List.length_range]
  omega
 have hcallV:=zF (fun W (hb:Below (w.alloc (.cells #[vr,vn,.int .i64 b.of,.slice am b.ms.length cm,vh,vs] 32)).heap.size (w.alloc (.cells #[vr,vn,.int .i64 b.of,.slice am b.ms.length cm,vh,vs] 32)) W) =>
  zRB W vr vn (.slice am b.ms.length cm) vh (.slice none 0 0) vz b.bare S (by
   have h:=hB.ext (zA hb1 hb)
   exact ⟨h.reg,h.notes,h.ms,h.hs,zGS _ _ _ _ _,h.of⟩) (zI zN (zA hb1 hb) hS) (bare_ok hv) hT)
 have hW:=zF (with08 _ _ _ _ _ _ b HB.out)
 have hbd:Hid (∀ j,j < b.ms.length→0≤oldV (zBO b S) k j n∧oldV (zBO b S) k j n≤200):=fun j hj=>oldV_bd HROW.out hTl.out hj hn
 have HN:=zF hn
 have k0:=hbox.c0
 have k1:=hbox.c1
 have k2:=hbox.c2
 have k3:=hbox.c3
 have k4:=hbox.c4
 have k5:=hbox.c5
 clear hB hS hv hT hn hbox
 unfold zJ at k0 k1 k2 k3 k4 k5
 go_enter func116,ntmps116
 go_wp2_with (first
  | (go_at_call 153;refine hW.out.mono ?_;rintro e w2 ⟨rfl,hb2⟩;have hcV:=hcallV.out w2 hb2;clear k0 k1 k2 k3 k4 k5)
  | (go_at_call 60;refine hcV.mono ?_;rintro e w3 ⟨vp,vt,rfl,hV,hb3⟩;have hVn:=hV.now;obtain ⟨ap,cp,rfl,_⟩:=zD hVn.reports;obtain ⟨at',ct,rfl,_⟩:=zD hVn.takes;have HV:=zF hVn;clear hV hVn hcV))
 have hb4:=zB w3 (.cells #[.slice ap (zBS b.bare S).length cp,.slice at' (zBO b.bare S).length ct] 130)
 have hvw:=Lay.new w3 130 #[.slice ap (zBS b.bare S).length cp,.slice at' (zBO b.bare S).length ct]
 have HBB:=zF (zA hb2 (zA hb3 hb4))
 have HVW:=zF hvw
 have HTK:Hid (Sl zKW 1 (w3.alloc (.cells #[.slice ap (zBS b.bare S).length cp,.slice at' (zBO b.bare S).length ct] 130)) (.slice at' (zBO b.bare S).length ct) (zBO b S)):=(HV.out.ext hb4).takes
 have HBOX:=zF (HBOX.out.ext HBB.out)
 have HB1:=zF hb1
 clear hb1 hb2 hb3 hb4 hvw HV hW hcallV HB HS
 generalize hgv:w3.heap.size=gv at *
 generalize w3.alloc _=w1 at *
 clear hgv
 have hlen:=taken_len b S k n
 have hsn:Hid (∀ j,j < b.ms.length→(zQO b S k n).take (j+1)=(zQO b S k n).take j++[oldV (zBO b S) k j n]):=fun j hj=>by
  rw [List.take_succ_eq_append_getElem (by omega),taken_at]
 have hall:Hid ((zQO b S k n).take b.ms.length=zQO b S k n):=by unfold Hid;rw [← hlen,List.take_length]
 obtain ⟨T,hTT⟩ : ∃ T,zQO b S k n=T:=⟨_,rfl⟩
 rw [hTT] at hlen hsn hall
 have HTT:=zF hTT
 clear hTT
 have hTk:Hid (∀ j,j≤b.ms.length→(T.take j).length=j):=fun j hj=>by rw [List.length_take];omega
 go_loopw [9,11] (fun q i wr=>∃ j:Nat,i = .int .i64 j∧j≤b.ms.length∧Hid (wr.ownsRow w1.heap.size 3 1 q j ((T.take j).map (Value.int .i64)))∧Hid (∀ x∈T.take j,I64 x)∧Hid (Below w1.heap.size w1 wr)) (fun _ i _=>b.ms.length - (intOf i).toNat)
 case atStart=>exact ⟨0,rfl,by omega,zF (World.ownsRow_nil _ _ _ _),zF (fun x hx=>by simp at hx),zF (br_)⟩
 case round =>
  obtain ⟨j,rfl,hj,HO,HI,HB⟩:=hrel
  have k3:=zC HB.out HBOX.out.c3
  have v0:=zC HB.out (HVW.out.cell 0 _ rfl)
  have v1:=zC HB.out (HVW.out.cell 1 _ rfl)
  unfold zJ at k3 v0 v1
  by_cases hlt:j < b.ms.length
  case neg =>
   obtain rfl:j=b.ms.length:=by omega
   go_wp2
   go_ret
   have ho:=HO.out
   have hi2:=HI.out
   rw [hall.out] at ho hi2
   rw [← hlen] at ho
   exact ⟨_,rfl,by rw [HTT.out];exact zBG ho hi2,zA HB1.out (zA HBB.out HB.out)⟩
  case pos =>
   have hb:=hbd.out j hlt
   have hs:=zF (hsn.out j hlt)
   have hc:=zF (old08_v wr (.slice ap (zBS b.bare S).length cp) (.slice at' (zBO b.bare S).length ct) (zBO b S) b.ms.length k j n (zI zCC HB.out HTK.out) HROW.out hTl.out hlt HN.out)
   have HJ:=zF (hTk.out j hj)
   generalize oldV (zBO b S) k j n=x at *
   go_wp2_with (first
    | (go_at_call 96;refine hc.out.mono ?_;rintro e w2 ⟨rfl,hb2⟩;have HB2:=zF (zA HB.out hb2);have HO2:=zF (zAA hb2 HO.out);clear k3 v0 v1 hb2)
    | (at_builtin;refine wpList_append_own _ rfl _ _ 28 rfl w1.heap.size 3 i0 (.int .i64 0) 1 8 underlying28 hi hz0 hz1 hz2 rfl (by decide) _ _ _ rfl (HO2.out.alloc _) ⟨w2.heap.size,0,none⟩ 1 1 [.int .i64 x] rfl rfl (cell_one_new _ _ _) (by simp [Value.oneCell']) (by unfold maxLen;omega) (by omega) (by have:=HB2.out.size;simp;omega) ?_;intro v' w4 hown' hgrow _))
   have hb4:=(HB2.out.alloc HB2.out.size (.cells #[.int .i64 x] 3)).grown hgrow (by have:=HB2.out.size;simp;omega) (fun k e=>(HO2.out.lt k e).1)
   have hI64:I64 x:=by unfold I64;omega
   go_roundw
   case rel =>
    refine ⟨j+1,by go_num,by omega,zF ?_,zF ?_,zF hb4⟩
    ·rw [hs.out];simpa using hown'
    ·rw [hs.out]
     intro y hy
     rcases List.mem_append.1 hy with h | h
     ·exact HI.out y h
     ·simp at h;subst h;exact hI64
   case measure=>simp [intOf];omega
theorem until08 (w:World) (vr vn vm vh vs vz:Value) (b:Built) (S:List Int) (k:Nat) (n:Int) (hB:BuiltAt w vr vn vm vh vs b) (hS:Sl zAJ 1 w vz S) (hv:zM b=0) (hT:IsT (zCA b.ns.notes) S) (hk:k < b.hs.length) (hn:0≤n∧n≤200) :
  Calls prog 76 #[.agg #[vr,vn,.int .i64 b.of,vm,vh,vs],vz,.int .i64 k,.int .i64 n] w fun e w'=>e = .returned (.int .i64 (zQC b S k n))∧Below w.heap.size w w':=by
 have hb1:=zB w (.cells #[vr,vn,.int .i64 b.of,vm,vh,vs] 32)
 have hbox:=zHC w vr vn vm vh vs b.of 32
 have hc:=zF (taken08 _ vr vn vm vh vs vz b S k n (hB.ext hb1) (zI zN hb1 hS) hv hT hk hn)
 have HMS:=zF (zI zN hb1 hB.ms)
 have HBOX:=zF hbox
 have k0:=hbox.c0
 have k1:=hbox.c1
 have k2:=hbox.c2
 have k3:=hbox.c3
 have k4:=hbox.c4
 have k5:=hbox.c5
 unfold zJ at k0 k1 k2 k3 k4 k5
 have hiff:Hid (∀ i,i < b.ms.length→(0 < oldV (zBO b S) k i n↔zQM b S k n i=true)):=fun i hi=>by
  rw [← takes_iff hk hi]
  simp
 have hlen:=taken_len b S k n
 have hat:Hid (∀ i (hi:i < (zQO b S k n).length),(zQO b S k n)[i]=oldV (zBO b S) k i n):=fun i hi=>taken_at hi
 obtain ⟨am,cm,hvm,_⟩:=zD hB.ms
 subst hvm
 clear hB hS hv hT hn hbox
 go_enter func76,ntmps76
 go_wp2_with fail
 clear k0 k1 k2 k3 k4 k5
 generalize w.alloc _=w1 at *
 refine hc.out.mono ?_
 rintro e w2 ⟨u,rfl,hu,hb2⟩
 generalize zQO b S k n=T at *
 obtain ⟨au,cu,rfl,_⟩:=zD hu
 have HU:=zF hu
 have HMS:=zF (zI zN hb2 HMS.out)
 have HBOX:=zF (HBOX.out.ext hb2)
 have HB1:=zF (zA hb1 hb2)
 have k3:=HBOX.out.c3
 unfold zJ at k3
 clear hc hu hb1 hb2
 rw [hlen] at HU ⊢
 go_wp2
 go_loop [10,11] (fun q i=>∃ j:Nat,i = .int .i64 j∧j≤b.ms.length∧q = .int .i64 (zQL b S k n j)) (fun _ i=>b.ms.length - (intOf i).toNat)
 case atStart=>exact ⟨0,rfl,by omega,rfl⟩
 case round =>
  obtain ⟨j,rfl,hj,rfl⟩:=hrel
  by_cases hlt:j < b.ms.length
  case neg =>
   obtain rfl:j=b.ms.length:=by omega
   go_wp2
   go_ret
   exact ⟨rfl,HB1.out⟩
  case pos =>
   have hjT:j < T.length:=by omega
   obtain ⟨g1,o1,e1,c1,-⟩:=(zZ HU.out).2 j (by omega)
   cases e1
   obtain ⟨g2,o2,rfl,c2,-⟩:=(zZ HMS.out).2 j hlt
   rw [hat.out j hjT] at c1
   unfold zJ at c1 c2
   rw [Nat.mul_one] at c1 c2
   have hi:=hiff.out j hlt
   have hy:=zF (fun h=>zRH (b:=b) (S:=S) (k:=k) (n:=n) h hlt)
   have hno:=zF (fun h=>zRR (b:=b) (S:=S) (k:=k) (n:=n) (i:=j) h)
   generalize oldV (zBO b S) k j n=x at *
   generalize b.ms[j]=m at *
   by_cases hx:0 < x
   ·have hs:=zF (hy.out (hi.1 hx))
    clear hi hy hno
    go_wp2
    go_round
    ·exact ⟨j+1,by go_num,by omega,by rw [hs.out]⟩
    ·simp [intOf];omega
   ·have hs:=zF (hno.out (by
     cases h:zQM b S k n j with
     | true=>exact absurd (hi.2 h) hx
     | false=>rfl))
    clear hi hy hno
    go_wp2
    go_round
    ·exact ⟨j+1,by go_num,by omega,by rw [hs.out]⟩
    ·simp [intOf];omega
end
section
open Go.RowKit Go.Shelf
attribute [local go_sem] zAN Oper.grows Oper.growUpon Oper.wild Oper.wildUpon
theorem bit5:∀ s,s < 32→∀ i,i < 5→bits BinOp.and IntKind.i64 (((s:Nat) : Int) / 2 ^ i) 1=if s.testBit i then 1 else 0:=by decide
theorem shl5 (n:Nat) (hn:n < 6) : wrap64 (2 ^ n)=((2 ^ n:Nat) : Int):=by
 have h:(2:Int) ^ n=((2 ^ n:Nat) : Int):=by simp
 rw [h]
 have:=Nat.pow_le_pow_right (n:=2) (by decide) (show n≤5 by omega)
 generalize 2 ^ n=k at this
 exact IntWalk.wrap64_in _ (by omega)
theorem zSA (O:List Int) (s:Nat) : ∀ i,(zEH O s i).length≤i
 | 0=>by simp [zEH]
 | i+1=>by
   have:=zSA O s i
   simp only [zEH,List.length_append]
   split <;> simp <;> omega
theorem zPW (O:List Int) : (zNC O).length=2 ^ O.length:=by unfold zNC;rw [List.length_map,List.length_range]
theorem refT_take (O:List Int) (s:Nat) (h:s < 2 ^ O.length) : (zNC O).take (s+1)=(zNC O).take s++[zEH O s O.length]:=by
 have hl:s < (zNC O).length:=by rw [zPW];exact h
 rw [List.take_succ_eq_append_getElem hl]
 congr 2
 simp [zNC]
theorem truths03 (w:World) (vr vn:Value) (N:List Note) (hn:Sl zBM 10 w vn N) (hN:N.length≤1000) (hd:∀ i j,i < j→j < N.length→nm N i≠nm N j) (h5:∀ L,OpenIx N N.length L→L.length≤5) :
  Calls prog 83 #[.agg #[vr,vn]] w fun e w'=>∃ u O,e = .returned u∧O.Pairwise (· < ·)∧(∀ y,y∈O↔y∈zCA N)∧O.length≤5∧(∃ base cs,w'.ownsRow base 28 1 u (zNC O).length cs∧zDW [3] zFT 1 w' cs (zNC O))∧Below w.heap.size w w':=by
 obtain ⟨i0,hif,iz0,iz1,iz2⟩:=info_parts zDM
 obtain ⟨l0,hlf,lz0,lz1,lz2⟩:=info_parts zPT
 obtain ⟨hb1,B1⟩:=zAZ w #[vr,vn] 27
 have c0:=B1 0 vr rfl
 have c1:=B1 1 vn rfl
 clear B1
 obtain ⟨an,capn,rfl,hmn⟩:=zD hn
 have hn1:=zI zS hb1 hn
 have C1:=zF c1
 clear hn
 unfold zJ at c0 c1
 go_enter func83,ntmps83
 go_wp2_with fail
 clear c0 c1
 generalize w.alloc _=w1 at *
 refine (open03 _ _ _ N hn1 hN hd).mono ?_
 rintro e w5 ⟨vo,L,rfl,hown0,hix,hb5⟩
 have HIX:=zF hix
 have hL5:=h5 L hix
 clear h5
 have hvo:Sl zAJ 1 w5 vo (L.map (fun i:Nat=>(i:Int))):=zBG (by rw [List.length_map,List.map_map];exact hown0) (fun x hx=>by
  obtain ⟨j,hj,rfl⟩:=List.mem_map.1 hx
  have:=((hix.mem j).1 hj).1
  unfold I64
  omega)
 obtain ⟨ao,capo,rfl,_⟩:=zD hvo
 have HVO:=zF hvo
 have C:=zF (zC hb5 C1.out)
 have hn5:=zF (zI zS hb5 hn1)
 have hbb:=zF (zA hb1 hb5)
 clear hn1 hvo hown0 hix hb1 hb5
 have hcl:=zAF C.out
 rw [List.length_map]
 generalize hD:L.map (nm N)=D at *
 have HD:=zF hD
 have hDl:D.length=L.length:=by rw [← hD,List.length_map]
 have HDL:=zF hDl
 clear hD hDl
 have hI:Hid (∀ x∈D,I64 x):=fun x hx=>by
  rw [← HD.out] at hx
  obtain ⟨j,hj,rfl⟩:=List.mem_map.1 hx
  have hjN:=((HIX.out.mem j).1 hj).1
  rw [nm_at hjN]
  obtain ⟨_,_,_,_,hr⟩:=(zZ hn5.out).2 j hjN
  exact hr.1
 have hsh:=shl5 L.length (by omega)
 have h2p:2 ^ L.length≤32:=Nat.pow_le_pow_right (n:=2) (by decide) hL5
 have htk:Hid (∀ s,s < 2 ^ L.length→(zNC D).take (s+1)=(zNC D).take s++[zEH D s L.length]):=fun s h=>by
  have:=HDL.out
  rw [← this] at h ⊢
  exact refT_take D s h
 have htl:Hid (∀ s,s≤2 ^ L.length→((zNC D).take s).length=s):=fun s h=>by
  have:=HDL.out
  rw [List.length_take,zPW,this]
  omega
 have htall:Hid ((zNC D).take (2 ^ L.length)=zNC D):=List.take_of_length_le (by rw [zPW,HDL.out];exact Nat.le_refl _)
 generalize hT:2 ^ L.length=T at *
 clear hT
 go_wp2
 go_loopw [4,5] (fun o i wr=>∃ s:Nat,i = .int .i64 s∧s≤T∧Hid (∃ cs,wr.ownsRow w5.heap.size 28 1 o s cs∧zDW [3] zFT 1 wr cs ((zNC D).take s))∧Hid (Below w5.heap.size w5 wr)) (fun _ i _=>T - (intOf i).toNat)
 case atStart=>exact ⟨0,rfl,by omega,zF ⟨[],World.ownsRow_nil _ _ _ _,by rw [List.take_zero];exact zJK _ _ _ _⟩,zF (br_)⟩
 case round =>
  obtain ⟨s,rfl,hs,HO,HB⟩:=hrel
  by_cases hlt:s < T
  case neg =>
   obtain rfl:s=T:=by omega
   go_wp2
   go_ret
   obtain ⟨cs,ho,hr⟩:=HO.out
   rw [htall.out] at hr
   have ho':=ho
   rw [← htl.out s (Nat.le_refl _),htall.out] at ho'
   refine ⟨_,D,rfl,?_,fun y=>?_,?_,⟨_,_,ho',hr⟩,zA hbb.out HB.out⟩
   ·rw [← HD.out];exact HIX.out.nums.1
   ·rw [← HD.out];exact HIX.out.nums.2 y
   ·rw [HDL.out];exact hL5
  case pos =>
   have hlt':(s:Int) < T:=by omega
   have hs32:s < 32:=by omega
   have htk1:=zF (htk.out s hlt)
   have htl1:=zF (htl.out s hs)
   generalize (zNC D).take s=A at *
   go_wp2
   have hem:(wr.alloc (.cells #[] 3)).ownsRow wr.heap.size 3 1 (.slice (some ⟨wr.heap.size,0,none⟩) 0 0) 0 []:=World.ownsRow_lit wr #[] 0 (Nat.le_refl _) (by decide) rfl
   have hba:=zB wr (.cells #[] 3)
   generalize wr=wb at *
   generalize hwA:wb.alloc _=wA at *
   have HEM:=zF hem
   have HBA:=zF hba
   clear hem hba hwA
   go_loopw [6,7] (fun q i wi=>∃ j:Nat,i = .int .i64 j∧j≤L.length∧Hid (wi.ownsRow wb.heap.size 3 1 q (zEH D s j).length ((zEH D s j).map (Value.int .i64)))∧Hid (Below wb.heap.size wb wi)) (fun _ i _=>L.length - (intOf i).toNat)
   case atStart=>exact ⟨0,rfl,by omega,zF HEM.out,HBA⟩
   case round =>
    clear HEM HBA
    obtain ⟨j,rfl,hj,HW,HBW⟩:=hrel
    have hBW:=zF (zA HB.out HBW.out)
    by_cases hlj:j < L.length
    case pos =>
     have hjl:(j:Int) < L.length:=by omega
     have hbit:=bit5 s hs32 j (by omega)
     have hle:=zSA D s j
     by_cases htb:s.testBit j=true
     case neg =>
      have hsel:Hid (zEH D s (j+1)=zEH D s j):=by unfold Hid;simp only [zEH];rw [if_neg htb,List.append_nil]
      rw [if_neg htb] at hbit
      clear htb
      go_wp2
      go_roundw
      ·exact ⟨j+1,by go_num,by omega,by rw [hsel.out];exact HW,HBW⟩
      ·simp [intOf];omega
     case pos =>
      have hkl2:j < (L.map (fun i:Nat=>(i:Int))).length:=by rw [List.length_map];exact hlj
      obtain ⟨bo,oo,rfl,hcx,-⟩:=(zZ HVO.out).2 j hkl2
      rw [List.getElem_map] at hcx
      have hyN:=((HIX.out.mem L[j]).1 (List.getElem_mem hlj)).1
      obtain ⟨bn,on,rfl,⟨q0,_⟩,_⟩:=(zZ hn5.out).2 L[j] hyN
      rw [← nm_at hyN] at q0
      have hsel:Hid (zEH D s (j+1)=zEH D s j++[nm N L[j]]):=by
       unfold Hid
       simp only [zEH]
       rw [if_pos htb]
       congr 2
       have:=HD.out
       subst this
       rw [List.getD_eq_getElem?_getD,List.getElem?_map,List.getElem?_eq_getElem hlj]
       rfl
      rw [if_pos htb] at hbit
      clear htb
      generalize nm N L[j]=x at *
      generalize L[j]=y at *
      have HCX:=zF hcx
      have HQ:=zF q0
      have hLM:(L.map (fun i:Nat=>(i:Int))).length=L.length:=List.length_map ..
      generalize (L.map (fun i:Nat=>(i:Int))).length=LM at *
      subst hLM
      have HVO2:=HVO
      clear hcx q0 hkl2
      have hyN2:(y:Int) < N.length:=by omega
      have hxs:Hid ((zEH D s (j+1)).map (Value.int .i64)=(zEH D s j).map (Value.int .i64)++[.int .i64 x]∧(zEH D s (j+1)).length=(zEH D s j).length+1):=by
       unfold Hid
       rw [hsel.out,List.map_append,List.length_append]
       exact ⟨rfl,rfl⟩
      generalize (zEH D s j).map (Value.int .i64)=ROW at *
      generalize (zEH D s j).length=k at *
      go_wp2
      refine zBI 12 11 [10] (fun a c=>a.grownBy c u6.ownBlock) (fun c=>wr.grownBy c u6.ownBlock) (fun _ _ hb h=>zCJ hb h) (zAX _ _ _ rfl rfl rfl rfl)
       (fun c=>c.ownsRow wb.heap.size 3 1 u6 k ROW∧wb.heap.size≤c.heap.size) (fun _ _ hb h=>⟨zAA hb h.1,Nat.le_trans h.2 hb.size⟩) ⟨zAA ⟨rfl,rfl,rfl,Nat.le_refl _,fun _ _=>rfl⟩ HW.out,HBW.out.size⟩ (by kernel_rfl) (by kernel_rfl) ?_
      simp only [tk_]
      apply gw_ (by rfl)
      ·intro vs w2 hw hd
       (try simp [hq_] at hd)
       simp only [pf_]
       go_simp
       exact ⟨br_,rfl⟩
      apply gw_ (by rfl)
      ·intro vs w2 hw hd
       (try simp [hq_] at hd)
       simp only [pf_]
       go_simp
       exact ⟨br_,rfl⟩
      apply gw_ (by rfl)
      ·intro vs w2 hw hd
       (try simp [hq_] at hd)
       have hB2:=zAI HW.out hw HBW.out (Nat.le_refl _);have k0:=zC (zA HB.out hB2) C.out;unfold zJ at k0
       simp only [pf_]
       go_simp
       exact ⟨br_,rfl⟩
      apply gw_ (by rfl)
      ·intro vs w2 hw hd
       (try simp [hq_] at hd)
       simp only [pf_]
       go_simp
       exact ⟨br_,rfl⟩
      apply gw_ (by rfl)
      ·intro vs w2 hw hd
       (try simp [hq_] at hd)
       simp only [pf_]
       go_simp
       exact ⟨br_,rfl⟩
      apply gw_ (by rfl)
      ·intro vs w2 hw hd
       (try simp [hq_] at hd)
       simp only [pf_]
       go_simp
       exact ⟨br_,rfl⟩
      apply gw_ (by rfl)
      ·intro vs w2 hw hd
       (try simp [hq_] at hd)
       have hB2:=zAI HW.out hw HBW.out (Nat.le_refl _);have k0:=zC (zA HB.out hB2) HCX.out;unfold zJ at k0;rw [Nat.mul_one] at k0
       simp only [pf_]
       go_simp
       exact ⟨br_,rfl⟩
      apply gw_ (by rfl)
      ·intro vs w2 hw hd
       (try simp [hq_] at hd)
       simp only [pf_]
       go_simp
       exact ⟨br_,rfl⟩
      apply gw_ (by rfl)
      ·intro vs w2 hw hd
       (try simp [hq_] at hd)
       simp only [pf_]
       go_simp
       exact ⟨br_,rfl⟩
      apply gw_ (by rfl)
      ·intro vs w2 hw hd
       (try simp [hq_] at hd)
       have hB2:=zAI HW.out hw HBW.out (Nat.le_refl _);have k0:=zC (zA HB.out hB2) HQ.out;unfold zJ at k0
       simp only [pf_]
       go_simp
       exact ⟨br_,rfl⟩
      refine zCW (zGT x) (zCN x) (by rfl) (.inl (by rfl)) ?_ ?_
      ·intro vs w2 hw hd
       (try simp [hq_] at hd)
       simp only [pf_]
       go_simp
       exact ⟨zB _ _,_,rfl,zU _ _ _ 0 _ rfl⟩
      refine zDJ (fun v w'=>Hid (w'.ownsRow wb.heap.size 3 1 v (k+1) (ROW++[.int .i64 x]))) (fun _ _ _ hb h=>zF (zAA hb h.out)) (by rfl) ?_ ?_
      ·intro vs w2 hw hi hd
       (try simp [hq_] at hd)
       simp only [pf_]
       obtain ⟨e3,bb,e5,hbb2⟩:=hd
       refine zBQ (.tmp 29) (.tmp 39) 28 (by rfl) wb.heap.size 3 i0 _ 1 8 underlying28 hif iz0 iz1 iz2 rfl (by decide) u6 _ _ (by exact e3) hi.1 (vs 10) ⟨bb,0,none⟩ 1 1 e5 [.int .i64 x] (by rfl) rfl (fun j u hj=>by
        cases j with
        | zero=>simp at hj;subst hj;exact hbb2
        | succ j=>simp at hj) (fun u hu=>by simp at hu;subst hu;rfl) (by unfold maxLen;omega) (by omega) hi.2 (fun v' w' h1 h2=>⟨zAH hw h2,h2,h1⟩)
      refine zDI rfl (fun vs w7 hw hd=>?_)
      simp [zV,zAD,List.range,List.range.loop,List.filter_cons,List.filter_nil] at hd
      simp only [pf_]
      obtain ⟨e0,e1,e2,e3,e4,e5,e6,e7,e8,e9,h11⟩:=hd
      have hb7:=zF (zAI HW.out hw HBW.out (Nat.le_refl _))
      simp only [Nat.zero_add,Nat.reduceAdd] at e0 e1 e2 e3 e4 e5 e6 e7 e8 e9 ⊢
      simp only [e0,e1,e2,e3,e4,e5,e6,e7,e8,e9]
      clear hw e0 e1 e2 e3 e4 e5 e6 e7 e8 e9
      generalize vs 11=u9 at *
      generalize vs 10=v8 at *
      go_wp2
      go_roundw
      ·exact ⟨j+1,by go_num,by omega,by rw [hxs.out.1,hxs.out.2];exact h11,hb7⟩
      ·simp [intOf];omega
    case neg =>
     obtain rfl:j=L.length:=by omega
     have hSI:∀ x∈zEH D s L.length,I64 x:=fun x hx=>by
      obtain ⟨i,_,_,h⟩:=(zIB (by rw [HDL.out];exact Nat.le_refl _)).1 hx
      exact hI.out x (List.mem_of_getElem? h)
     have hsl5:=zSA D s L.length
     have hw0:=HW.out
     generalize zEH D s L.length=RT at *
     have hon:OnT [3] (fun w=>Sl zAJ 1 w u6 RT) wr:=(zGO (F:=IsInt) (enc:=fun x=>[.int .i64 x]) (sz:=1) (w:=wr) RT (fun x hx=>⟨rfl,fun _=>⟨rfl,hSI x hx⟩⟩)).sl (by rw [ints_flat];exact hw0) isInt_at
     obtain ⟨au,cu,rfl,_⟩:=zD hon.now
     have HON:=zF hon
     obtain ⟨cs,hoc,hri⟩:=HO.out
     have HOC:=zF (zAA HBW.out hoc)
     have HRI:=zF (hri.keep (zAQ HBW.out))
     clear hon hoc hri hw0 hSI HW
     have hsz:=hBW.out.size
     go_wp2_with (
      at_builtin
      refine wpList_append_own _ rfl _ _ 56 rfl _ 28 l0 (.slice none 0 0) 1 24 underlying56 hlf lz0 lz1 lz2 rfl (by decide) _ _ _ rfl (HOC.out.alloc _) ⟨wr.heap.size,0,none⟩ 1 1 [.slice au RT.length cu] rfl rfl (cell_one_new _ _ _) (by simp [Value.oneCell']) (by unfold maxLen;omega) (by omega) (by simp;omega) ?_
      intro v' w4 hown' hgrow _)
     have hba:=zB wr (.cells #[.slice au RT.length cu] 28)
     have hK1:zEK [3] wr w4:=(zAQ hba).trans (zCE hgrow (HOC.out.alloc _) (by decide))
     have hbz:=(zA hBW.out hba).grown hgrow (zA hBW.out hba).size (fun r e=>(HOC.out.lt r e).1)
     have hfin:∃ cs',w4.ownsRow w5.heap.size 28 1 v' (s+1) cs'∧zDW [3] zFT 1 w4 cs' ((zNC D).take (s+1)):=by
      refine ⟨_,hown',?_⟩
      rw [htk1.out]
      exact (HRI.out.keep hK1).snoc rfl ((HON.out.keep hK1).mono (fun w h=>⟨_,rfl,h⟩))
     have HFIN:=zF hfin
     have HBZ:=zF hbz
     clear hown' hgrow hba hK1 hbz hfin
     go_roundw
     ·exact ⟨s+1,by go_num,by omega,HFIN,HBZ⟩
     ·simp [intOf];omega
end
section
open Go.RowKit
def zJB (b:Built) (A:List (List Int)) : Prop:=Ord A∧∀ l,l∈A↔IsT (zCA b.ns.notes) l∧zII b l
theorem zJB.eq {b:Built} {A B:List (List Int)} (hA:zJB b A) (hB:zJB b B) : A=B:=ord_eq hA.1 hB.1 (fun l=>(hA.2 l).trans (hB.2 l).symm)
theorem zRO {O P:List Int} (h:∀ y,y∈O↔y∈P) (l:List Int) : IsT O l↔IsT P l:=by
 unfold IsT
 exact and_congr Iff.rfl (forall_congr' fun x=>imp_congr_right fun _=>h x)
theorem zNP {R:List Issue} {N:List Note} (h:zDS R N) : (zCA N).length≤5:=by
 have key:∀ k,k≤N.length→((N.take k).filter (fun x=>x.sg == 1)).length=zFI N k:=by
  intro k
  induction k with
  | zero=>intro _;simp [zFI]
  | succ k ih =>
    intro hk
    have hlt:k < N.length:=by omega
    rw [List.take_succ_eq_append_getElem hlt,List.filter_append,List.length_append,ih (by omega),zLS N k hlt]
    by_cases e:N[k].sg=1 <;> simp [e]
 have:=key N.length (Nat.le_refl _)
 rw [List.take_length] at this
 unfold zCA
 rw [List.length_map,this]
 exact h.2.2
theorem zRF {R:List Issue} {N:List Note} (h:zDS R N) {L:List Nat} (hL:OpenIx N N.length L) : L.length≤5:=by
 have h1:=hL.nums
 have h2:(L.map (nm N)).Nodup:=zHT h1.1
 have h3:=zNP h
 have h4:(L.map (nm N)).length≤(zCA N).length:=by
  have:(L.map (nm N)).Subset (zCA N):=fun y hy=>(h1.2 y).1 hy
  exact List.Nodup.length_le_of_subset h2 this
 rw [List.length_map] at h4
 omega
structure LeftTo (b:Built) (T:List (List Int)) (k:Nat) (A:List (List Int)) : Prop where
 ord:Ord A
 mem:∀ l,l∈A↔l∈T.take k∧zII b l
 len:A.length≤k
theorem LeftTo.skip {b:Built} {T A:List (List Int)} {k:Nat} (h:LeftTo b T k A) (hk:k < T.length) (hn:¬ zII b T[k]) : LeftTo b T (k+1) A :=
 ⟨h.ord,fun l=>by
  rw [h.mem,List.take_succ_eq_append_getElem hk,List.mem_append,List.mem_singleton]
  constructor
  ·rintro ⟨a,c⟩
   exact ⟨.inl a,c⟩
  ·rintro ⟨a | rfl,c⟩
   ·exact ⟨a,c⟩
   ·exact absurd c hn,by have:=h.len;omega⟩
theorem ord_put {A:List (List Int)} {x:List Int} {k:Nat} (hA:Ord A) (h1:∀ y∈A.drop k,zIP x y=true) (h2:∀ y∈A.take k,zIP y x=true) : Ord (A.take k++x :: A.drop k):=by
 unfold Ord at *
 rw [← List.take_append_drop k A,List.pairwise_append] at hA
 rw [List.pairwise_append,List.pairwise_cons]
 refine ⟨hA.1,⟨h1,hA.2.1⟩,fun a ha c hc=>?_⟩
 rcases List.mem_cons.1 hc with rfl | hc
 ·exact h2 a ha
 ·exact hA.2.2 a ha c hc
theorem LeftTo.put {b:Built} {T A:List (List Int)} {k j:Nat} (h:LeftTo b T k A) (hk:k < T.length) (hy:zII b T[k]) (hj:j≤A.length) (h1:∀ y∈A.drop j,zIP T[k] y=true) (h2:∀ y∈A.take j,zIP y T[k]=true) : LeftTo b T (k+1) (A.take j++T[k] :: A.drop j) :=
 ⟨ord_put h.ord h1 h2,fun l=>by
  have e:l∈A↔l∈A.take j∨l∈A.drop j:=by rw [← List.mem_append,List.take_append_drop]
  rw [List.mem_append,List.mem_cons,List.take_succ_eq_append_getElem hk,List.mem_append,List.mem_singleton]
  have hm:=h.mem l
  constructor
  ·rintro (a | rfl | a)
   ·have:=hm.1 (e.2 (.inl a));exact ⟨.inl this.1,this.2⟩
   ·exact ⟨.inr rfl,hy⟩
   ·have:=hm.1 (e.2 (.inr a));exact ⟨.inl this.1,this.2⟩
  ·rintro ⟨a | rfl,c⟩
   ·rcases e.1 (hm.2 ⟨a,c⟩) with d | d
    ·exact .inl d
    ·exact .inr (.inr d)
   ·exact .inr (.inl rfl),by
  have:=h.len
  have e:=congrArg List.length (List.take_append_drop j A)
  rw [List.length_append] at e
  rw [List.length_append,List.length_cons]
  omega⟩
theorem LeftTo.ahead {b:Built} {T A:List (List Int)} {k j:Nat} (h:LeftTo b T k A) (hT:T.Nodup) (hk:k < T.length) (hj:j < A.length) (hn:zIP T[k] A[j]=false) : ∀ y∈A.take (j+1),zIP y T[k]=true:=by
 have hne:A[j]≠T[k]:=fun e=>by
  have h1:=((h.mem A[j]).1 (List.getElem_mem hj)).1
  rw [e] at h1
  obtain ⟨i,hi,he⟩:=List.mem_take_iff_getElem.1 h1
  have:=(List.nodup_iff_pairwise_ne.1 hT)
  exact List.pairwise_iff_getElem.1 this i k (by omega) hk (by omega) he
 have h0:zIP A[j] T[k]=true:=by
  by_cases e:zIP A[j] T[k]=true
  ·exact e
  ·exact absurd (zSC _ _ (by simpa using e) hn) hne
 intro y hy
 rw [List.take_succ_eq_append_getElem hj,List.mem_append,List.mem_singleton] at hy
 rcases hy with hy | rfl
 ·obtain ⟨i,hi,rfl⟩:=List.mem_take_iff_getElem.1 hy
  exact befL_tr _ _ _ (List.pairwise_iff_getElem.1 h.ord i j (by omega) hj (by omega)) h0
 ·exact h0
theorem LeftTo.all {b:Built} {O:List Int} {A:List (List Int)} (hO:O.Pairwise (· < ·)) (hm:∀ y,y∈O↔y∈zCA b.ns.notes) (h:LeftTo b (zNC O) (zNC O).length A) : zJB b A :=
 ⟨h.ord,fun l=>by rw [h.mem,List.take_length,zRI hO,zRO hm]⟩
theorem zDW.put {α:Type} {es:List TypeId} {F:World→List Value→α→Prop} {w:World} {cs:List Value} {xs:List α} (h:zDW es F 1 w cs xs) (k:Nat) (hk:k≤xs.length) {u:Value} {y:α} (hu:OnT es (fun w=>F w [u] y) w) : zDW es F 1 w (cs.take k++u :: cs.drop k) (xs.take k++y :: xs.drop k):=by
 obtain ⟨hl,hx⟩:=h.at1
 refine rowIs_of1 (by simp [hl]) (fun i hi=>?_)
 simp only [List.length_append,List.length_cons,List.length_take,List.length_drop] at hi
 have l1:(cs.take k).length=k:=by rw [List.length_take];omega
 have l2:(xs.take k).length=k:=by rw [List.length_take];omega
 by_cases e:i < k
 ·obtain ⟨v,h1,h2⟩:=hx i (by omega)
  refine ⟨v,by rw [List.getElem?_append_left (by omega),List.getElem?_take_of_lt e];exact h1,?_⟩
  rw [List.getElem_append_left (by omega),List.getElem_take]
  exact h2
 ·by_cases e2:i=k
  ·subst e2
   refine ⟨u,by rw [List.getElem?_append_right (by omega),l1];simp,?_⟩
   rw [List.getElem_append_right (by omega)]
   simp only [l2,Nat.sub_self,List.getElem_cons_zero]
   exact hu
  ·obtain ⟨m,rfl⟩ : ∃ m,i=k+1+m:=⟨i - k - 1,by omega⟩
   obtain ⟨v,h1,h2⟩:=hx (k+m) (by omega)
   have e3:k+1+m - k=m+1:=by omega
   refine ⟨v,by rw [List.getElem?_append_right (by omega),l1,e3,List.getElem?_cons_succ,List.getElem?_drop];exact h1,?_⟩
   rw [List.getElem_append_right (by omega)]
   simp only [l2,e3,List.getElem_cons_succ,List.getElem_drop]
   exact h2
theorem put_at {α:Type} {L:List α} {x:α} {k:Nat} (hk:k < L.length) : (L.take (k+1)++x :: L.drop (k+1))[k+1]? = some x∧(L.take (k+1)++x :: L.drop (k+1))[k]? = some L[k]:=by
 have l1:(L.take (k+1)).length=k+1:=by rw [List.length_take];omega
 constructor
 ·rw [List.getElem?_append_right (by omega),l1];simp
 ·rw [List.getElem?_append_left (by omega),List.getElem?_take_of_lt (by omega),List.getElem?_eq_getElem hk]
end
end Go.Proofs.YtpolpdegpbahiaaGreatDoor
