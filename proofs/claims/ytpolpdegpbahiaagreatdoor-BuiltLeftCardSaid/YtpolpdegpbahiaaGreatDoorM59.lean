/- The reference: what a machine has of a drawing. -/
import Derived.Test.YtpolpdegpbahiaaGreatDoorM54
import Derived.Test.YtpolpdegpbahiaaGreatDoorM58
set_option linter.all false
set_option maxRecDepth 100000
set_option maxHeartbeats 12800000

namespace Go.Proofs.YtpolpdegpbahiaaGreatDoor
open Tryz
open Go.RowKit
def zMG (L:List Item) (n:Int) : Nat→Int
 | 0=>0
 | k+1=>if (L[k]?).elim false (fun x=>x.d == n)=true then (L[k]?).elim 0 (·.c) else zMG L n k
theorem lastC_yes {L:List Item} {n:Int} {k:Nat} (hk:k < L.length) (h:L[k].d=n) : zMG L n (k+1)=L[k].c:=by
 simp [zMG,List.getElem?_eq_getElem hk,h]
theorem lastC_no {L:List Item} {n:Int} {k:Nat} (hk:k < L.length) (h:¬ L[k].d=n) : zMG L n (k+1)=zMG L n k:=by
 simp [zMG,List.getElem?_eq_getElem hk,h]
theorem lastC_is {L:List Item} {n:Int} {c:Int→Int} (hc:∀ x∈L,x.c=c x.d) : ∀ k,k≤L.length→(zMG L n k=c n∧∃ j,∃ h:j < L.length,L[j].d=n)∨(zMG L n k=0∧∀ j,j < k→(h:j < L.length)→¬ L[j].d=n):=by
 intro k
 induction k with
 | zero=>intro _;exact .inr ⟨rfl,fun j hj=>absurd hj (by omega)⟩
 | succ k ih =>
   intro hk
   by_cases e:L[k].d=n
   ·left
    rw [lastC_yes (by omega) e,hc _ (List.getElem_mem _),e]
    exact ⟨rfl,k,by omega,e⟩
   ·rw [lastC_no (by omega) e]
    rcases ih (by omega) with h | ⟨h1,h2⟩
    ·exact .inl h
    ·refine .inr ⟨h1,fun j hj hl=>?_⟩
     by_cases e2:j=k
     ·subst e2;exact e
     ·exact h2 j (by omega) hl
theorem lastC_pos {D:List Int} {c:Int→Int} {n:Int} (hn:n∈D) (h0:0≤c n) : zMG (zCV D c D.length) n (zCV D c D.length).length=c n:=by
 rcases lastC_is (L:=zCV D c D.length) (n:=n) (c:=c) (fun x hx=>(zMJ hx).2) _ (Nat.le_refl _) with ⟨h,_⟩ | ⟨h,h2⟩
 ·exact h
 ·rw [h]
  by_cases hp:0 < c n
  ·exfalso
   have hm:(⟨n,c n⟩ : Item)∈zCV D c D.length:=by
    unfold zCV
    rw [List.take_length]
    exact List.mem_filterMap.2 ⟨n,hn,by rw [if_pos hp]⟩
   obtain ⟨j,hj,hx⟩:=List.getElem_of_mem hm
   exact h2 j hj hj (by rw [hx])
  ·omega
def zKT (hs:List Heap) (n l h0:Int) (k:Nat) : Int:=if zCF hs n l true k < 0 then h0 else zCF hs n l true k
theorem heapIn_zero (hs:List Heap) (n l h0:Int) : zKT hs n l h0 0=h0:=by simp [zKT,zCF]
theorem heapIn_yes {hs:List Heap} {n l h0:Int} {k:Nat} (hk:k < hs.length) (h1:hs[k].d=n) (h2:hs[k].l=l - 1) : zKT hs n l h0 (k+1)=k:=by
 unfold zKT
 have:zCF hs n l true (k+1)=k:=if_pos ⟨rfl,hk,h1,h2⟩
 rw [this,if_neg (by omega)]
theorem heapIn_no {hs:List Heap} {n l h0:Int} {k:Nat} (hk:k < hs.length) (h:¬ (hs[k].d=n∧hs[k].l=l - 1)) : zKT hs n l h0 (k+1)=zKT hs n l h0 k:=by
 unfold zKT
 have:zCF hs n l true (k+1)=zCF hs n l true k:=by
  simp only [zCF]
  rw [if_neg (fun ⟨_,_,h1,h2⟩=>h ⟨h1,h2⟩)]
 rw [this]
theorem zOX (hs:List Heap) (n l:Int) (k:Nat) : zCF hs n l false k = -1:=by
 induction k with
 | zero=>rfl
 | succ k ih=>simp [zCF,ih]
theorem heapIn_all (hs:List Heap) (n l:Int) (u:Bool) : zKT hs n l (zCF hs n l u hs.length) hs.length=zCF hs n l true hs.length:=by
 unfold zKT
 split
 ·rename_i h
  cases u with
  | true=>rfl
  | false =>
    rw [zOX]
    have:=zJE hs n l true hs.length
    omega
 ·rfl
theorem zFG {R:List Issue} {N:List Note} (h:zX R N=0) (S:List Int) (m:Int) {d:Int} (hd:d∈nums R) : 1≤zQ S m N d∧zQ S m N d≤8:=by
 obtain ⟨x,hx⟩:=zIN h S m d hd
 obtain ⟨h1,_,h3⟩:=zGN hx
 obtain ⟨k,hk,rfl⟩:=List.getElem_of_mem h1
 have:=(((zAR (zAS h).1).2.1 k hk).1 hk).1.2.1
 unfold In at this
 omega
def zKN (N:List Note) (num:Int) (k:Nat) : Bool:=zHW (N.take k) num
theorem useTo_yes {N:List Note} {num:Int} {k:Nat} (hk:k < N.length) (h1:N[k].num=num) (h2:N[k].use=true) : zKN N num (k+1)=true:=by
 unfold zKN zHW
 rw [List.take_succ_eq_append_getElem hk,List.any_append]
 simp [h1,h2]
theorem useTo_no {N:List Note} {num:Int} {k:Nat} (hk:k < N.length) (h:¬ (N[k].num=num∧N[k].use=true)) : zKN N num (k+1)=zKN N num k:=by
 unfold zKN zHW
 rw [List.take_succ_eq_append_getElem hk,List.any_append]
 have:(N[k].num == num && N[k].use)=false:=by
  by_cases e:N[k].num=num
  ·have e2:¬ N[k].use=true:=fun h2=>h ⟨e,h2⟩
   simp [e,e2]
  ·simp [e]
 simp [this]
theorem hasOf08 (w:World) (vr vn vm vh vs vz:Value) (b:Built) (S:List Int) (m n:Int) (hB:BuiltAt w vr vn vm vh vs b) (hS:Sl zAJ 1 w vz S) (hv:zM b=0) (hT:IsT (zCA b.ns.notes) S) (hm:In m 1 999) (hn:n∈nums b.ns.reg) :
  Calls prog 94 #[.agg #[vr,vn,.int .i64 b.of,vm,vh,vs],vz,.int .i64 m,.int .i64 n] w fun e w'=>e = .returned (.agg #[.int .i64 (zAB b S m n).c,.int .i64 (zAB b S m n).l,.int .i64 (zAB b S m n).h])∧Below w.heap.size w w':=by
 obtain ⟨hb1,B1,B2⟩:=zDY w #[vr,vn,.int .i64 b.of,vm,vh,vs] #[.int .i64 0,.int .i64 0,.int .i64 0] 32 168
 have c0:=B1 0 vr rfl
 have c1:=B1 1 vn rfl
 have c2:=B1 2 (.int .i64 b.of) rfl
 have c4:=B1 4 vh rfl
 clear B1 B2
 have L0:=Lay.new (w.alloc (.cells #[vr,vn,.int .i64 b.of,vm,vh,vs] 32)) 168 #[.int .i64 0,.int .i64 0,.int .i64 0]
 rw [World.size_alloc] at L0
 obtain ⟨an,capn,rfl,hmn⟩:=zD hB.notes
 obtain ⟨ar,capr,rfl,hmr⟩:=zD hB.reg
 obtain ⟨ah,caph,rfl,hmh⟩:=zD hB.hs
 obtain ⟨az,capz,rfl,hmz⟩:=zD hS
 have hn1:=zF (zI zS hb1 hB.notes)
 have hr1:=zF (zI zP hb1 hB.reg)
 have hh1:=zF (zI zCL hb1 hB.hs)
 have hS1:=zF (zI zN hb1 hS)
 have hvn:=(zW hv).1
 have hvr:=(zAS hvn).1
 have hNu:=zF hn
 have hNV:=zF hvn
 have hRV:=zF hvr
 have hOf:=zF (zKD hv)
 have hTT:=zF hT
 have hR60:b.ns.reg.length≤60:=by have:=(zAR hvr).1.2;omega
 have hlI:Hid (I64 (zQ S m b.ns.notes n)):=zJR hB.notes n
 have hth:=zF (zIN hvn S m)
 have hlb:=zF (zFG hvn S m hn)
 have hcb:=zF (cnt_bd hvr (zQ S m b.ns.notes) (zKD hv) n)
 have hSpec:Hid (zAB b S m n=⟨zEJ b.ns.reg (zQ S m b.ns.notes) b.of n,zQ S m b.ns.notes n,zCF b.hs n (zQ S m b.ns.notes n) (zHW b.ns.notes (zFO S m b.ns.notes n)) b.hs.length⟩):=rfl
 have hlc:Hid (zMG (zEQ b.ns.reg (zQ S m b.ns.notes) b.of) n (zEQ b.ns.reg (zQ S m b.ns.notes) b.of).length=zEJ b.ns.reg (zQ S m b.ns.notes) b.of n):=lastC_pos hn hcb.out.1
 clear hv hT hB hS hn hvn hvr
 generalize zAB b S m n=H at *
 generalize b.of=o at *
 generalize b.ns.notes=N at *
 generalize b.ns.reg=R at *
 generalize b.hs=hs at *
 have CA:=zF (And.intro c0 (And.intro c1 (And.intro c2 c4)))
 unfold zJ at c0 c1
 clear c2 c4
 go_enter func94,ntmps94
 go_wp2_with fail
 generalize (w.alloc _).alloc _=w1 at *
 have HB1:=zF hb1
 have HL0:=zF L0
 clear c0 c1 hb1 L0
 refine (lettersOf03 _ _ _ _ R N S m hr1.out hn1.out hS1.out hNV.out hTT.out hm).mono ?_
 rintro e w2 ⟨vl,rfl,hvl,hb2⟩
 obtain ⟨al,capl,rfl,hml⟩:=zD hvl
 simp only [List.length_map] at hvl hml ⊢
 have c0:=zC hb2 CA.out.1
 have HB2:=zF hb2
 clear hb2
 unfold zJ at c0
 go_wp2_with fail
 clear c0
 refine (zFK _ _ R (zI zP HB2.out hr1.out) (by omega)).mono ?_
 rintro e w3 ⟨vd,rfl,hvd,hb3⟩
 have hvl3:=zI zN hb3 hvl
 have HB3:=zF (zA HB2.out hb3)
 clear hb3 HB2 hvl
 go_wp2_with fail
 refine (zOG _ _ (nums R) n hvd hNu.out).mono ?_
 rintro e w4 ⟨rfl,hb4⟩
 have hvl4:=zF (zI zN hb4 hvl3)
 have HB4:=zF (zA HB3.out hb4)
 clear hb4 HB3 hvl3 hvd
 have hix:(nums R).idxOf n < (nums R).length:=List.idxOf_lt_length_of_mem hNu.out
 have hixm:(nums R).idxOf n < ((nums R).map (zQ S m N)).length:=by rw [List.length_map];exact hix
 obtain ⟨bl,ol,rfl,hcl,hln⟩:=(zZ hvl4.out).2 _ hixm
 have hval:((nums R).map (zQ S m N))[(nums R).idxOf n]=zQ S m N n:=by rw [List.getElem_map];congr 1;exact List.getElem_idxOf hix
 rw [hval] at hcl
 have hixi:(((nums R).idxOf n:Nat) : Int) < (nums R).length:=by omega
 clear hln hval hixm
 generalize (nums R).idxOf n=ix at *
 have c0:=zC HB4.out CA.out.1
 have c2:=zC HB4.out CA.out.2.2.1
 have hc0:=zAF c0
 have hcl1:=zAF hcl
 have hLL:=zF (HL0.out.ext HB4.out)
 have hc08:=hLL.out.lt
 have L4:=zF (Lay.new w4 168 #[.int .i64 0,.int .i64 (zQ S m N n),.int .i64 (-1)])
 have hpa:=zF (partsAll02 (w4.alloc (.cells #[.int .i64 0,.int .i64 (zQ S m N n),.int .i64 (-1)] 168)) _ _ R (zQ S m N) o (zI zP (zA HB4.out (zB _ _)) hr1.out) (zI zN (zB _ _) hvl4.out) hRV.out hth.out hOf.out)
 generalize zQ S m N n=l at *
 unfold zJ at c0 c2 hcl
 rw [Nat.mul_one] at hcl
 go_wp2_with fail
 refine hpa.out.mono ?_
 rintro e w5 ⟨vi,rfl,hvi,hb5⟩
 obtain ⟨ai,capi,rfl,hmi⟩:=zD hvi.now
 have HVI:=zF hvi
 have LP:=zF (L4.out.ext hb5)
 have LZ:=zF (hLL.out.ext (zA (zB _ _) hb5))
 have HB5:=zF (zA HB4.out (zA (zB _ _) hb5))
 have hp1:w1.heap.size≤w4.heap.size:=HB4.out.size
 clear hvi L4 hLL hb5 c0 c2 hcl hcl1 hpa hvl4 HB4
 generalize w4.heap.size=p at *
 generalize zEQ R (zQ S m N) o=L at *
 go_wp2
 go_loopw [13] (fun i wr=>∃ k:Nat,i = .int .i64 k∧k≤L.length∧Lay wr p #[.int .i64 (zMG L n k),.int .i64 l,.int .i64 (-1)] 168∧Lay wr (w.heap.size+1) #[.int .i64 0,.int .i64 0,.int .i64 0] 168 ∧
  zEK [205] w5 wr∧Below w1.heap.size w1 wr) (fun i _=>L.length - (intOf i).toNat)
 case atStart=>exact ⟨0,rfl,by omega,LP.out,LZ.out,zNG _ _,HB5.out⟩
 case round =>
  obtain ⟨k,rfl,hk,hlp,hlz,hkp,hb⟩:=hrel
  have HLP:=zF hlp
  have HLZ:=zF hlz
  have HKP:=zF hkp
  have HB:=zF hb
  clear hlp hlz hkp hb
  by_cases hlt:k < L.length
  case pos =>
   obtain ⟨bi,oi,rfl,⟨p0,p1⟩,_⟩:=(zZ (HVI.out.keep HKP.out).now).2 k hlt
   have hyes:=zF (fun h=>lastC_yes (n:=n) hlt h)
   have hno:=zF (fun h=>lastC_no (n:=n) hlt h)
   unfold zJ at p0 p1
   generalize L[k]=x at *
   have q0:=HLP.out.cell 0 _ rfl
   have f0:=HLP.out.frozen 0
   have hl:=HLP.out.lt
   by_cases he:x.d=n
   ·have he':(x.d == n)=true:=by simpa using he
    have hy:=zF (hyes.out he)
    have hl2:=zF (zBC HLP.out 0 (.int .i64 x.c))
    have hz2:=zF (zBD HLZ.out (show w.heap.size+1≠p by omega) 0 (.int .i64 x.c))
    have hk2:=zF (HKP.out.trans (zHV (j:=0) (u:=.int .i64 x.c) (es:=[205]) HLP.out (by decide)))
    have hb2:=zF (zH (j:=0) (u:=.int .i64 x.c) hp1 HB.out)
    clear hyes hno he
    go_wp2
    go_roundw
    ·exact ⟨k+1,by go_num,by omega,by rw [hy.out];exact hl2.out,hz2.out,hk2.out,hb2.out⟩
    ·simp [intOf];omega
   ·have he':(x.d == n)=false:=by simpa using he
    have hy:=zF (hno.out he)
    clear hyes hno he
    go_wp2
    go_roundw
    ·exact ⟨k+1,by go_num,by omega,by rw [hy.out];exact HLP.out,HLZ.out,HKP.out,HB.out⟩
    ·simp [intOf];omega
  case neg =>
   obtain rfl:k=L.length:=by omega
   have c0:=zC HB.out CA.out.1
   have c1:=zC HB.out CA.out.2.1
   unfold zJ at c0 c1
   go_wp2_with fail
   clear c0 c1
   refine (by_of03 _ _ _ _ R N S m n (zI zP HB.out hr1.out) (zI zS HB.out hn1.out) (zI zN HB.out hS1.out) hNV.out hTT.out hm hNu.out).mono ?_
   rintro e w6 ⟨rfl,hb6⟩
   have hq0:Hid (zCF hs n l (zKN N (zFO S m N n) 0) hs.length = -1):=zOX hs n l hs.length
   have hqa:Hid (zHW N (zFO S m N n)=zKN N (zFO S m N n) N.length):=by unfold Hid zKN;rw [List.take_length]
   rw [hqa.out] at hSpec
   have HLP6:=zF (HLP.out.ext hb6)
   have HLZ6:=zF (HLZ.out.ext hb6)
   have HB6:=zF (zA HB.out hb6)
   rw [hlc.out] at HLP6
   clear hb6 HLP HLZ HB hqa hlc LP LZ HB5 HKP HVI
   generalize zFO S m N n=q at *
   generalize zEJ R (zQ S m N) o n=c at *
   go_wp2
   go_loopw [16] (fun i wq=>∃ k:Nat,i = .int .i64 k∧k≤N.length∧Lay wq p #[.int .i64 c,.int .i64 l,.int .i64 (zCF hs n l (zKN N q k) hs.length)] 168∧Lay wq (w.heap.size+1) #[.int .i64 0,.int .i64 0,.int .i64 0] 168 ∧
    Below w1.heap.size w1 wq) (fun i _=>N.length - (intOf i).toNat)
   case atStart=>exact ⟨0,rfl,by omega,by rw [hq0.out];exact HLP6.out,HLZ6.out,HB6.out⟩
   case round =>
    obtain ⟨k,rfl,hk,hlp,hlz,hb⟩:=hrel
    have HLP:=zF hlp
    have HLZ:=zF hlz
    have HB:=zF hb
    have c1:=zC HB.out CA.out.2.1
    clear hlp hlz hb
    unfold zJ at c1
    by_cases hlt:k < N.length
    case neg =>
     obtain rfl:k=N.length:=by omega
     have q0:wr.cell? ⟨p,0,none⟩=some (.int .i64 c):=HLP.out.cell 0 _ rfl
     have q1:wr.cell? ⟨p,1,none⟩=some (.int .i64 l):=HLP.out.cell 1 _ rfl
     have q2:wr.cell? ⟨p,2,none⟩=some (.int .i64 (zCF hs n l (zKN N q N.length) hs.length)):=HLP.out.cell 2 _ rfl
     have p0:wr.cell? ⟨w.heap.size+1,0,none⟩=some (.int .i64 0):=HLZ.out.cell 0 _ rfl
     have p1:wr.cell? ⟨w.heap.size+1,1,none⟩=some (.int .i64 0):=HLZ.out.cell 1 _ rfl
     have p2:wr.cell? ⟨w.heap.size+1,2,none⟩=some (.int .i64 0):=HLZ.out.cell 2 _ rfl
     have f0:=HLZ.out.frozen 0
     have f1:=HLZ.out.frozen 1
     have f2:=HLZ.out.frozen 2
     have hl:=HLZ.out.lt
     have hne:w.heap.size+1≠p:=by omega
     generalize zCF hs n l (zKN N q N.length) hs.length=z at *
     have hle:w.heap.size≤w.heap.size+1:=Nat.le_succ _
     have HB':=zF (zH (j:=2) (u:=.int .i64 z) hle (zH (j:=1) (u:=.int .i64 l) hle (zH (j:=0) (u:=.int .i64 c) hle (zA HB1.out HB.out))))
     clear HLP HLZ
     go_wp2
     refine bodyPost_ret (v:=.agg #[.int .i64 c,.int .i64 l,.int .i64 z]) (by simp [results,results94,go_sem,p0,p1,p2,hl]) rfl ?_
     exact ⟨by rw [hSpec.out],HB'.out⟩
    case pos =>
     obtain ⟨bn,on,rfl,⟨n0,n1,n2,n3,n4,n5,n6,n7,n8,n9⟩,_⟩:=(zZ (zI zS HB.out hn1.out)).2 k hlt
     have hyes:=zF (fun h1 h2=>useTo_yes (num:=q) hlt h1 h2)
     have hno:=zF (fun h=>useTo_no (num:=q) hlt h)
     unfold zJ at n0 n1 n2 n3 n4 n5 n6 n7 n8 n9
     generalize N[k]=x at *
     have HZ2:=fun (o:Obj)=>zF (HLZ.out.ext (zB wr o))
     by_cases he:x.num=q
     ·have he':(x.num == q)=true:=by simpa using he
      cases hu:x.use with
      | false =>
        rw [hu] at n8
        have hy:=zF (hno.out (fun h=>by rw [hu] at h;exact absurd h.2 (by simp)))
        clear hyes hno he'
        go_wp2
        go_roundw
        ·exact ⟨k+1,by go_num,by omega,by rw [hy.out];exact HLP.out.ext (zB _ _),HLZ.out.ext (zB _ _),zA HB.out (zB _ _)⟩
        ·simp [intOf];omega
      | true =>
        rw [hu] at n8
        have hy:=zF (hyes.out he hu)
        have hall:=zF (heapIn_all hs n l (zKN N q k))
        have h0:=zF (heapIn_zero hs n l (zCF hs n l (zKN N q k) hs.length))
        have hw1:IntKind.i64.wrap (l - 1)=l - 1:=IntWalk.i64_in _ (by have:=hlb.out;omega)
        clear hyes hno he'
        go_wp2
        go_loopw [18] (fun i wm=>∃ j:Nat,i = .int .i64 j∧j≤hs.length∧Lay wm p #[.int .i64 c,.int .i64 l,.int .i64 (zKT hs n l (zCF hs n l (zKN N q k) hs.length) j)] 168∧Lay wm (w.heap.size+1) #[.int .i64 0,.int .i64 0,.int .i64 0] 168 ∧
         Below w1.heap.size w1 wm) (fun i _=>hs.length - (intOf i).toNat)
        case atStart=>exact ⟨0,rfl,by omega,by rw [h0.out];exact HLP.out.ext (zB _ _),HLZ.out.ext (zB _ _),zA HB.out (zB _ _)⟩
        case round =>
         obtain ⟨j,rfl,hj,hlp,hlz,hb⟩:=hrel
         have HLPI:=zF hlp
         have HLZI:=zF hlz
         have HBI:=zF hb
         have c4:=zC HBI.out CA.out.2.2.2
         clear hlp hlz hb n0 n1 n2 n3 n4 n5 n6 n7 n8 n9 c1 HZ2
         unfold zJ at c4
         by_cases hlj:j < hs.length
         case pos =>
          obtain ⟨bh,oh,rfl,⟨g0,g1,_,_⟩,_⟩:=(zZ (zI zCL HBI.out hh1.out)).2 j hlj
          have hyes:=zF (fun h1 h2=>heapIn_yes (n:=n) (l:=l) (h0:=zCF hs n l (zKN N q k) hs.length) hlj h1 h2)
          have hno:=zF (fun h=>heapIn_no (n:=n) (l:=l) (h0:=zCF hs n l (zKN N q k) hs.length) hlj h)
          unfold zJ at g0 g1
          generalize hs[j]=y at *
          have q1:wr.cell? ⟨p,1,none⟩=some (.int .i64 l):=HLPI.out.cell 1 _ rfl
          have q2:=HLPI.out.cell 2 _ rfl
          have f2:=HLPI.out.frozen 2
          have hl:=HLPI.out.lt
          by_cases e1:y.d=n
          ·have e1':(y.d == n)=true:=by simpa using e1
           by_cases e2:y.l=l - 1
           ·have e2':(y.l == l - 1)=true:=by simpa using e2
            have hyy:=zF (hyes.out e1 e2)
            clear hyes hno e1 e2
            go_wp2
            go_quiet (fail)
            have q2n:=(HLPI.out.ext (zO wr nq)).cell 2 _ rfl
            have f2n:=(HLPI.out.ext (zO wr nq)).frozen 2
            have hln:=(HLPI.out.ext (zO wr nq)).lt
            have hl2:=zF (zBC (HLPI.out.ext (zO wr nq)) 2 (.int .i64 j))
            have hz2:=zF (zBD (HLZI.out.ext (zO wr nq)) (show w.heap.size+1≠p by omega) 2 (.int .i64 j))
            have hb2:=zF (zH (j:=2) (u:=.int .i64 j) hp1 (zA HBI.out (zO wr nq)))
            go_wp2
            go_roundw
            ·exact ⟨j+1,by go_num,by omega,by rw [hyy.out];exact hl2.out,hz2.out,hb2.out⟩
            ·simp [intOf];omega
           ·have e2':(y.l == l - 1)=false:=by simpa using e2
            have hyy:=zF (hno.out (fun h=>e2 h.2))
            clear hyes hno e1 e2
            go_wp2
            go_quiet (fail)
            go_wp2
            go_roundw
            ·exact ⟨j+1,by go_num,by omega,by rw [hyy.out];exact HLPI.out.ext (zO _ _),HLZI.out.ext (zO _ _),zA HBI.out (zO _ _)⟩
            ·simp [intOf];omega
          ·have e1':(y.d == n)=false:=by simpa using e1
           have hyy:=zF (hno.out (fun h=>e1 h.1))
           clear hyes hno e1
           go_wp2
           go_quiet (fail)
           go_wp2
           go_roundw
           ·exact ⟨j+1,by go_num,by omega,by rw [hyy.out];exact HLPI.out.ext (zO _ _),HLZI.out.ext (zO _ _),zA HBI.out (zO _ _)⟩
           ·simp [intOf];omega
         case neg =>
          obtain rfl:j=hs.length:=by omega
          have hlp2:=HLPI.out
          rw [hall.out] at hlp2
          have HLPJ:=zF hlp2
          clear hlp2
          go_wp2
          go_roundw
          ·exact ⟨k+1,by go_num,by omega,by rw [hy.out];exact HLPJ.out,HLZI.out,HBI.out⟩
          ·simp [intOf];omega
     ·have he':(x.num == q)=false:=by simpa using he
      have hy:=zF (hno.out (fun h=>he h.1))
      clear hyes hno he'
      go_wp2
      go_roundw
      ·exact ⟨k+1,by go_num,by omega,by rw [hy.out];exact HLP.out.ext (zB _ _),HLZ.out.ext (zB _ _),zA HB.out (zB _ _)⟩
      ·simp [intOf];omega
end Go.Proofs.YtpolpdegpbahiaaGreatDoor
