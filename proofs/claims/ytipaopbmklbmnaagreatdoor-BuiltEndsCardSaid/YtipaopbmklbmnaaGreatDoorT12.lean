/- Lemmas. -/
import Derived.Test.YtipaopbmklbmnaaGreatDoorT11
set_option linter.all false
set_option maxRecDepth 100000
set_option maxHeartbeats 0
namespace Go.Proofs.YtipaopbmklbmnaaGreatDoor
section
open Tryz
open Go.RowKit
attribute [local go_sem] zAE Oper.grows Oper.growUpon
open Classical in
noncomputable def zFZ (b:Built) (r:Report) : Int:=if zF b≠0 then zF b else if b.rs.length=10 then 9 else if zCA (addB b r) then 0 else 81
def RetAdd (b:Built) (r:Report) (w:World) (e:Ending) (w':World) : Prop :=
 Below w.heap.size w w'/\((zFZ b r≠0/\e = .returned (.tuple #[.agg #[.slice none 0 0,.slice none 0 0,.int .i64 0,.slice none 0 0,.slice none 0 0,.slice none 0 0],.int .i64 (zFZ b r)])) \/
  (zFZ b r=0/\∃ vr vn vm vh vs,e = .returned (.tuple #[.agg #[vr,vn,.int .i64 b.of,vm,vh,vs],.int .i64 0])/\BuiltN w.heap.size w' vr vn vm vh vs (addB b r)))
theorem addCode_bad {b:Built} {r:Report} (h:zF b≠0) : zFZ b r=zF b:=by unfold zFZ;rw [if_pos h]
theorem addCode_full {b:Built} {r:Report} (h:zF b=0) (h1:b.rs.length=10) : zFZ b r=9:=by unfold zFZ;rw [if_neg (by simpa using h),if_pos h1]
theorem addCode_ok {b:Built} {r:Report} (h:zF b=0) (h1:b.rs.length≠10) (h2:zCA (addB b r)) : zFZ b r=0:=by unfold zFZ;rw [if_neg (by simpa using h),if_neg h1,if_pos h2]
theorem addCode_no {b:Built} {r:Report} (h:zF b=0) (h1:b.rs.length≠10) (h2:¬ zCA (addB b r)) : zFZ b r=81:=by unfold zFZ;rw [if_neg (by simpa using h),if_neg h1,if_neg h2]
def BoxT (w:World) (g:Nat) (t:TypeId) : Prop:=∃ cur,w.heap[g]? = some (.cells cur t (0,0))
def BoxRep (r:Report) (v:Value) (w:World) : Prop :=
 ∃ bb,v = .slice (some ⟨bb,0,none⟩) 1 1/\zK w bb 0 (.int .i64 r.num)/\zK w bb 1 (.int .i64 r.m)/\zK w bb 2 (.int .i64 r.d)/\zK w bb 3 (.int .i64 r.l)/\zK w bb 4 (.int .u8 r.k)
theorem boxRep_stays (r:Report) : zED (BoxRep r):=fun _ _ _ hb ⟨bb,h,h0,h1,h2,h3,h4⟩=>⟨bb,h,zC hb h0,zC hb h1,zC hb h2,zC hb h3,zC hb h4⟩
theorem boxRep_cells {r:Report} {w:World} {bb:Nat} (h:zK w bb 0 (.int .i64 r.num)/\zK w bb 1 (.int .i64 r.m)/\zK w bb 2 (.int .i64 r.d)/\zK w bb 3 (.int .i64 r.l)/\zK w bb 4 (.int .u8 r.k)) :
  ∀ j u,(zOG r)[j]? = some u->w.cell? ((⟨bb,0,none⟩ : Addr).add j)=some u:=by
 obtain ⟨h0,h1,h2,h3,h4⟩:=h;intro j u hj;rw [zAZ];match j,hj with
 | 0,hj=>cases hj;exact h0
 | 1,hj=>cases hj;exact h1
 | 2,hj=>cases hj;exact h2
 | 3,hj=>cases hj;exact h3
 | 4,hj=>cases hj;exact h4
 | j+5,hj=>simp [zOG] at hj
theorem encR_one (r:Report) : ∀ u∈zOG r,u.oneCell'=true:=by
 intro u hu;simp only [zOG,List.mem_cons,List.not_mem_nil,or_false] at hu;rcases hu with rfl | rfl | rfl | rfl | rfl <;> rfl
theorem zCG {w0 w w':World} {g:Option Nat} (hb:Below w.heap.size w w') (h:w0.grownBy w g) : w0.grownBy w' g :=
 ⟨hb.os.trans h.os,hb.tape.trans h.tape,hb.output.trans h.output,Nat.le_trans h.size hb.size,fun k hk hne=>(hb.block k (Nat.lt_of_lt_of_le hk h.size)).trans (h.block k hk hne)⟩
theorem zAG {w0 w w':World} {g:Option Nat} (h:w0.grownBy w g) (h':w.grownBy w' g) : w0.grownBy w' g :=
 ⟨h'.os.trans h.os,h'.tape.trans h.tape,h'.output.trans h.output,Nat.le_trans h.size h'.size,fun k hk hne=>(h'.block k (Nat.lt_of_lt_of_le hk h.size) hne).trans (h.block k hk hne)⟩
theorem zBH (w w':World) (g:Option Nat) (h1:w'.os=w.os) (h2:w'.tape=w.tape) (h3:w'.output=w.output) (h4:w'.heap=w.heap) : w.grownBy w' g:=⟨h1,h2,h3,by rw [h4];exact Nat.le_refl _,fun k _ _=>by rw [h4]⟩
theorem zNL {w0 w:World} {g b o:Nat} {v:Value} (h:w0.grownBy w (some g)) (hne:b≠g) (hc:zK w0 b o v) : zK w b o v:=zAF (h.block b (zAD hc) (fun e=>hne (by cases e;rfl))) hc
theorem zOJ {w w':World} {base g t e:Nat} {sz n:Nat} {v:Value} {cs:List Value} (hown:w.ownsRow base e sz v n cs) (hgr:w.grownBy w' v.ownBlock) (hb:BoxT w g t) (hne:t≠e) : w'.heap[g]? = w.heap[g]?:=by
 obtain ⟨cur,hc⟩:=hb;refine hgr.block g (Array.getElem?_eq_some_iff.1 hc).1 (fun h=>?_);rcases hown.2 with ⟨rfl,_⟩ | ⟨g',cap,cur',rfl,_,hcur,_⟩
 ·simp [Value.ownBlock] at h
 ·simp [Value.ownBlock] at h;subst h;rw [hcur] at hc;cases hc;exact hne rfl
theorem own_boxT_ne {w:World} {base g t e:Nat} {sz n:Nat} {v:Value} {cs:List Value} (hown:w.ownsRow base e sz v n cs) (hb:BoxT w g t) (hne:t≠e) : v.ownBlock≠some g:=by
 obtain ⟨cur,hc⟩:=hb;intro h;rcases hown.2 with ⟨rfl,_⟩ | ⟨g',cap,cur',rfl,_,hcur,_⟩
 ·simp [Value.ownBlock] at h
 ·simp [Value.ownBlock] at h;subst h;rw [hcur] at hc;cases hc;exact hne rfl
section
variable {P:Program}
theorem zEG {o:Oper} {a:Act} {w:World} (s x:Operand) (t:TypeId) (ho:o.op = .call { callee:=.builtin .append,args:=#[s,x],argTypes:=#[t,t] })
  (base:Nat) (e:TypeId) (i:TypeInfo) (z:Value) (size bytes:Nat) (ht:P.underlying t=some (.slice e)) (hi:P.info? e=some i) (hz:i.zero=some z) (hsize:i.size=size) (hby:i.bytes=bytes) (hzs:z.cells.size=size) (hsz:0 < size)
  (v:Value) (n:Nat) (xs:List Value) (hs:a.eval s=v) (hown:w.ownsRow base e size v n xs) (x':Value) (ad:Addr) (m c:Nat) (hx':x' = .slice (some ad) m c) (news:List Value) (hx:a.eval x=x') (hl:news.length=m*size) (hnews:∀ j u,news[j]? = some u->w.cell? (ad.add j)=some u) (h1:∀ u∈news,u.oneCell'=true)
  (h63:n+m<=maxLen) (hbytes:(n+m)*bytes<=140737488355328) (hbase:base<=w.heap.size) {Cw:World->Prop} {T:World->World->Prop} {R:Value->World->Prop}
  (h:∀ v' w',w'.ownsRow base e size v' (n+m) (xs++news)->w.grownBy w' v.ownBlock->Cw w'/\T w w'/\R v' w') : o.wild P a Cw w T R:=by
 subst hx';obtain ⟨v',w',hrun,r1,r2,_⟩:=run_append_own (P:=P) w base t o.type e i z size bytes ht hi hz hsize hby hzs hsz v n xs hown ad m c news hl hnews h1 h63 hbytes hbase;unfold Oper.wild;simp [execOp,ho,resolve,invoke,builtin,hs,hx,hrun,Result.andThen];exact h v' w' r1 r2
end
structure PartN (base:Nat) (w:World) (vr vn vm vh:Value) (b:Built) : Prop where
 reg:Sl (Fr base 118 (zGI base)) 5 w vr b.ns.reg
 notes:Sl (Fr base 74 zBL) 10 w vn b.ns.notes
 ms:Sl (Fr base 3 zAM) 1 w vm b.ms
 hs:Sl (Fr base 42 zDO) 4 w vh b.hs
 of:I64 b.of
theorem PartN.add {base:Nat} {w:World} {vr vn vm vh vs:Value} {b:Built} {r:Report} (h:PartN base w vr vn vm vh b) (hr:Sl (Fr base 49 zAT) 5 w vs (insR b.rs r)) : BuiltN base w vr vn vm vh vs (addB b r):=⟨h.reg,h.notes,h.ms,h.hs,hr,h.of⟩
end
end Go.Proofs.YtipaopbmklbmnaaGreatDoor
