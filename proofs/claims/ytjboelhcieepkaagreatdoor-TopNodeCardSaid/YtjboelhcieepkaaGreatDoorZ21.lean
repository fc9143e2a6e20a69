/-
  merkles.Check accepts the tree of records and slots.
-/
import Derived.Test.YtjboelhcieepkaaGreatDoorZ20
import Derived.Test.YtjboelhcieepkaaGreatDoorQChB
namespace Go.Proofs.YtjboelhcieepkaaGreatDoor
set_option maxRecDepth 16384
open Go.RowKit
section
variable {E:Env}{n c l j nx:Nat}{R:Nat→VRec}{B:Nat→Bool}
theorem rr_at{n i:Nat}{R:Nat→VRec}(hi:i<n):rr n R i=R i:=by
 unfold rr
 rw [show Nat.blt i n=true from by rw [blt_iff];simpa using hi]
 rfl
theorem rr_s{n i:Nat}{R:Nat→VRec}:(rr n R i).s=0↔(i<n→(R i).s=0):=by
 by_cases h:i<n
 ·rw [rr_at h];simp [h]
 ·have:rr n R i=zrec:=by
   unfold rr
   rw [show Nat.blt i n=false from by rw [blt_iff];simpa using h]
   rfl
  rw [this]
  simp [h,zrec]
theorem emR0_iff{n j:Nat}{R:Nat→VRec}:emR R n 0 j=true↔(rr n R (4*j)).s=0∧(rr n R (4*j+1)).s=0∧(rr n R (4*j+2)).s=0∧(rr n R (4*j+3)).s=0:=by
 rw [emR_iff]
 simp only [rr_s]
 constructor
 ·intro h
  exact ⟨fun hi=>h _ hi (by simp),fun hi=>h _ hi (by simp;omega),fun hi=>h _ hi (by simp;omega),fun hi=>h _ hi (by simp;omega)⟩
 ·rintro ⟨h0,h1,h2,h3⟩ i hi hij
  have hij':i / 4=j:=by simpa using hij
  have:i=4*j∨i=4*j+1∨i=4*j+2∨i=4*j+3:=by omega
  rcases this with rfl|rfl|rfl|rfl
  ·exact h0 hi
  ·exact h1 hi
  ·exact h2 hi
  ·exact h3 hi
noncomputable def usL(n:Nat)(R:Nat→VRec)(j:Nat):Nat:=usN (usP (rr n R (4*j)) (rr n R (4*j+1)) (rr n R (4*j+2)) (rr n R (4*j+3)))
theorem usV_eq:(bif emR R n 0 j then 0 else (usL n R j-1)+1)=usL n R j:=by
 cases h:emR R n 0 j with
 |true =>
  have:=usN_zero.2 (emR0_iff.1 h)
  exact this.symm
 |false =>
  have:usL n R j≠0:=fun h0=>by
   have:=emR0_iff.2 (usN_zero.1 h0)
   rw [h] at this;cases this
  show usL n R j-1+1=_
  omega
theorem used_ob{Ee:Nat→VEnt}(hE:E.X=Xt):CallOb E 215 [.a (.q (.node (ndR n R Ee 0 j)))] [] [] nx (usV (fun j=>usL n R j-1) j (emR R n 0 j)) []:=by
 have hent:Enters E.X.P 215:=by rw [hE];exact enters (by kernel_rfl)
 refine obx_calls hent fun r vals w1 hp ha hm=>?_
 cases ha with|cons d1 t =>
  cases t
  cases d1 with|a d1 =>
   cases d1
   rw [hE]
   refine (used_call _ _ _ _ _ (mod8 j) w1 (hE▸hm.globs)).mono ?_
   rintro e w' ⟨rfl,hb⟩
   refine ⟨_,rfl,?_,hb⟩
   unfold usV
   rw [usV_eq]
   exact .v _
theorem j0_call{Ee:Nat→VEnt}(h1:1≤n)(h20:n≤20)(hj:j<cnt n 0){r:List Loc}{vals:List Value}{w:World}(ha:DenL r (argJ 0 j) vals)(hm:Mem (E0 Xt w) r (hpJ n c R Ee) 5 w):
 Calls Xt.P 279 vals.toArray w fun e w'=>e=.returned (.bool (emR R n 0 j))∧Below w.heap.size w w':=by
 have hmem:(j,emR R n 0 j)∈j0Dom n:=by
  simp only [j0Dom,List.mem_flatMap,List.mem_range]
  exact ⟨j,hj,by cases emR R n 0 j<;>simp⟩
 have h:=all_of (j0_any n h1 h20 c R Ee (fun j=>usL n R j-1)) hmem
 unfold j0Run j0Exp jRun at h
 simp only [Prod.mk.injEq] at h
 obtain ⟨h2,h3⟩:=h
 obtain ⟨⟨res,st⟩,h4,h5⟩:=Option.map_eq_some_iff.1 h2
 simp only at h5
 subst h5
 refine (evCall_ok (E:=E0 Xt w) hmx HJ_ok h4 ?_ ha hm).mono ?_
 ·intro ob hob
  have hob':ob∈(jX n c R Ee 0 j [.c [] (fun _=>usV (fun j=>usL n R j-1) j (emR R n 0 j)) []]).2:=hob
  rw [h3] at hob'
  simp only [List.mem_cons,List.not_mem_nil,or_false] at hob'
  subst hob'
  exact used_ob rfl
 ·rintro e w' ⟨q,v,rfl,hd,hm'⟩
  cases hd
  exact ⟨rfl,hm'.below⟩
theorem obJ_ok{Ee:Nat→VEnt}{k:Nat}{b:Bool}(h1:1≤n)(h20:n≤20)(hE:E.X=Xt)(hk:k<cnt n 0)(hb:emR R n 0 k=b):(obJ n c R Ee k b).Holds E:=by
 refine ob_fr hE (enters (by kernel_rfl)) fun r vals w hg ha hm=>?_
 rw [(fr_any n h1 h20 c R Ee).1] at hm
 rw [←hb]
 exact j0_call h1 h20 hk ha hm
theorem emR1_iff{n j:Nat}{R:Nat→VRec}(_hj:j<cnt n 1):emR R n 1 j=true↔∀k,k<prts n 1 j→emR R n 0 (4*j+k)=true:=by
 have hc:cnt n 0=(n+3) / 4:=rfl
 rw [emR_iff]
 constructor
 ·intro h k hk
  rw [emR_iff]
  intro i hi hik
  have hik':i / 4=4*j+k:=by simpa using hik
  have hk4:k<4:=by unfold prts at hk;omega
  exact h i hi (by show i / 16=j;omega)
 ·intro h i hi hij
  have hij':i / 16=j:=by simpa using hij
  refine emR_iff.1 (h (i / 4-4*j) ?_) i hi ?_
  ·unfold prts
   rw [if_neg (by decide)]
   show _<min 4 (cnt n 0-4*j)
   omega
  ·show i / 4=_
   omega
theorem j1_call{Ee:Nat→VEnt}(h1:1≤n)(h20:n≤20)(hh:1<hgt n)(hj:j<cnt n 1){r:List Loc}{vals:List Value}{w:World}(ha:DenL r (argJ 1 j) vals)(hm:Mem (E0 Xt w) r (hpJ n c R Ee) 5 w):
 Calls Xt.P 279 vals.toArray w fun e w'=>e=.returned (.bool (emR R n 1 j))∧Below w.heap.size w w':=by
 have hp4:∀k,k<prts n 1 j→4*j+k<cnt n 0:=fun k hk=>by
  unfold prts at hk
  rw [if_neg (by decide)] at hk
  have:k<min 4 (cnt n 0-4*j):=hk
  omega
 have key:∀f,f≤prts n 1 j→(∀k,k<f→emR R n 0 (4*j+k)=true)→(f≠prts n 1 j→emR R n 0 (4*j+f)=false) →
  Calls Xt.P 279 vals.toArray w fun e w'=>e=.returned (.bool (Nat.beq f (prts n 1 j)))∧Below w.heap.size w w':=by
  intro f hf ht hn
  have hmem:(j,f)∈j1Dom n:=by
   unfold j1Dom
   rw [show Nat.blt (hgt n) 2=false from by rw [blt_iff];simp;omega]
   simp only [cond_false,List.mem_flatMap,List.mem_range,List.mem_map]
   exact ⟨j,hj,f,by omega,rfl⟩
  have h:=all_of (j1_any n h1 h20 c R Ee) hmem
  unfold j1Run j1Exp jRun at h
  simp only [Prod.mk.injEq] at h
  obtain ⟨h2,h3⟩:=h
  obtain ⟨⟨res,st⟩,h4,h5⟩:=Option.map_eq_some_iff.1 h2
  simp only at h5
  subst h5
  refine (evCall_ok (E:=E0 Xt w) hmx HJ_ok h4 ?_ ha hm).mono ?_
  ·intro ob hob
   have hob':ob∈(jX n c R Ee 1 j (List.replicate f (evJ true)++bif Nat.beq f (prts n 1 j) then [] else [evJ false])).2:=hob
   rw [h3,List.mem_append,List.mem_map] at hob'
   rcases hob' with ⟨k,hk,rfl⟩|hob'
   ·rw [List.mem_range] at hk
    exact obJ_ok h1 h20 rfl (hp4 k (by omega)) (ht k hk)
   ·rw [beq_iff] at hob'
    by_cases e:f=prts n 1 j
    ·simp [e] at hob'
    ·simp only [e,decide_false,cond_false,List.mem_singleton] at hob'
     subst hob'
     exact obJ_ok h1 h20 rfl (hp4 f (by omega)) (hn e)
  ·rintro e w' ⟨q,v,rfl,hd,hm'⟩
   cases hd
   exact ⟨rfl,hm'.below⟩
 by_cases hall:∃k,k<prts n 1 j∧emR R n 0 (4*j+k)=false
 ·obtain ⟨k,a1,a2⟩:=hall
  obtain ⟨f,b1,⟨b2,b3⟩,b4⟩:=first_of (P:=fun k=>k<prts n 1 j∧emR R n 0 (4*j+k)=false) ⟨a1,a2⟩
  have e:emR R n 1 j=Nat.beq f (prts n 1 j):=by
   rw [beq_iff]
   have:f≠prts n 1 j:=by omega
   simp only [this,decide_false]
   rw [←Bool.not_eq_true,emR1_iff hj]
   intro hh
   have:=hh f b2
   rw [b3] at this;cases this
  rw [e]
  refine key f (by omega) (fun k hk=>?_) fun _=>b3
  cases hx:emR R n 0 (4*j+k) with
  |true=>rfl
  |false=>exact absurd ⟨by omega,hx⟩ (b4 k hk)
 ·have e:emR R n 1 j=Nat.beq (prts n 1 j) (prts n 1 j):=by
   rw [beq_iff]
   simp only [decide_true]
   refine (emR1_iff hj).2 fun k hk=>?_
   cases hx:emR R n 0 (4*j+k) with
   |true=>rfl
   |false=>exact absurd ⟨k,hk,hx⟩ hall
  rw [e]
  refine key _ (Nat.le_refl _) (fun k hk=>?_) fun h=>absurd rfl h
  cases hx:emR R n 0 (4*j+k) with
  |true=>rfl
  |false=>exact absurd ⟨k,hk,hx⟩ hall
theorem mem_chL{p:Nat×Nat}(h:p∈chL n):p.1<hgt n∧p.2<cnt n p.1:=by
 unfold chL at h
 simp only [List.mem_flatMap,List.mem_range,List.mem_map] at h
 obtain ⟨l,hl,j,hj,rfl⟩:=h
 exact ⟨hl,hj⟩
theorem obsC_ok{p:Nat×Nat}{w:World}(h1:1≤n)(h20:n≤20)(hp:p∈chL n):∀ob∈obsC n c R (enF n R B) p (emR R n p.1 p.2),ob.Any Xt w:=by
 obtain ⟨hl,hj⟩:=mem_chL hp
 have hh:=hgt_le n
 have hs:=ee_s (n:=n) (R:=R) (B:=B) (by omega:p.1<2) hj
 intro ob hob
 unfold obsC at hob
 rcases List.mem_append.1 hob with hob|hob
 ·cases he:emR R n p.1 p.2 with
  |true=>rw [he] at hob;cases hob
  |false =>
   rw [he] at hob
   simp only [cond_false,List.mem_cons,List.not_mem_nil,or_false] at hob
   subst hob
   show (!(decide ((ee n (enF n R B) p.1 p.2).dig=Sh.shaF (ndR n R (enF n R B) p.1 p.2).bytes)&&true))=false
   rw [ee_dig (by omega) hj he]
   simp
 ·simp only [List.mem_cons,List.not_mem_nil,or_false] at hob
  rcases hob with rfl|rfl|rfl
  ·show (!(((ee n (enF n R B) p.1 p.2).s:Int)==0))=!(emR R n p.1 p.2)
   rw [hs]
   cases emR R n p.1 p.2
   ·simp only [cond_false]
    have:((((bitN (B (num n p.1 p.2))+1:Nat):Int))==0)=false:=by
     rw [beq_eq_false_iff_ne];omega
    rw [this]
   ·rfl
  ·intro E hE _
   refine ob_fr hE (enters (by kernel_rfl)) fun r vals w hg ha hm=>?_
   rw [(fr_any n h1 h20 c R (enF n R B)).2.1] at hm
   have h01:p.1=0∨p.1=1:=by omega
   rcases h01 with e|e
   ·rw [e] at hj ⊢
    refine j0_call h1 h20 hj (vals:=vals) (r:=r) ?_ hm
    have ha':=ha
    rw [e] at ha'
    exact ha'
   ·rw [e] at hj ⊢
    refine j1_call h1 h20 (by omega) hj (vals:=vals) (r:=r) ?_ hm
    have ha':=ha
    rw [e] at ha'
    exact ha'
  ·show decide (((ee n (enF n R B) p.1 p.2).s:Int)=0)=emR R n p.1 p.2
   rw [hs]
   cases emR R n p.1 p.2
   ·simp only [cond_false]
    exact decide_eq_false (by omega)
   ·rfl
theorem ck_step{w:World}{p q:Pos}{obs:List ObY}{e:Bool}{k:Nat}{ls lh:List Nat}(h:(ckD e p).map (fun y=>(weak ls lh (runE S0 HJ Xt k y.1),y.2))=some (q,obs))(ho:∀ob∈obs,ob.Any Xt w){r0:List Loc}{Q0:Post}(h0:CollOk Xt.P Q0)(hq:Xp (E0 Xt w) r0 Q0 q):Xp (E0 Xt w) r0 Q0 p:=by
 obtain ⟨y,hy,hy2⟩:=Option.map_eq_some_iff.1 h
 simp only [Prod.mk.injEq] at hy2
 obtain ⟨e1,e2⟩:=hy2
 refine evDraw_ok (E:=E0 Xt w) (q:=y.1) (obs:=y.2) hmx HJ_ok h0 hy (by rw [e2];exact ho) ?_
 refine runRn_ok (S:=S0) (E:=E0 Xt w) hmx HJ_ok h0 k (weak_ok ls lh ?_)
 show Xp (E0 Xt w) r0 Q0 (weak ls lh (runE S0 HJ Xt k y.1))
 rw [e1]
 exact hq
theorem ck_steps{w:World}(h1:5≤n)(h20:n≤20){r0:List Loc}{Q0:Post}(h0:CollOk Xt.P Q0):∀k,k≤(chL n).length-1→Xp (E0 Xt w) r0 Q0 (PC n c R (enF n R B) (chK n k))→Xp (E0 Xt w) r0 Q0 (PC n c R (enF n R B) (chK n 0))
 |0,_,h=>h
 |k+1,hk,h=>by
  refine ck_steps h1 h20 h0 k (by omega) ?_
  have hr:=all_of (ck_any n h1 h20 c R (enF n R B)).2.1 (List.mem_range.2 (show k<(chL n).length-1 by omega))
  have hmem:chK n k∈chL n:=by
   unfold chK
   rw [List.getD_eq_getElem?_getD,List.getElem?_eq_getElem (show k<(chL n).length by omega)]
   exact List.getElem_mem _
  have hx:=all_of hr (show emR R n (chK n k).1 (chK n k).2∈[true,false] by cases emR R n (chK n k).1 (chK n k).2<;>simp)
  exact ck_step hx (obsC_ok (by omega) h20 hmem) h0 h
theorem check_call(h1:1≤n)(h20:n≤20){r:List Loc}{vals:List Value}{w:World}(ha:DenL r (ckA n c) vals)(hm:Mem (E0 Xt w) r (hpC n R (enF n R B)) 3 w):
 Calls Xt.P 186 vals.toArray w fun e w'=>e=.returned .nilIface∧Below w.heap.size w w':=by
 have fin:∀{q:Pos},(finP Xt 186 q).map (·.1)=some (.v .nilIface)→(∀Q0:Post,CollOk Xt.P Q0→Xp (E0 Xt w) r Q0 q→Xp (E0 Xt w) r Q0 (ckP n c R (enF n R B))) →
  Calls Xt.P 186 vals.toArray w fun e w'=>e=.returned .nilIface∧Below w.heap.size w w':=by
  intro q hq hseg
  obtain ⟨⟨res,st⟩,h4,h5⟩:=Option.map_eq_some_iff.1 hq
  simp only at h5
  subst h5
  refine (seg_call (E:=E0 Xt w) (g:=186) (args:=ckA n c) (fun Q0 h0 hx=>runRn_ok (S:=S0) (E:=E0 Xt w) hmx HJ_ok h0 14 (hseg Q0 h0 hx)) h4 ha hm).mono ?_
  rintro e w' ⟨q,v,rfl,hd,hm'⟩
  cases hd
  exact ⟨rfl,hm'.below⟩
 by_cases h5:n≤4
 ·exact fin (ck0_any n h1 h5 c R (enF n R B)) fun _ _ h=>h
 ·have hck:=ck_any n (by omega) h20 c R (enF n R B)
  have hpos:0<(chL n).length:=by
   have:∀m:Fin 16,0<(chL (m.1+5)).length:=by decide
   have h:=this ⟨n-5,by omega⟩
   simpa [show n-5+5=n by omega] using h
  have hmem:chK n ((chL n).length-1)∈chL n:=by
   unfold chK
   rw [List.getD_eq_getElem?_getD,List.getElem?_eq_getElem (show (chL n).length-1<(chL n).length by omega)]
   exact List.getElem_mem _
  have hx:=all_of hck.2.2 (show emR R n (chK n ((chL n).length-1)).1 (chK n ((chL n).length-1)).2∈[true,false] by cases emR R n (chK n ((chL n).length-1)).1 (chK n ((chL n).length-1)).2<;>simp)
  unfold ckEnd ckEnX at hx
  obtain ⟨y,hy,hy2⟩:=Option.map_eq_some_iff.1 hx
  simp only [Prod.mk.injEq] at hy2
  obtain ⟨e1,e2⟩:=hy2
  refine fin e1 fun Q0 h0 hq=>?_
  refine weak_ok lsC (lhC n (chK n 0)) ?_
  rw [hck.1]
  refine ck_steps (by omega) h20 h0 _ (Nat.le_refl _) ?_
  refine evDraw_ok (E:=E0 Xt w) (q:=y.1) (obs:=y.2) hmx HJ_ok h0 hy (by rw [e2];exact obsC_ok h1 h20 hmem) ?_
  exact runRn_ok (S:=S0) (E:=E0 Xt w) hmx HJ_ok h0 13 hq
theorem chk_all(h1:1≤n)(h20:n≤20):ChkOk n R (enF n R B):=by
 intro g c w hg hr
 have hva:=va_any n h1 h20 c R (enF n R B)
 unfold VaP vaRun vaExp at hva
 obtain ⟨y,hy,hy2⟩:=Option.map_eq_some_iff.1 hva
 simp only [Prod.mk.injEq] at hy2
 obtain ⟨e1,e2⟩:=hy2
 obtain ⟨⟨res,st⟩,h4,h5⟩:=Option.map_eq_some_iff.1 e1
 simp only at h5
 subst h5
 have htot:0<tot n:=by have:=num_lt (n:=n) (lv:=0) (i:=0) h1 h20 (by omega) (by unfold cnt;omega);omega
 have hm:Mem (E0 Xt w) ([]++[⟨g,0,c,none,fun _=>False⟩]) (hpOf [(0,some ⟨67,rowsT n R (enF n R B),2⟩)]) 1 w:=(Mem.start Xt w hg).addR (c:=c) (T:=67) AllF.start hr htot (Nat.le_refl _) (Nat.le_refl _) (rowsT_ok [] n R (enF n R B))
 refine (seg_call (E:=E0 Xt w) (vals:=[.agg #[.int .i64 (n:Int),.slice (some ⟨g,0,none⟩) (tot n) c]]) (g:=50) (args:=[.a (treR n c)]) (fun Q0 h0 hq=>?_) h4 ?_ hm).mono ?_
 ·refine runRn_ok (S:=S0) (E:=E0 Xt w) hmx HU_ok h0 14 (evDraw_ok (E:=E0 Xt w) (q:=y.1) (obs:=y.2) hmx HU_ok h0 hy ?_ (runRn_ok (S:=S0) (E:=E0 Xt w) hmx HU_ok h0 12 hq))
  intro ob hob
  rw [e2] at hob
  simp only [List.mem_cons,List.not_mem_nil,or_false] at hob
  subst hob
  intro E hE _
  refine ob_fr hE (enters (by kernel_rfl)) fun r vals w hg ha hm=>?_
  rw [(fr_any n h1 h20 c R (enF n R B)).2.2.1] at hm
  have ha':DenL r ([SV.a (layR n (nC n) (nF n)),.a (treR n c)].map (ren2 [0,nC n,nF n])) vals:=ha
  rw [(fr_any n h1 h20 c R (enF n R B)).2.2.2] at ha'
  exact check_call h1 h20 ha' hm
 ·exact .cons (.a (vs:=[.int .i64 (n:Int),.slice (some ⟨g,0,none⟩) (tot n) c]) (.node (us:=[.int .i64 (n:Int)]) (.one (.v _) rfl) (.one (.s (L:=⟨g,0,c,none,fun _=>False⟩) (o:=0) rfl) rfl) rfl rfl)) .nil
 ·rintro e w' ⟨q,v,rfl,hd,hm'⟩
  cases hd
  exact ⟨rfl,hm'.below⟩
end
end Go.Proofs.YtjboelhcieepkaaGreatDoor
namespace Go.Proofs.YtjboelhcieepkaaGreatDoor
set_option maxRecDepth 16384
open Go.RowKit
theorem Mem.addGh{E:Env}{r:List Loc}{hp:Tr}{nx:Nat}{w w':World}(hm:Mem E r hp nx w)(hE:E.X=Xt)(hb:Below w.heap.size w w')(L:Loc){t N:Nat}{l:List (Option VCnt)}(h1:w.heap.size≤L.g)(h2:L.g<w'.heap.size)(h3:∀j,L.cv j→w.heap.size≤j)(h4:∀j,L.cv j→j<w'.heap.size)(h:ghT t N w' L.g L.cv l):
 Mem E (r++[L]) (hp.put nx ⟨0,.q (.gh t N l),8⟩) (nx+1) w':=by
 have hw1:E.w0.heap.size≤w.heap.size:=hm.below.size
 refine hm.add hb L ⟨0,.q (.gh t N l),8⟩ (fun k hk=>?_) ⟨[],.q (.gh t N l),.inr (.inr ⟨by show 2≤8;decide,h2,fun j v hv=>by simp at hv,⟨fun h=>absurd h (by show ¬ 8=5;decide),fun h=>absurd h (by show ¬ 8=6;decide),fun _=>Nat.le_trans hw1 h1,fun _=>⟨t,N,l,rfl,fun j hj=>⟨h4 j hj,Nat.le_trans hw1 (h3 j hj)⟩,by rw [hE];exact h⟩⟩⟩)⟩ (.inr (by show 5≤8;decide))
 rcases hk with rfl|⟨_,hk⟩
 ·exact h1
 ·exact h3 k hk
theorem nrm8{hp:Tr}{n t N:Nat}{l:List (Option VCnt)}(h:nrmB (hp.get n)=some ⟨0,.q (.gh t N l),8⟩):hp.get n=some ⟨0,.q (.gh t N l),8⟩:=by
 cases h3:hp.get n with
 |none=>rw [h3] at h;cases h
 |some b =>
  rw [h3] at h
  have e:nrmH b=⟨0,.q (.gh t N l),8⟩:=Option.some.inj h
  have h8:b.k=8:=by have:=congrArg HB.k e;exact this
  rw [nrmH_8 h8] at e
  rw [e]
theorem DenC.toA{r:List Loc}{k:IntKind}{n:Nat}{l:List Nat}{us:List Value}(h:DenC r (.arr k n l) us)(r':List Loc):DenC r' (.arr k n l) us:=by cases h with|arr h=>exact .arr h
section
variable {w:World}{bl ep ma:Nat}{pl sl:List Nat}{pp sp:SV}{n n2 n3 lp ls:Nat}
theorem of_ob(hb:bl<256)(hn:n=1+bl%20)(hpp:PPok pp lp n2)(hsp:SPok sp ls n3):
 (obOf (vp0 bl ep ma pl sl) pp sp n2 n3 n (rootB (vp0 bl ep ma pl sl) n lp ls) (LF (vp0 bl ep ma pl sl) n lp ls)).Holds (E0 Xt w):=by
 obtain ⟨x,hx⟩:∃x,x=vp0 bl ep ma pl sl:=⟨_,rfl⟩
 rw [←hx]
 intro r vals w1 hp ha hm hbs
 refine ⟨fun w'=>enters (by kernel_rfl) _ w',?_⟩
 have hfr:=hm.fr (ns:=[0,1]) rfl hbs
 have e:frH [0,1] [some ⟨5,.arr .u8 n2 x.pl,2⟩,some ⟨5,.arr .u8 n3 x.sl,2⟩]=hp0 x n2 n3:=by kernel_rfl
 rw [e] at hfr
 cases ha with|cons d1 t =>
  cases t
  cases d1 with|a d1 =>
   have hv:DenC (renR r [0,1]) (vR x pp sp) _:=vR_fix hpp.fix hsp.fix r _ _ (fun k hk M hM=>by
    have h01:k=0∨k=1:=by omega
    rcases h01 with rfl|rfl
    ·show some ((r[0]?).getD loc0)=some M
     rw [hM];rfl
    ·show some ((r[1]?).getD loc0)=some M
     rw [hM];rfl) d1
   rw [hx] at hv hfr
   refine (vof_any hb hn hpp hsp hfr hv).mono ?_
   rintro e' w' ⟨us,L,hr,rfl,hcv,hge,hcvge,hd,hbw⟩
   subst hx
   have hlen:r.length=3:=hm.len
   refine ⟨[L],_,rfl,.a (hd _ 3 (by rw [←hlen];simp)),?_⟩
   refine hm.addGh rfl hbw L hge hr.hg hcvge (fun j hj=>hr.hcv j (by rw [hcv];exact hj)) (t:=secV n+2) (N:=1000) ⟨?_,?_⟩
   ·have h0:=hr.hr
    rw [hcv] at h0
    exact refAt_m _ _ _ _ _ _ hr.hN h0
   ·exact (LF_ok _ n lp ls).1
theorem disk_ob{x:VP}{rt:List Nat}{L:List (Option VCnt)}(h1:1≤n)(h20:n≤20)(hL:L.length=secs n)(hlen:LenOk L):(ObY.c (obDk x n rt L (qOf L (secs n)))).Any Xt w:=by
 intro E hE hw r vals w1 hp ha hm hbs
 have hent:Enters E.X.P 7:=by rw [hE];exact enters (by kernel_rfl)
 refine ⟨fun w'=>hent _ w',?_⟩
 have hbs':[nrmB (hp.get 3)]=[some (ghN n L)]:=hbs
 simp only [List.cons.injEq,and_true] at hbs'
 have e3:=nrm8 hbs'
 cases ha with|cons d1 t =>
  cases t
  cases d1 with|a d1 =>
   have hf:=packF_inv d1
   cases hf with|cons g1 hf=>cases hf with|cons g2 hf=>cases hf with|cons g3 hf=>cases hf with|cons g4 hf=>cases hf with|cons g5 hf=>cases hf with|cons g6 hf=>cases hf with|cons g7 hf=>cases hf with|cons g8 hf=>cases hf with|cons g9 hf=>cases hf with|cons g10 hf =>
    cases hf
    cases g4 with|one g4 g4'=>cases g4 with|@gs _ _ c3 L3 hq3 hc3 =>
     obtain ⟨hg3,hlt3,hcv3⟩:=gh_get hm hE e3 hq3
     cases g8 with|@one _ y8 g8 g8'=>cases g9 with|@one _ y9 g9 g9'=>cases g10 with|@one _ y10 g10 g10' =>
      rw [hE]
      refine (disk_any (d:=⟨n,x.el,x.ml,Sh.shaF rt,some ⟨L3.g,0,none⟩,c3,.int .u64 (IntKind.u64.wrap ((x.ep:Nat):Int)),.int .u64 1000,y8,y9,y10⟩) (L:=L) h1 h20 rfl ⟨1000,L3.cv,Nat.le_refl _,hlt3,hcv3,hg3.1⟩ hL hlen (hE▸hm.globs) _ ?_).mono ?_
      ·exact DenC.cat (g1.toV []) (DenC.cat (g2.toA []) (DenC.cat (g3.toA []) (DenC.cat (.one (.v (.slice (some ⟨L3.g,0,none⟩) (secs n) c3)) rfl) (DenC.cat (g5.toA []) (DenC.cat (g6.toV []) (DenC.cat (g7.toV []) (DenC.cat (.one (.v _) g8') (DenC.cat (.one (.v _) g9') (DenC.cat (.one (.v _) g10') .nil)))))))))
      ·rintro e' w' ⟨g,c,hk,rfl,hge,hcvge,hbw⟩
       have hLn:(r++[(⟨g,0,0,none,hk.cv⟩:Loc)])[5]?=some ⟨g,0,0,none,hk.cv⟩:=by
        have hlen:r.length=5:=hm.len
        rw [←hlen];simp
       refine ⟨[⟨g,0,0,none,hk.cv⟩],_,rfl,?_,?_⟩
       ·exact .a (vs:=[.int .i64 (secs n:Int),.int .i64 (qOf L (secs n)),.slice (some ⟨g,0,none⟩) 1 c]) (DenC.cat (.one (.v _) rfl) (DenC.cat (.one (.v _) rfl) (DenC.cat (.one (.gs hLn hk.hc) rfl) .nil)))
       ·exact hm.addGh hE hbw ⟨g,0,0,none,hk.cv⟩ hge hk.hg hcvge hk.hcv (t:=1) (N:=0) hk.hd
end
def plcK(n k:Nat):Nat×Nat:=(plcs n).getD k (0,0)
noncomputable def XR(n:Nat)(R:Nat→VRec)(Ee:Nat→VEnt)(k:Nat):VNode:=ndR n R Ee (plcK n k).1 (plcK n k).2
theorem map_idx{α β:Type}(l:List α)(d:α)(f:α→β):l.map f=(List.range l.length).map fun i=>f (l.getD i d):=by
 apply List.ext_getElem?
 intro i
 rw [List.getElem?_map,List.getElem?_map]
 by_cases hi:i<l.length
 ·rw [List.getElem?_range hi];simp [hi]
 ·rw [List.getElem?_eq_none (by omega),List.getElem?_eq_none (by simpa using hi)];rfl
theorem rowsT_X(n:Nat)(R:Nat→VRec)(Ee:Nat→VEnt):rowsT n R Ee=rowX (tot n) (XR n R Ee):=by
 unfold rowsT rowX
 rw [map_idx (plcs n) (0,0),plcs_len]
 rfl
theorem int3_ok(r:List Loc):∀l:List Nat,DenC r (int3 l) (nv .i64 l)
 |[]=>.nil
 |_::l=>DenC.cat (us:=[_]) (.one (.v _) rfl) (int3_ok r l)
theorem root_num{n:Nat}(h1:1≤n)(h20:n≤20):num n (hgt n) 0=tot n-1:=by
 have:∀m:Fin 20,num (m.1+1) (hgt (m.1+1)) 0=tot (m.1+1)-1:=by decide
 have h:=this ⟨n-1,by omega⟩
 simpa [show n-1+1=n by omega] using h
theorem bL_at{m k:Nat}{S:Nat→Bool}(h:k<m):bL m S k=S k:=by unfold bL bOf lst;exact getD_map h
theorem Mem.add2{E:Env}{r:List Loc}{hp:Tr}{nx p s T1 T2:Nat}{w w':World}{c1 c2:Rp SV}{v1 v2:List Value}(hm:Mem E r hp nx w)(hb:Below w.heap.size w w')(hp1:w.heap.size≤p)(hs1:w.heap.size≤s)(hne:p≠s)(b1:Blk w' p T1 v1.toArray)(b2:Blk w' s T2 v2.toArray)(d1:∀r,DenC r c1 v1)(d2:∀r,DenC r c2 v2):
 Mem E (r++[⟨p,0,0,none,fun _=>False⟩]++[⟨s,0,0,none,fun _=>False⟩]) ((hp.put nx ⟨T1,c1,0⟩).put (nx+1) ⟨T2,c2,0⟩) (nx+1+1) w':=by
 have hw1:E.w0.heap.size≤w.heap.size:=hm.below.size
 have hm1:=hm.add1 hb ⟨p,0,0,none,fun _=>False⟩ ⟨T1,c1,0⟩ hp1 ⟨v1,d1 _,.inl ⟨rfl,Nat.le_trans hw1 hp1,rfl,b1⟩⟩ (.inl (by show 0<2;decide))
 refine hm1.addO (Below.refl _ _) ⟨s,0,0,none,fun _=>False⟩ ⟨T2,c2,0⟩ (fun k hk=>.inr ?_) ⟨v2,d2 _,.inl ⟨rfl,Nat.le_trans hw1 hs1,rfl,b2⟩⟩ (.inl (by show 0<2;decide))
 obtain rfl:k=s:=hk.eq (by show 0≠8;decide)
 refine ⟨fun hu=>?_,fun i c M hc hM hcov=>?_⟩
 ·have h2:=(hm.fz k hu).1
  have h3:=hm.up
  omega
 ·rw [Tre.get_put] at hc
  by_cases hi:i=nx
  ·subst hi
   rw [if_pos rfl] at hc
   cases hc
   rw [show (r++[(⟨p,0,0,none,fun _=>False⟩:Loc)])[i]?=some ⟨p,0,0,none,fun _=>False⟩ from by rw [←hm.len];simp] at hM
   cases hM
   exact hne (hcov.eq (by show 0≠8;decide)).symm
  ·rw [if_neg hi] at hc
   obtain ⟨M',hM',_⟩:=hm.blk i c hc
   rw [List.getElem?_append_left (get_lt hM')] at hM
   have:=hm.covOf hc hM hcov
   omega
section
variable {w:World}{bl ep ma:Nat}{pl sl:List Nat}{n lp ls:Nat}
noncomputable def RT_(x:VP)(n lp:Nat):Nat→VRec:=rL n (Rv x lp)
noncomputable def BT_(x:VP)(n ls:Nat):Nat→Bool:=bL (tot n) (Sw x ls n)
theorem dskHas(x:VP)(h1:1≤n)(h20:n≤20):DskHas n (RT_ x n lp) (BT_ x n ls) (LF x n lp ls):=by
 intro l j hl hj hor
 have h3:=hgt_le n
 have:=LF_get x (lp:=lp) (ls:=ls) h1 h20 hl hj (by
  unfold emT
  rw [beq_iff]
  by_cases e:l=hgt n
  ·simp [e]
  ·simp only [e,decide_false,cond_false]
   rcases hor with h|h
   ·exact absurd h e
   ·show (!(emR (rL n (Rv x lp)) n l j))=true
    have h':emR (rL n (Rv x lp)) n l j=false:=h
    rw [h'];rfl)
 unfold BT_
 rw [bL_at (num_lt h1 h20 (by omega) hj)]
 exact this
theorem tree_ob{x:VP}(hx:x.ep<256)(h1:1≤n)(h20:n≤20){q:Int}:
 (ObY.c (obTr (tot n) x n (rootB x n lp ls) (LF x n lp ls) q (rowX (tot n) (XR n (RT_ x n lp) (enF n (RT_ x n lp) (BT_ x n ls)))) (slotsR n (RT_ x n lp) (BT_ x n ls)))).Any Xt w:=by
 intro E hE hw r vals w1 hp ha hm hbs
 have hent:Enters E.X.P 6:=by rw [hE];exact enters (by kernel_rfl)
 refine ⟨fun w'=>hent _ w',?_⟩
 have hbs':[nrmB (hp.get 5)]=[some (gh1 (LF x n lp ls))]:=hbs
 simp only [List.cons.injEq,and_true] at hbs'
 have e5:=nrm8 hbs'
 cases ha with|cons d1 t=>cases t with|cons d2 t=>cases t with|cons d3 t =>
  cases t
  cases d1
  cases d2 with|a d2 =>
   have hf:=packF_inv d2
   cases hf with|cons f1 hf=>cases hf with|cons f2 hf=>cases hf with|cons f3 hf =>
    cases hf
    rw [one_inv f1,one_inv f2]
    cases f3 with|one f3 _=>cases f3 with|@gs _ _ c5 L5 hq5 hc5 =>
     obtain ⟨hg5,hlt5,hcv5⟩:=gh_get hm hE e5 hq5
     cases d3 with|a d3 =>
      rw [hE]
      have htr:=tree_call (w:=w1) (L:=LF x n lp ls) (g:=L5.g) (c0:=c5) (q:=q) (e:=IntKind.u64.wrap ((x.ep:Nat):Int)) (m:=.int .u64 1000) (R:=RT_ x n lp) (B:=BT_ x n ls) h1 h20 (hE▸hm.globs) ⟨L5.cv,hlt5,hc5,hcv5,hg5⟩ (dskHas x h1 h20) (by
       rw [root_num h1 h20]
       unfold BT_
       rw [bL_at (by have:=tot_pos h1 h20;omega)]
       have e1:IntKind.u64.wrap ((x.ep:Nat):Int)=((x.ep:Nat):Int):=by
        have hh:((x.ep:Nat):Int)<256:=by exact_mod_cast hx
        exact IntWalk.u64_in _ (by omega)
       rw [e1,wrap_bit]
       unfold Sw
       rw [if_pos rfl]) rfl (chk_all h1 h20) (cellR_inv d3)
      refine htr.mono ?_
      rintro e' w' ⟨p,s,rfl,hp1,hs1,hne,b1,b2,hbw⟩
      have hm2:=hm.add2 hbw hp1 hs1 hne b1 b2 (c1:=rowX (tot n) (XR n (RT_ x n lp) (enF n (RT_ x n lp) (BT_ x n ls)))) (c2:=int3 (slotsR n (RT_ x n lp) (BT_ x n ls))) (fun r=>by rw [←rowsT_X];exact rowsT_ok r _ _ _) (fun r=>int3_ok r _)
      have hlen:r.length=6:=hm.len
      have hl6:(r++[(⟨p,0,0,none,fun _=>False⟩:Loc)]++[⟨s,0,0,none,fun _=>False⟩])[6]?=some ⟨p,0,0,none,fun _=>False⟩:=by
       rw [List.getElem?_append_left (by simp [hlen])]
       rw [←hlen];simp
      have hl7:(r++[(⟨p,0,0,none,fun _=>False⟩:Loc)]++[⟨s,0,0,none,fun _=>False⟩])[7]?=some ⟨s,0,0,none,fun _=>False⟩:=by
       have:(r++[(⟨p,0,0,none,fun _=>False⟩:Loc)]).length=7:=by simp [hlen]
       rw [←this];simp
      refine ⟨[⟨p,0,0,none,fun _=>False⟩,⟨s,0,0,none,fun _=>False⟩],_,rfl,?_,?_⟩
      rotate_left
      ·rw [show r++[(⟨p,0,0,none,fun _=>False⟩:Loc),⟨s,0,0,none,fun _=>False⟩]=r++[(⟨p,0,0,none,fun _=>False⟩:Loc)]++[⟨s,0,0,none,fun _=>False⟩] by simp]
       exact hm2
      rw [show r++[(⟨p,0,0,none,fun _=>False⟩:Loc),⟨s,0,0,none,fun _=>False⟩]=r++[(⟨p,0,0,none,fun _=>False⟩:Loc)]++[⟨s,0,0,none,fun _=>False⟩] by simp]
      refine .t (.cons (.a (vs:=[.int .i64 (n:Int),.slice (some ⟨p,0,none⟩) (tot n) (tot n)]) (.node (us:=[.int .i64 (n:Int)]) (.one (.v _) rfl) (.one (.s hl6) rfl) rfl rfl)) (.cons (.s hl7) (.cons (.a (vs:=[.int .i64 0,.int .u8 0]) (.node (us:=[.int .i64 0]) (.one (.v _) rfl) (.one (.v _) rfl) rfl rfl)) (.cons (.v _) .nil))))
end
end Go.Proofs.YtjboelhcieepkaaGreatDoor
namespace Go.Proofs.YtjboelhcieepkaaGreatDoor
set_option maxRecDepth 16384
open Go.RowKit
theorem mn_le(k:Nat):mn k≤5:=by
 unfold mn
 rw [ble_iff]
 by_cases h:k≤5
 ·simp [h]
 ·simp [h]
theorem mn_mx(k:Nat):(k≤5∧mn k=k∧mx k=5)∨(5<k∧mn k=5∧mx k=k):=by
 unfold mn mx
 rw [ble_iff]
 by_cases h:k≤5
 ·simp [h]
 ·refine .inr ?_
  simp only [h,decide_false,cond_false,and_true]
  omega
theorem byt_rep(n:Nat):Sh.Byt (List.replicate n 0):=fun x hx=>by rw [List.eq_of_mem_replicate hx];decide
noncomputable def mkC(l:List Nat)(N:Nat)(hl:l.length=N)(hb:Sh.Byt l)(hN:137≤N):Cts N where
 a k:=l.take (mn k)
 b k:=if k≤N then (l.drop (mn k)).take (mx k-mn k) else List.replicate (mx k-mn k) 0
 c k:=l.drop (mx k)
 ha k:=by rw [List.length_take];have:=mn_le k;omega
 hb k:=by
  by_cases h:k≤N
  ·rw [if_pos h,List.length_take,List.length_drop]
   rcases mn_mx k with ⟨h1,h2,h3⟩|⟨h1,h2,h3⟩<;>omega
  ·rw [if_neg h,List.length_replicate]
 hc k:=by rw [List.length_drop,hl]
 ba k:=fun x hx=>hb x (List.mem_of_mem_take hx)
 bb k:=by
  by_cases h:k≤N
  ·rw [if_pos h];exact fun x hx=>hb x (List.mem_of_mem_drop (List.mem_of_mem_take hx))
  ·rw [if_neg h];exact byt_rep _
 bc k:=fun x hx=>hb x (List.mem_of_mem_drop hx)
theorem mkC_all{l:List Nat}{N:Nat}{hl:l.length=N}{hb:Sh.Byt l}{hN:137≤N}{k:Nat}(hk:k<137):(mkC l N hl hb hN).a k++((mkC l N hl hb hN).b k++(mkC l N hl hb hN).c k)=l:=by
 show l.take (mn k)++((if k≤N then (l.drop (mn k)).take (mx k-mn k) else List.replicate (mx k-mn k) 0)++l.drop (mx k))=l
 rw [if_pos (by omega)]
 have e:l.drop (mx k)=(l.drop (mn k)).drop (mx k-mn k):=by
  rw [List.drop_drop]
  congr 1
  rcases mn_mx k with ⟨h1,h2,h3⟩|⟨h1,h2,h3⟩<;>omega
 rw [e,List.take_append_drop,List.take_append_drop]
section
variable {N:Nat}{C:Cts N}{k:Nat}{l:List Nat}
theorem P12(h:C.a k++(C.b k++C.c k)=l):P1c C k++P2c C k=l:=by
 by_cases h0:k=0
 ·subst h0
  have ha:C.a 0=[]:=List.eq_nil_of_length_eq_zero (C.ha 0)
  show C.a 0++(C.a 0++(C.b 0++C.c 0))=l
  rw [h,ha]
  rfl
 ·unfold P1c P2c
  rw [ble_iff,beq_iff]
  by_cases h5:k≤5
  ·simp only [h5,h0,decide_true,decide_false,cond_true,cond_false]
   exact h
  ·simp only [h5,h0,decide_false,cond_false]
   rw [List.append_assoc]
   exact h
theorem P3d(h:C.a k++(C.b k++C.c k)=l):P3c C k=l.drop 5:=by
 unfold P3c
 rw [blt_iff]
 have ha:=C.ha k
 have hb:=C.hb k
 by_cases h5:k<5
 ·simp only [h5,decide_true,cond_true]
  rcases mn_mx k with ⟨h1,h2,h3⟩|⟨h1,h2,h3⟩
  ·rw [←h,←List.append_assoc,List.drop_append_of_le_length (by rw [List.length_append];omega),List.drop_of_length_le (by rw [List.length_append];omega)]
   rfl
  ·omega
 ·simp only [h5,decide_false,cond_false]
  have h5':(C.a k).length=5:=by rcases mn_mx k with ⟨h1,h2,h3⟩|⟨h1,h2,h3⟩<;>omega
  rw [←h,List.drop_append_of_le_length (by omega),List.drop_of_length_le (by omega)]
  rfl
theorem row3_ok(h:C.a k++(C.b k++C.c k)=l)(r:List Loc):DenC r (row3 C k) (nv .u8 l):=by
 have e:nv .u8 l=nv .u8 (C.a k)++(nv .u8 (C.b k)++(nv .u8 (C.c k)++[])):=by
  rw [←h]
  simp [nv]
 rw [e]
 exact DenC.cat (.q (.byt ⟨C.a k,mn k,C.ha k,C.ba k⟩)) (DenC.cat (.q (.byt ⟨C.b k,mx k-mn k,C.hb k,C.bb k⟩)) (DenC.cat (.q (.byt ⟨C.c k,N-mx k,C.hc k,C.bc k⟩)) .nil))
end
theorem neL_self(l:List Nat):neL (Sh.shaF l) l=false:=by unfold neL;simp
theorem beB4{ix:Nat}(h:ix≤7):Sh.beB ix 4=[0,0,0,ix]:=by
 have:∀m:Fin 8,Sh.beB m.1 4=[0,0,0,m.1]:=by decide
 exact this ⟨ix,by omega⟩
theorem obsK_ok{N lv ix k:Nat}{l rest:List Nat}{C:Cts N}{w:World}(h:C.a k++(C.b k++C.c k)=l)(hl:l=[lv]++([0,0,0,ix]++rest)):∀ob∈obsK lv ix (Sh.shaF l) C k,ob.Any Xt w:=by
 intro ob hob
 unfold obsK at hob
 simp only [List.mem_cons,List.not_mem_nil,or_false] at hob
 have h12:=P12 h
 rcases hob with rfl|rfl|rfl
 ·show neL (Sh.shaF l) [[lv],[0,0,0,ix],P3c C k].flatten=false
  rw [P3d h]
  have e:[[lv],[0,0,0,ix],l.drop 5].flatten=l:=by
   have e2:l.drop 5=rest:=by rw [hl];rfl
   rw [e2,hl];simp
  rw [e];exact neL_self l
 ·show neL (Sh.shaF l) (([]++P1c C k)++P2c C k)=false
  rw [List.nil_append,h12];exact neL_self l
 ·show neL (Sh.shaF l) [P1c C k,P2c C k].flatten=false
  have e:[P1c C k,P2c C k].flatten=l:=by simpa using h12
  rw [e];exact neL_self l
theorem cut_ok{w:World}{Q0:Post}{pe:Pos}(ls ns:List Nat)(B:Nat)(hk:plainK pe.k=true)(hq:Xp (E0 Xt w) [] Q0 (cutV ls ns B pe)):Xp (E0 Xt w) [] Q0 pe:=by
 have h4:Xp (E0 Xt w) [] Q0 (weakX ns pe):=renum_ok ls ns B hk hq
 intro r vs w' Q hr hs hm hk
 exact h4 r vs w' Q hr hs (keepY_ok hm ns) hk
theorem kInt_eq{cut:Nat}(h:cut<256):kInt cut=((cut%137:Nat):Int):=by
 unfold kInt
 rw [IntWalk.i64_in (Int.ofNat cut) (by constructor<;>simp<;>omega)]
 rfl
section
variable {w:World}{n cut T i:Nat}{X:Nat→VNode}
theorem pr_recast{Q0:Post}{n N k:Nat}{c:SV}{brow brow' row:Rp SV}{dg:List Nat}(hrow:∀r us,DenC r (nrm brow) us→DenC r brow' us)(h:Xp (E0 Xt w) [] Q0 (PRr T i n N c (i64v k) brow' dg row)):Xp (E0 Xt w) [] Q0 (PRr T i n N c (i64v k) brow dg row):=by
 intro r vs w' Q hr hs hm hk
 have hb:(PRr T i n N c (i64v k) brow dg row).st.hp.get 2=some ⟨5,brow,0⟩:=by kernel_rfl
 have hm':=hm.recast hb (by show ¬ 0=8;decide) brow' (hrow r)
 have e:(PRr T i n N c (i64v k) brow dg row).st.hp.put 2 ⟨5,brow',0⟩=(PRr T i n N c (i64v k) brow' dg row).st.hp:=by kernel_rfl
 rw [e] at hm'
 exact h r vs w' Q hr hs hm' hk
theorem dig_ob{E:Env}{nd:VNode}{nx:Nat}(hE:E.X=Xt):CallOb E 9 [.a (.q (.node nd))] [] [] nx (digR (Sh.shaF nd.bytes) nx) []:=by
 have hent:Enters E.X.P 9:=by rw [hE];exact enters (by kernel_rfl)
 refine obx_calls hent fun r vals w1 hp ha hm=>?_
 cases ha with|cons d1 t =>
  cases t
  cases d1 with|a d1 =>
   cases d1
   rw [hE]
   refine (callR_val hmx H3_ok (digN nd) (.cons (.a (.q (.node nd))) .nil) (hE▸hm.globs)).mono ?_
   rintro e w' ⟨rfl,hb⟩
   have e2:[nd.bytes].flatten=nd.bytes:=by simp
   refine ⟨_,rfl,.t (.cons (.a (vs:=(At.sha [nd.bytes].flatten).vals) ?_) (.cons (.v _) .nil)),hb⟩
   rw [e2]
   exact .arr (shaF_len _)
theorem rowG_self:rowX T X=rowG T i (X i) X:=by
 unfold rowX rowG
 congr 1
 refine List.map_congr_left fun k _=>?_
 rw [beq_iff]
 by_cases h:k=i
 ·subst h;simp
 ·simp [h]
def KLf(T i ix:Nat):Prop:=∀k,k<137→∀(n cut:Nat) (dg:List Nat) (C:Cts 185) (X:Nat→VNode) (x0 x1 x2 x3:VRec) (h:ix≤7),kX T i n 185 (cutS cut) dg C (rowG T i (.leaf ix x0 x1 x2 x3 h) X) k=some (QLr T (i+1) n (cutS cut) (rowG T i (.leaf ix x0 x1 x2 x3 h) X),obsK 0 ix dg C k,true)
def KIn(T i lv ix:Nat):Prop:=∀k,k<137→∀(n cut:Nat) (dg:List Nat) (C:Cts 137) (X:Nat→VNode) (x0 x1 x2 x3:VEnt) (hl:1≤lv∧lv≤2) (h:ix≤7),kX T i n 137 (cutS cut) dg C (rowG T i (.inner lv ix x0 x1 x2 x3 hl h) X) k=some (QLr T (i+1) n (cutS cut) (rowG T i (.inner lv ix x0 x1 x2 x3 hl h) X),obsK lv ix dg C k,true)
theorem mem_ks{a b k:Nat}(h1:a≤k)(h2:k<b):k∈ks a b:=List.mem_map.2 ⟨k-a,List.mem_range.2 (by omega),by omega⟩
theorem KLf.of3{ix:Nat}(h0:KLp T i ix 0 46)(h1:KLp T i ix 46 92)(h2:KLp T i ix 92 137):KLf T i ix:=by
 intro k hk n cut dg C X x0 x1 x2 x3 h
 by_cases a:k<46
 ·exact all_of (h0 n cut dg C X x0 x1 x2 x3 h) (mem_ks (by omega) a)
 ·by_cases b:k<92
  ·exact all_of (h1 n cut dg C X x0 x1 x2 x3 h) (mem_ks (by omega) b)
  ·exact all_of (h2 n cut dg C X x0 x1 x2 x3 h) (mem_ks (by omega) hk)
theorem KIn.of3{lv ix:Nat}(h0:KIp T i lv ix 0 46)(h1:KIp T i lv ix 46 92)(h2:KIp T i lv ix 92 137):KIn T i lv ix:=by
 intro k hk n cut dg C X x0 x1 x2 x3 hl h
 by_cases a:k<46
 ·exact all_of (h0 n cut dg C X x0 x1 x2 x3 hl h) (mem_ks (by omega) a)
 ·by_cases b:k<92
  ·exact all_of (h1 n cut dg C X x0 x1 x2 x3 hl h) (mem_ks (by omega) b)
  ·exact all_of (h2 n cut dg C X x0 x1 x2 x3 hl h) (mem_ks (by omega) hk)
theorem round_of{N lv ix:Nat}{nd:VNode}{C:Cts N}{rest:List Nat}(hB:goB (Sh.shaF nd.bytes) (QLr T i n (cutS cut) (rowG T i nd X))=(PRr T i n N (cutS cut) (.v (.int .i64 (kInt cut))) (.q (.nodeB nd)) (Sh.shaF nd.bytes) (rowG T i nd X),obsB nd (Sh.shaF nd.bytes),true))(hc:cut<256)
 (hC:C.a (cut%137)++(C.b (cut%137)++C.c (cut%137))=nd.bytes) (hK:kX T i n N (cutS cut) (Sh.shaF nd.bytes) C (rowG T i nd X) (cut%137)=some (QLr T (i+1) n (cutS cut) (rowG T i nd X),obsK lv ix (Sh.shaF nd.bytes) C (cut%137),true)) (hl:nd.bytes=[lv]++([0,0,0,ix]++rest)) :
 SegV w (QLr T i n (cutS cut) (rowG T i nd X)) (QLr T (i+1) n (cutS cut) (rowG T i nd X)):=by
 intro Q0 h0 hq
 unfold goB at hB
 simp only [Prod.mk.injEq] at hB
 obtain ⟨b1,b2,b3⟩:=hB
 unfold kX at hK
 obtain ⟨y,hy,hy2⟩:=Option.map_eq_some_iff.1 hK
 simp only [Prod.mk.injEq] at hy2
 obtain ⟨e1,e2,e3⟩:=hy2
 refine evRun_ok (S:=⟨[36],[15],0⟩) (E:=E0 Xt w) hmx HQ_ok h0 12 [.b true,.c [] (digR (Sh.shaF nd.bytes)) []] (fun ob hob=>?_) ?_
 ·have hob':ob∈(tnB (Sh.shaF nd.bytes) (QLr T i n (cutS cut) (rowG T i nd X))).2:=hob
  rw [b2] at hob'
  unfold obsB at hob'
  simp only [List.mem_cons,List.not_mem_nil,or_false] at hob'
  rcases hob' with rfl|rfl
  ·rfl
  ·exact dig_ob rfl
 ·refine runRn_ok (S:=S0) (E:=E0 Xt w) hmx HQ_ok h0 0 (runRn_ok (S:=S0) (E:=E0 Xt w) hmx HQ_ok h0 0 (runRn_ok (S:=S0) (E:=E0 Xt w) hmx HQ_ok h0 0 ?_))
  refine cut_ok [1,6,10,11,13,14,15] [0,1,2,3] 0 b3 ?_
  show Xp (E0 Xt w) [] Q0 (cutV [1,6,10,11,13,14,15] [0,1,2,3] 0 (one (one (one (tnB (Sh.shaF nd.bytes) (QLr T i n (cutS cut) (rowG T i nd X))).1))))
  rw [b1,kInt_eq hc]
  refine pr_recast (brow':=row3 C (cut%137)) (fun r us hd=>?_) ?_
  ·have hd':DenC r (.q (.nodeB nd)) us:=hd
   cases hd'
   exact row3_ok hC r
  ·refine evDraw_ok (E:=E0 Xt w) (q:=y.1) (obs:=y.2) hmx HZ_ok h0 hy (by rw [e2];exact obsK_ok hC hl) ?_
   refine runRn_ok (S:=SQ) (E:=E0 Xt w) hmx HQ_ok h0 12 (cut_ok lsQ [0,1] 0 e3 ?_)
   show Xp (E0 Xt w) [] Q0 (cutV lsQ [0,1] 0 (runE SQ HQ Xt 12 y.1))
   rw [e1]
   exact hq
def KindL(X:Nat→VNode)(i ix:Nat):Prop:=∃a b c d h,X i=.leaf ix a b c d h
def KindI(X:Nat→VNode)(i lv ix:Nat):Prop:=∃a b c d hl h,X i=.inner lv ix a b c d hl h
theorem roundL{ix:Nat}(hB:BLp T i ix)(hK:KLf T i ix)(hc:cut<256)(hX:KindL X i ix):SegV w (QLr T i n (cutS cut) (rowX T X)) (QLr T (i+1) n (cutS cut) (rowX T X)):=by
 obtain ⟨a,b,c,d,h,hX⟩:=hX
 rw [rowG_self (i:=i),hX]
 have hk:cut%137<137:=Nat.mod_lt _ (by decide)
 have hlen:(VNode.leaf ix a b c d h).bytes.length=185:=VNode.blen _
 refine round_of (C:=mkC _ 185 hlen (VNode.byt _) (by decide)) (hB n cut _ X a b c d h) hc (mkC_all hk) (hK _ hk n cut _ _ X a b c d h) (lv:=0) (ix:=ix) (rest:=a.bytes++(b.bytes++(c.bytes++d.bytes))) ?_
 rw [←beB4 h];rfl
theorem roundI{lv ix:Nat}(hB:BIp T i lv ix)(hK:KIn T i lv ix)(hc:cut<256)(hX:KindI X i lv ix):SegV w (QLr T i n (cutS cut) (rowX T X)) (QLr T (i+1) n (cutS cut) (rowX T X)):=by
 obtain ⟨a,b,c,d,hl,h,hX⟩:=hX
 rw [rowG_self (i:=i),hX]
 have hk:cut%137<137:=Nat.mod_lt _ (by decide)
 have hlen:(VNode.inner lv ix a b c d hl h).bytes.length=137:=VNode.blen _
 refine round_of (C:=mkC _ 137 hlen (VNode.byt _) (by decide)) (hB n cut _ X a b c d hl h) hc (mkC_all hk) (hK _ hk n cut _ _ X a b c d hl h) (lv:=lv) (ix:=ix) (rest:=a.bytes++(b.bytes++(c.bytes++d.bytes))) ?_
 rw [←beB4 h];rfl
end
end Go.Proofs.YtjboelhcieepkaaGreatDoor
