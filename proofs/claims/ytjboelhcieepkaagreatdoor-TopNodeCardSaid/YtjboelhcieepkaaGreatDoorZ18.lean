/-
  The walks of caissonref06.Encrypt and of CiphersEncrypt.
-/
import Derived.Test.YtjboelhcieepkaaGreatDoorZ17
import Derived.Test.YtjboelhcieepkaaGreatDoorQCRd
import Derived.Test.YtjboelhcieepkaaGreatDoorQRfD
namespace Go.Proofs.YtjboelhcieepkaaGreatDoor
set_option maxRecDepth 16384
open Go.RowKit
structure ReMem(G:Nat)(key b:List Nat)(w wr:World):Prop where
 k:Blk wr G 26 (va .u8 key)
 b:Blk wr (G+1) 26 (va .u8 b)
 r:∃c,Blk wr (G+1+1) 26 c∧c.size=16
 bel:Below G w wr
theorem ReMem.below{G:Nat}{key b:List Nat}{w wr w2:World}(h:ReMem G key b w wr)(c:Below wr.heap.size wr w2):ReMem G key b w w2:=by
 obtain ⟨c0,h0,h1⟩:=h.r
 exact ⟨h.k.below c h.k.lt,h.b.below c h.b.lt,⟨c0,h0.below c h0.lt,h1⟩,h.bel.trans (c.mono (by have:=h.k.lt;omega))⟩
theorem ReMem.drew_{G:Nat}{key b:List Nat}{w wr:World}(h:ReMem G key b w wr):ReMem G key b w wr.drew:=by
 obtain ⟨c0,h0,h1⟩:=h.r
 exact ⟨h.k.drew,h.b.drew,⟨c0,h0.drew,h1⟩,below_drewN h.bel 1⟩
theorem ReMem.row{G:Nat}{key b:List Nat}{w wr:World}(h:ReMem G key b w wr)(c:Array Value)(hc:c.size=16):ReMem G key b w (wr.setRow (G+1+1) c):=by
 obtain ⟨c0,h0,h1⟩:=h.r
 exact ⟨h.k.rowFar (by omega) c,h.b.rowFar (by omega) c,⟨c,h0.row c,hc⟩,below_setRow h.bel (by omega) c⟩
set_option maxHeartbeats 1000000 in
theorem rencrypt_any(key b:List Nat)(hkl:key.length=16)(hbl:b.length=16)(hk:Ci.Byt key)(hb:Ci.Byt b)(w:World):
 Calls Tryz.prog 276 #[.agg (va .u8 key),.agg (va .u8 b)] w fun e w'=>e=.returned (.agg (va .u8 (Ci.enc (Ci.exL key) b)))∧Below w.heap.size w w':=by
 have hc1:=rexpand_any key hkl hk
 have hc2:=rrounds_any (Ci.exL key) b (Ci.exL_len key) hbl (Ci.exL_byt hk) hb
 have hEl:=enc_len (Ci.exL key) b
 generalize Ci.enc (Ci.exL key) b=E at *
 generalize Ci.exL key=L at *
 have hzv:=zero16
 have hsz0:(Tryz.prog.info? 26).map (·.size)=some (va .u8 key).size:=by rw [va_size,hkl];kernel_rfl
 have hsz1:(Tryz.prog.info? 26).map (·.size)=some (va .u8 b).size:=by rw [va_size,hbl];kernel_rfl
 have hsz2:(Tryz.prog.info? 26).map (·.size)=some (va .u8 E).size:=by rw [va_size,hEl];kernel_rfl
 have hm:ReMem w.heap.size key b w (((w.alloc (.cells (va .u8 key) 26)).alloc (.cells (va .u8 b) 26)).alloc (.cells (va .u8 z16) 26)) :=
  ⟨((Blk.new _ _ _).alloc _).alloc _,(Blk.newAt (by simp)).alloc _,⟨va .u8 z16,Blk.newAt (by simp),by rw [va_size,z16_len]⟩,(((Below.refl _ _).alloc (Nat.le_refl _) _).alloc (by simp) _).alloc (by simp<;>omega) _⟩
 have hmm:=Lib.hid hm
 have hs0:=Lib.hid hsz0
 have hs1:=Lib.hid hsz1
 have hs2:=Lib.hid hsz2
 have hc1h:=Lib.hid hc1
 have hc2h:=Lib.hid hc2
 clear hm hsz0 hsz1 hsz2 hc1 hc2
 go_enter Tryz.func276,Tryz.ntmps276
 go_upto_region 1 with fail
 clear hzv
 refine wp_region_held_drew (S:=ReMem w.heap.size key b w) (by kernel_rfl) hmm.out.drew_ (fun hH=>?_)
 refine takeH 4 0 5 (.agg (va .u8 key)) rfl rfl (by kernel_rfl) (by kernel_rfl) (by kernel_rfl) (fun _ _ _ h=>h) (yieldsIf_load_blk (by rfl) 26 (.tmp 2) rfl w.heap.size rfl 26 (va .u8 key) _ (fun _ h=>h.k) Tryz.underlying26 rfl hs0.out) hH ?_
 simp only [Ls]
 refine takeH 3 2 7 (.agg (va .u8 b)) rfl rfl (by kernel_rfl) (by kernel_rfl) (by kernel_rfl) (fun _ _ _ h=>h) (yieldsIf_load_blk (by rfl) 26 (.tmp 3) rfl (w.heap.size+1) rfl 26 (va .u8 b) _ (fun _ h=>h.b) Tryz.underlying26 rfl hs1.out) hH ?_
 simp only [Ls]
 refine callH 2 1 6 rfl rfl (by rfl) (by kernel_rfl) (fun K hK=>?_)
 go_simp
 refine (hc1h.out _).mono ?_
 rintro e w' ⟨rfl,bK⟩
 dsimp only
 refine hK.out _ _ (hH.below bK) (fun hH=>?_)
 clear hK K bK
 simp only [Ls]
 refine callH 1 3 8 rfl rfl (by rfl) (by kernel_rfl) (fun K hK=>?_)
 go_simp
 refine (hc2h.out _).mono ?_
 rintro e w' ⟨rfl,bK⟩
 dsimp only
 refine hK.out _ _ (hH.below bK) (fun hH=>?_)
 clear hK K bK
 simp only [Ls]
 obtain ⟨c0,hc0,hc16⟩:=hH.r
 refine storeH 0 4 rfl rfl (by rfl) (by kernel_rfl) 26 (.tmp 4) (.tmp 8) rfl (w.heap.size+1+1) rfl (va .u8 E) rfl 26 c0 hc0 (by rw [hc16,va_size,hEl]) hs2.out (fun v hv=>nv_one .u8 E v (by simpa [va] using hv)) (hH.row _ (by rw [va_size,hEl])) (fun hH=>?_)
 refine wpAnyH_done (by kernel_rfl) ?_ _
 go_wp2_with fail
 exact bodyPost_ret (results_cell_row rfl _ _ (w.heap.size+1+1) 26 (va .u8 E) (0,0) _ rfl (hc0.row _) Tryz.underlying26 rfl hs2.out) rfl ⟨rfl,hH.bel⟩
end Go.Proofs.YtjboelhcieepkaaGreatDoor
namespace Go.Proofs.YtjboelhcieepkaaGreatDoor
set_option maxRecDepth 16384
open Go.RowKit
noncomputable def rtX(n c d:Nat)(R:Nat→VRec)(B:Nat→Bool):Pos×List Ob:=evRun ⟨[],[],0⟩ HN3 Xt 12 [] (evPos Xt 43 [.s 0 0 n c,.s 1 0 (tot n) d] (hpN n (tot n) R B) 2)
noncomputable def rtP(n:Nat)(R:Nat→VRec)(B:Nat→Bool):List (Rp SV):=[.q (.sha (ndR n (rL n R) (enF n (rL n R) (bL (tot n) B)) (hgt n) 0).bytes)]
theorem rt_all(c d:Nat)(R:Nat→VRec)(B:Nat→Bool):(List.range 20).map (fun n=>rowP (finP Xt 43 (rtX (n+1) c d R B).1))=(List.range 20).map fun n=>rtP (n+1) R B:=by kernel_rfl
noncomputable def lRoot:Leaf:=fun args hp nx=>match args with
 |[x,y]=>(match slcR hp x,slcB hp y with
  |some xs,some bs=>bif Nat.ble xs.length 20&&Nat.beq bs.length (tot xs.length) then some (.a (.q (.sha (ndR xs.length (rOf xs) (enF xs.length (rOf xs) (bOf bs)) (hgt xs.length) 0).bytes)),⟨⟨.e,0⟩,hp,nx⟩) else none
  |_,_=>none)
 |_=>none
theorem root_call(n c d g o g2 o2:Nat)(R:Nat→VRec)(B:Nat→Bool)(w:World)(h1:1≤n)(h20:n≤20)(hg:GlobOk Xt w)(hr:Reads w w.heap.size 35 (some ⟨g,o,none⟩) n (valsR n R))(hr2:Reads w w.heap.size 1 (some ⟨g2,o2,none⟩) (tot n) (valsB (tot n) B)):
 Calls Xt.P 43 #[.slice (some ⟨g,o,none⟩) n c,.slice (some ⟨g2,o2,none⟩) (tot n) d] w fun e w'=>e=.returned (.agg (At.sha (ndR n (rL n R) (enF n (rL n R) (bL (tot n) B)) (hgt n) 0).bytes).vals.toArray)∧Below w.heap.size w w':=by
 obtain ⟨m,rfl⟩:∃m,n=m+1:=⟨n-1,by omega⟩
 have h2:=all_of (rt_all c d R B) (List.mem_range.2 (show m<20 by omega))
 have htot:0<tot (m+1):=by have:=num_lt (n:=m+1) (lv:=0) (i:=0) h1 h20 (by omega) (by unfold cnt;omega);omega
 have hm1:Mem (E0 Xt w) ([]++[⟨g,o,c,none,fun _=>False⟩]) _ 1 w:=(Mem.start Xt w hg).addR (c:=c) (T:=61) AllF.start hr (by omega) (Nat.le_refl _) (Nat.le_refl _) (ropeR_ok (m+1) R)
 have hm:Mem (E0 Xt w) ([⟨g,o,c,none,fun _=>False⟩]++[⟨g2,o2,d,none,fun _=>False⟩]) (hpN (m+1) (tot (m+1)) R B) 2 w:=hm1.addR (c:=d) (T:=3) (AllF.start.put _ _ _) hr2 htot (Nat.le_refl _) (Nat.le_refl _) (ropeB_ok (tot (m+1)) B)
 unfold rowP rtP at h2
 split at h2
 ·rename_i cc st hfin
  refine (evCall_ok (E:=E0 Xt w) (vals:=[.slice (some ⟨g,o,none⟩) (m+1) c,.slice (some ⟨g2,o2,none⟩) (tot (m+1)) d]) hmx HN3_ok hfin (fun ob hob=>(by cases hob)) ?_ hm).mono ?_
  ·exact .cons (.s (L:=⟨g,o,c,none,fun _=>False⟩) (o:=0) rfl) (.cons (.s (L:=⟨g2,o2,d,none,fun _=>False⟩) (o:=0) rfl) .nil)
  ·rintro e w' ⟨q,v,he,hd,hm'⟩
   cases hd with|a hd =>
    have hf:=rbare_ok _ hd
    rw [h2] at hf
    cases hf with|cons h3 hf =>
     cases hf
     cases h3
     exact ⟨by rw [he,List.append_nil],hm'.below⟩
 ·cases h2
theorem root_leaf:LeafOk Xt 43 lRoot:=by
 intro args hp nx res st hl E r vals w hE ha hm
 have hgl:GlobOk Xt w:=hE▸hm.globs
 unfold lRoot at hl
 split at hl
 ·rename_i x y
  split at hl
  ·rename_i xs bs hx hy
   cases hq:Nat.ble xs.length 20&&Nat.beq bs.length (tot xs.length) with
   |false=>rw [hq] at hl;cases hl
   |true =>
    rw [hq] at hl;cases hl
    simp only [Bool.and_eq_true,ble_iff,beq_iff,decide_eq_true_eq] at hq
    obtain ⟨h20,hb⟩:=hq
    cases ha with|cons d1 t=>cases t with|cons d2 t =>
     cases t
     obtain ⟨h0,g,o,c,rfl,hr⟩:=slcR_ok hm d1 hx
     obtain ⟨h02,g2,o2,d,rfl,hr2⟩:=slcB_ok hm d2 hy
     have hc:=root_call xs.length c d g o g2 o2 (rOf xs) (bOf bs) w h0 h20 hgl hr (hb▸hr2)
     rw [rL_of,←hb,bL_of] at hc
     exact ⟨fun w'=>enters (by kernel_rfl) _ w',hc.mono fun e w' ⟨h1,h2⟩=>⟨[],_,h1,.a (.q _),by simpa using hm.grow h2⟩⟩
  ·cases hl
 ·cases hl
noncomputable def fP32(args:List SV):Option (TypeId×Rp SV×Nat×Nat×Option (List SV)):=match args with
 |[.v (.int .u32 (.ofNat v))]=>bif Nat.blt v 4294967296 then some (5,.arr .u8 4 (Sh.beB v 4),4,4,none) else none
 |_=>none
noncomputable def fP64(args:List SV):Option (TypeId×Rp SV×Nat×Nat×Option (List SV)):=match args with
 |[.v (.int .u64 (.ofNat v))]=>bif Nat.blt v 18446744073709551616 then some (5,.arr .u8 8 (Sh.beB v 8),8,8,none) else none
 |_=>none
theorem p32_leaf:LeafOk Xt 178 (leafS fP32):=leafS_ok (enters (by kernel_rfl)) fun args T cs l c zs hf r vals w hd hg=>by
 unfold fP32 at hf
 split at hf
 ·rename_i v
  cases hq:Nat.blt v 4294967296 with
  |false=>rw [hq] at hf;cases hf
  |true =>
   rw [hq] at hf;cases hf
   rw [blt_iff,decide_eq_true_eq] at hq
   cases hd with|cons d t =>
    cases t;cases d
    refine ⟨_,none,.arr (Sh.beB_len _ _),rfl,(rput32_to v hq w).mono ?_⟩
    rintro e w' ⟨g,rfl,h1,h2,h3⟩
    exact ⟨g,rfl,h2,h1,h3⟩
 ·cases hf
theorem p64_leaf:LeafOk Xt 231 (leafS fP64):=leafS_ok (enters (by kernel_rfl)) fun args T cs l c zs hf r vals w hd hg=>by
 unfold fP64 at hf
 split at hf
 ·rename_i v
  cases hq:Nat.blt v 18446744073709551616 with
  |false=>rw [hq] at hf;cases hf
  |true =>
   rw [hq] at hf;cases hf
   rw [blt_iff,decide_eq_true_eq] at hq
   cases hd with|cons d t =>
    cases t;cases d
    refine ⟨_,none,.arr (Sh.beB_len _ _),rfl,(rput64_to v hq w).mono ?_⟩
    rintro e w' ⟨g,rfl,h1,h2,h3⟩
    exact ⟨g,rfl,h2,h1,h3⟩
 ·cases hf
noncomputable def fRenc(args:List SV):Option SV:=match args with
 |[.a s,.a b]=>(match bytesP s,bytesP b with
  |some x,some y=>match _h:Nat.beq x.n 16&&Nat.beq y.n 16 with
   |true=>some (.a (.q (.byt ⟨Ci.enc (Ci.exL x.l) y.l,16,Ci.encS_len _ _ _,Ci.encS_byt (Ci.exL_byt x.hb) y.hb _⟩)))
   |false=>none
  |_,_=>none)
 |_=>none
theorem renc_leaf:LeafOk Xt 276 (leafV fRenc):=leafV_ok (enters (by kernel_rfl)) fun args y hf r vals w hd hg=>by
 unfold fRenc at hf
 split at hf
 ·split at hf
  ·rename_i s b x y hx hy
   split at hf
   ·rename_i hq
    cases hf
    rw [Bool.and_eq_true,beq_iff,beq_iff,decide_eq_true_eq,decide_eq_true_eq] at hq
    cases hd with
    |cons d1 t=>cases t with
     |cons d2 t =>
      cases t
      cases d1 with
      |a d1=>cases d2 with
       |a d2 =>
        obtain rfl:=bytesP_ok hx d1
        obtain rfl:=bytesP_ok hy d2
        refine (rencrypt_any x.l y.l (by rw [x.hl,hq.1]) (by rw [y.hl,hq.2]) x.hb y.hb w).mono ?_
        rintro e w' ⟨rfl,h2⟩
        exact ⟨_,rfl,.a (.q (.byt ⟨Ci.enc (Ci.exL x.l) y.l,16,Ci.encS_len _ _ _,Ci.encS_byt (Ci.exL_byt x.hb) y.hb _⟩)),h2⟩
   ·cases hf
  ·cases hf
 ·cases hf
def hmI(key m:List Nat):List Nat:=Sh.kx key 92++Sh.sha (Sh.kx key 54++m)
noncomputable def lTag:Leaf:=fun args hp nx=>match args with
 |[x,y]=>(match partN hp x,partN hp y with
  |some (b,l),some (b2,l2)=>bif Nat.blt l 100000&&Nat.blt l2 100000 then some (.a (.q (.sha (hmI b b2))),⟨⟨.e,0⟩,hp,nx⟩) else none
  |_,_=>none)
 |_=>none
theorem tag_leaf:LeafOk Xt 98 lTag:=by
 intro args hp nx res st hl E r vals w hE ha hm
 unfold lTag at hl
 split at hl
 ·rename_i x y
  split at hl
  ·rename_i b l b2 l2 hx hy
   cases hq:Nat.blt l 100000&&Nat.blt l2 100000 with
   |false=>rw [hq] at hl;cases hl
   |true =>
    rw [hq] at hl;cases hl
    simp only [Bool.and_eq_true,blt_iff,decide_eq_true_eq] at hq
    cases ha with|cons d1 t=>cases t with|cons d2 t =>
     cases t
     obtain ⟨A,c,rfl,h1,h2,h3,h4⟩:=partN_ok hm hx d1
     obtain ⟨A2,c2,rfl,k1,k2,k3,k4⟩:=partN_ok hm hy d2
     refine ⟨fun w'=>enters (by kernel_rfl) _ w',(rhm_any b b2 A l c _ A2 l2 c2 _ h3 hq.1 k3 hq.2 w h2 (Nat.le_refl _) k2 (Nat.le_refl _)).mono ?_⟩
     rintro e w' ⟨rfl,h5⟩
     refine ⟨[],_,rfl,?_,by simpa using hm.grow h5⟩
     have e:va .u8 (Sh.hm b b2)=(At.sha (hmI b b2)).vals.toArray:=by show _=(nv .u8 (Sh.shaF (hmI b b2))).toArray;rw [Sh.shaF_eq];rfl
     rw [e]
     exact .a (.q _)
  ·cases hl
 ·cases hl
noncomputable def tabC:List (FuncId×Leaf):=[(178,leafS fP32),(231,leafS fP64),(276,leafV fRenc),(98,lTag)]
theorem tabC_ok:∀p∈tabC,LeafOk Xt p.1 p.2:=by
 intro p hp
 simp only [tabC,List.mem_cons,List.not_mem_nil,or_false] at hp
 rcases hp with rfl|rfl|rfl|rfl
 ·exact p32_leaf
 ·exact p64_leaf
 ·exact renc_leaf
 ·exact tag_leaf
noncomputable def HC:Hk:=hkD Xt (leafTab tabC) 14 6
theorem HC_ok:HkOk Xt HC:=hkT_ok hmx tabC_ok 6
end Go.Proofs.YtjboelhcieepkaaGreatDoor
namespace Go.Proofs.YtjboelhcieepkaaGreatDoor
set_option maxRecDepth 16384
open Go.RowKit
noncomputable def rowPs(x:Option (SV×St)):List (List (Rp SV)):=match x with
 |some (.a c,_)=>[rbare c []]
 |some (.t [.a c,.a d],_)=>[rbare c [],rbare d []]
 |_=>[]
section
variable {X:Ctx}{H:Hk}{n:Nat}{g:FuncId}{args:List SV}{vals:List Value}{w:World}
theorem row_call{ps:List (Rp SV)}{us:List Value}(hmx:X.P.follows .mixedOrders=true)(hH:HkOk X H)(h:rowPs (callW H X n g args .e 0)=[ps])(hp:∀(r:List Loc) vs,DenF r ps vs→vs=us)(ha:DenL [] args vals)(hg:GlobOk X w):
 Calls X.P g vals.toArray w fun e w'=>e=.returned (.agg us.toArray)∧Below w.heap.size w w':=by
 unfold rowPs at h
 split at h
 ·rename_i c st hc
  simp only [List.cons.injEq,and_true] at h
  refine (run_mem hmx hH hc ha hg).mono fun e w' ⟨r,v,he,hd,hm⟩=>?_
  cases hd with|a hd =>
   have hf:=rbare_ok _ hd
   rw [h] at hf
   rw [hp _ _ hf] at he
   exact ⟨he,hm.below⟩
 ·cases h
 ·cases h
theorem row2_call{ps qs:List (Rp SV)}{us vs:List Value}(hmx:X.P.follows .mixedOrders=true)(hH:HkOk X H)(h:rowPs (callW H X n g args .e 0)=[ps,qs])(hp:∀(r:List Loc) xs,DenF r ps xs→xs=us)(hq:∀(r:List Loc) xs,DenF r qs xs→xs=vs)(ha:DenL [] args vals)(hg:GlobOk X w):
 Calls X.P g vals.toArray w fun e w'=>e=.returned (.tuple #[.agg us.toArray,.agg vs.toArray])∧Below w.heap.size w w':=by
 unfold rowPs at h
 split at h
 ·cases h
 ·rename_i c d st hc
  simp only [List.cons.injEq,and_true] at h
  refine (run_mem hmx hH hc ha hg).mono fun e w' ⟨r,v,he,hd,hm⟩=>?_
  cases hd with|t hd=>cases hd with|cons d1 hd=>cases hd with|cons d2 hd =>
   cases hd
   cases d1 with|a d1=>cases d2 with|a d2 =>
    have hf:=rbare_ok _ d1
    have hf2:=rbare_ok _ d2
    rw [h.1] at hf
    rw [h.2] at hf2
    rw [hp _ _ hf,hq _ _ hf2] at he
    exact ⟨he,hm.below⟩
 ·cases h
end
theorem arrF{r:List Loc}{n:Nat}{l:List Nat}{vs:List Value}(h:DenF r [.arr .u8 n l] vs):vs=nv .u8 l:=by
 cases h with|cons h1 h=>cases h;rw [arr_inv h1,List.append_nil]
theorem atF{r:List Loc}{a:At}{vs:List Value}(h:DenF r [.q a] vs):vs=a.vals:=by
 cases h with|cons h1 h=>cases h;cases h1;rw [List.append_nil]
theorem byt_mod{α:Type}(l:List α)(f:α→Nat):Sh.Byt (l.map fun x=>f x%256):=by
 intro x hx
 obtain ⟨i,_,rfl⟩:=List.mem_map.1 hx
 exact Nat.mod_lt _ (by decide)
def plainL(s:Nat):List Nat:=(List.range 32).map fun j=>s*(j+1)%256
def masterL(s:Nat):List Nat:=(List.range 32).map fun j=>(s+3*j)%256
def plainV(s:Nat):VByt:=⟨plainL s,32,by simp [plainL],byt_mod _ _⟩
def masterV(s:Nat):VByt:=⟨masterL s,32,by simp [masterL],byt_mod _ _⟩
theorem plain_run(s:Nat):rowPs (callW HC Xt 12 31 [.v (.int .u8 (.ofNat s))] .e 0)=[[.arr .u8 32 (plainL s)]]:=by kernel_rfl
theorem master_run(s:Nat):rowPs (callW HC Xt 12 28 [.v (.int .u8 (.ofNat s))] .e 0)=[[.arr .u8 32 (masterL s)]]:=by kernel_rfl
noncomputable def fSeed(f:Nat→VByt)(args:List SV):Option SV:=match args with
 |[.v (.int .u8 (.ofNat s))]=>some (.a (.q (.byt (f s))))
 |_=>none
theorem plain_leaf:LeafOk Xt 31 (leafV (fSeed plainV)):=leafV_ok (enters (by kernel_rfl)) fun args y hf r vals w hd hg=>by
 unfold fSeed at hf
 split at hf
 ·rename_i s
  cases hf
  cases hd with|cons d t =>
   cases t;cases d
   exact (row_call (vals:=[.int .u8 (.ofNat s)]) hmx HC_ok (plain_run s) (fun _ _=>arrF) (.cons (.v _) .nil) hg).mono fun e w' ⟨h1,h2⟩=>⟨_,h1,.a (.q (.byt (plainV s))),h2⟩
 ·cases hf
theorem master_leaf:LeafOk Xt 28 (leafV (fSeed masterV)):=leafV_ok (enters (by kernel_rfl)) fun args y hf r vals w hd hg=>by
 unfold fSeed at hf
 split at hf
 ·rename_i s
  cases hf
  cases hd with|cons d t =>
   cases t;cases d
   exact (row_call (vals:=[.int .u8 (.ofNat s)]) hmx HC_ok (master_run s) (fun _ _=>arrF) (.cons (.v _) .nil) hg).mono fun e w' ⟨h1,h2⟩=>⟨_,h1,.a (.q (.byt (masterV s))),h2⟩
 ·cases hf
noncomputable def prkL(m:List Nat):List Nat:=Sh.shaF (hmI [99,97,105,115,115,111,110] m)
noncomputable def encL(m:List Nat):List Nat:=(List.range 16).map fun j=>(Sh.shaF (hmI (prkL m) [101,110,99,114,121,112,116,1])).getD j 0
noncomputable def macL(m:List Nat):List Nat:=(List.range 32).map fun j=>(Sh.shaF (hmI (prkL m) [109,97,99,1])).getD j 0
theorem byt_getD{l:List Nat}(h:Sh.Byt l)(j:Nat):l.getD j 0<256:=by
 rw [List.getD_eq_getElem?_getD]
 cases hj:l[j]? with
 |none=>simp
 |some x=>exact h x (List.mem_of_getElem? hj)
theorem byt_rng{n:Nat}{l:List Nat}(h:Sh.Byt l):Sh.Byt ((List.range n).map fun j=>l.getD j 0):=by
 intro x hx
 obtain ⟨i,_,rfl⟩:=List.mem_map.1 hx
 exact byt_getD h i
noncomputable def encV(m:List Nat):VByt:=⟨encL m,16,by simp [encL],byt_rng (shaF_byt _)⟩
noncomputable def macV(m:List Nat):VByt:=⟨macL m,32,by simp [macL],byt_rng (shaF_byt _)⟩
theorem keys_run(m:List Nat)(hl:m.length=32)(hb:Sh.Byt m):rowPs (callW HC Xt 13 27 [.a (.q (.byt ⟨m,32,hl,hb⟩))] .e 0)=[[.arr .u8 16 (encL m)],[.arr .u8 32 (macL m)]]:=by kernel_rfl
noncomputable def fKeys(args:List SV):Option SV:=match args with
 |[.a c]=>(match bytesP c with
  |some x=>bif Nat.beq x.n 32 then some (.t [.a (.q (.byt (encV x.l))),.a (.q (.byt (macV x.l)))]) else none
  |none=>none)
 |_=>none
theorem keys_leaf:LeafOk Xt 27 (leafV fKeys):=leafV_ok (enters (by kernel_rfl)) fun args y hf r vals w hd hg=>by
 unfold fKeys at hf
 split at hf
 ·split at hf
  ·rename_i c x hx
   obtain ⟨m,n,hl,hb⟩:=x
   cases hq:Nat.beq n 32 with
   |false=>simp only [hq] at hf;cases hf
   |true =>
    simp only [hq] at hf;cases hf
    obtain rfl:=Nat.eq_of_beq_eq_true hq
    obtain ⟨us,rfl,d⟩:=denRow hd
    obtain rfl:=bytesP_ok hx d
    exact (row2_call (vals:=[.agg (nv .u8 m).toArray]) hmx HC_ok (keys_run m hl hb) (fun _ _=>arrF) (fun _ _=>arrF) (.cons (.a (.q (.byt ⟨m,32,hl,hb⟩))) .nil) hg).mono fun e w' ⟨h1,h2⟩=>⟨_,h1,.t (.cons (.a (.q (.byt (encV m)))) (.cons (.a (.q (.byt (macV m)))) .nil)),h2⟩
  ·cases hf
 ·cases hf
def xbyt(a b:Nat):Nat:=(BitVec.ofInt 8 (a:Int) ^^^ BitVec.ofInt 8 (b:Int)).toNat%256
noncomputable def ksB(k:List Nat)(c j:Nat):List Nat:=Ci.enc (Ci.exL k) (Sh.beB (c%3) 4++(Sh.beB c 8++Sh.beB j 4))
noncomputable def sxL(k b:List Nat)(c:Nat):List Nat:=(List.range 32).map fun j=>xbyt (b.getD j 0) ((ksB k c (j / 16)).getD (j%16) 0)
noncomputable def sxV(k b:List Nat)(c:Nat):VByt:=⟨sxL k b c,32,by simp [sxL],byt_mod _ _⟩
noncomputable def nncR(c:Nat):Rp SV:=.node 1 2 (.one (.v (.int .u32 (.ofNat (c%3))))) (.one (.v (.int .u64 (.ofNat c))))
theorem sx_run(k b:List Nat)(hk:k.length=16)(hkb:Sh.Byt k)(hb:b.length=32)(hbb:Sh.Byt b):(List.range 20).map (fun c=>rowPs (callW HC Xt 14 101 [.a (.q (.byt ⟨k,16,hk,hkb⟩)),.a (nncR c),.a (.q (.byt ⟨b,32,hb,hbb⟩))] .e 0))=(List.range 20).map fun c=>[[.arr .u8 32 (sxL k b c)]]:=by kernel_rfl
noncomputable def nncP(c:Rp SV):Option Nat:=match c with
 | .node _ _ (.one (.v (.int .u32 (.ofNat a)))) (.one (.v (.int .u64 (.ofNat b))))=>bif Nat.blt b 20&&Nat.beq a (b%3) then some b else none
 |_=>none
theorem nncP_ok{r:List Loc}{c:Rp SV}{b:Nat}{us:List Value}(h:nncP c=some b)(d:DenC r c us):b<20∧us=[.int .u32 ((b%3:Nat):Int),.int .u64 (b:Int)]:=by
 unfold nncP at h
 split at h
 ·rename_i a b'
  cases hq:Nat.blt b' 20&&Nat.beq a (b'%3) with
  |false=>rw [hq] at h;cases h
  |true =>
   rw [hq] at h;cases h
   simp only [Bool.and_eq_true,blt_iff,beq_iff,decide_eq_true_eq] at hq
   cases d with|node d1 d2 _ _ =>
    rw [one_inv d1,one_inv d2,hq.2]
    exact ⟨hq.1,rfl⟩
 ·cases h
theorem nncR_den(c:Nat):DenC [] (nncR c) [.int .u32 ((c%3:Nat):Int),.int .u64 (c:Int)]:=.node (us:=[.int .u32 ((c%3:Nat):Int)]) (.one (.v _) rfl) (.one (.v _) rfl) rfl rfl
noncomputable def fSx(args:List SV):Option SV:=match args with
 |[.a k,.a n,.a b]=>(match bytesP k,nncP n,bytesP b with
  |some x,some c,some y=>bif Nat.beq x.n 16&&Nat.beq y.n 32 then some (.a (.q (.byt (sxV x.l y.l c)))) else none
  |_,_,_=>none)
 |_=>none
theorem sx_leaf:LeafOk Xt 101 (leafV fSx):=leafV_ok (enters (by kernel_rfl)) fun args y hf r vals w hd hg=>by
 unfold fSx at hf
 split at hf
 ·split at hf
  ·rename_i x c y hx hc hy
   obtain ⟨k,n,hl,hb⟩:=x
   obtain ⟨b,n2,hl2,hb2⟩:=y
   cases hq:Nat.beq n 16&&Nat.beq n2 32 with
   |false=>simp only [hq] at hf;cases hf
   |true =>
    simp only [hq] at hf;cases hf
    simp only [Bool.and_eq_true,beq_iff,decide_eq_true_eq] at hq
    obtain ⟨rfl,rfl⟩:=hq
    cases hd with|cons d1 t=>cases t with|cons d2 t=>cases t with|cons d3 t =>
     cases t
     cases d1 with|a d1=>cases d2 with|a d2=>cases d3 with|a d3 =>
      obtain rfl:=bytesP_ok hx d1
      obtain rfl:=bytesP_ok hy d3
      obtain ⟨h20,rfl⟩:=nncP_ok hc d2
      exact (row_call (vals:=[.agg (nv .u8 k).toArray,.agg #[.int .u32 ((c%3:Nat):Int),.int .u64 (c:Int)],.agg (nv .u8 b).toArray]) hmx HC_ok (all_of (sx_run k b hl hb hl2 hb2) (List.mem_range.2 h20)) (fun _ _=>arrF) (.cons (.a (.q (.byt ⟨k,16,hl,hb⟩))) (.cons (.a (nncR_den c)) (.cons (.a (.q (.byt ⟨b,32,hl2,hb2⟩))) .nil))) hg).mono fun e w' ⟨h1,h2⟩=>⟨_,h1,.a (.q (.byt (sxV k b c))),h2⟩
  ·cases hf
 ·cases hf
noncomputable def fRput2(args:List SV):Option (TypeId×Rp SV×Nat):=match args with
 |[.a n]=>(match nncP n with
  |some c=>some (5,.arr .u8 12 (Sh.beB (c%3) 4++Sh.beB c 8),12)
  |none=>none)
 |_=>none
theorem rput2_leaf:LeafOk Xt 179 (leafW fRput2):=leafW_ok (enters (by kernel_rfl)) fun args T cs l hf r vals w hd hg=>by
 unfold fRput2 at hf
 split at hf
 ·split at hf
  ·rename_i n c hc
   cases hf
   obtain ⟨us,rfl,d⟩:=denRow hd
   obtain ⟨h20,rfl⟩:=nncP_ok hc d
   exact ⟨nv .u8 (Sh.beB (c%3) 4++Sh.beB c 8),.arr (by simp [Sh.beB_len]),by decide,by rw [cells_u8];decide,by rw [cells_u8];exact rnput_any (c%3) c (by omega) (by omega) w⟩
  ·cases hf
 ·cases hf
noncomputable def tabC2:List (FuncId×Leaf):=[(101,leafV fSx),(179,leafW fRput2)]++tabC
theorem tabC2_ok:∀p∈tabC2,LeafOk Xt p.1 p.2:=by
 intro p hp
 rcases List.mem_append.1 hp with hp|hp
 ·simp only [List.mem_cons,List.not_mem_nil,or_false] at hp
  rcases hp with rfl|rfl
  ·exact sx_leaf
  ·exact rput2_leaf
 ·exact tabC_ok p hp
noncomputable def HC2:Hk:=hkD Xt (leafTab tabC2) 14 6
theorem HC2_ok:HkOk Xt HC2:=hkT_ok hmx tabC2_ok 6
noncomputable def msgL(k b:List Nat)(c:Nat):List Nat:=(Sh.beB c 4++(Sh.beB (c%3) 4++Sh.beB c 8))++sxL k b c
theorem seal_run(k m b:List Nat)(hk:k.length=16)(hkb:Sh.Byt k)(hm:m.length=32)(hmb:Sh.Byt m)(hb:b.length=32)(hbb:Sh.Byt b):(List.range 20).map (fun c=>rowPs (callW HC2 Xt 13 32 [.a (.q (.byt ⟨k,16,hk,hkb⟩)),.a (.q (.byt ⟨m,32,hm,hmb⟩)),.v (.int .i64 (.ofNat c)),.a (nncR c),.a (.q (.byt ⟨b,32,hb,hbb⟩))] .e 0)) =
 (List.range 20).map fun c=>[[.q (.byt (sxV k b c))],[.q (.sha (hmI m (msgL k b c)))]]:=by kernel_rfl
noncomputable def fSeal(args:List SV):Option SV:=match args with
 |[.a k,.a m,.v (.int .i64 (.ofNat i)),.a n,.a b]=>(match bytesP k,bytesP m,nncP n,bytesP b with
  |some x,some z,some c,some y=>bif Nat.beq x.n 16&&Nat.beq z.n 32&&(Nat.beq y.n 32&&Nat.beq i c) then some (.t [.a (.q (.byt (sxV x.l y.l c))),.a (.q (.sha (hmI z.l (msgL x.l y.l c))))]) else none
  |_,_,_,_=>none)
 |_=>none
theorem rseal_leaf:LeafOk Xt 32 (leafV fSeal):=leafV_ok (enters (by kernel_rfl)) fun args y hf r vals w hd hg=>by
 unfold fSeal at hf
 split at hf
 ·rename_i k0 m0 i n0 b0
  split at hf
  ·rename_i x z c y hx hz hc hy
   obtain ⟨k,n,hl,hb⟩:=x
   obtain ⟨m,n3,hl3,hb3⟩:=z
   obtain ⟨b,n2,hl2,hb2⟩:=y
   cases hq:Nat.beq n 16&&Nat.beq n3 32&&(Nat.beq n2 32&&Nat.beq i c) with
   |false=>simp only [hq] at hf;cases hf
   |true =>
    simp only [hq] at hf;cases hf
    simp only [Bool.and_eq_true,beq_iff,decide_eq_true_eq] at hq
    obtain ⟨⟨rfl,rfl⟩,rfl,rfl⟩:=hq
    cases hd with|cons d1 t=>cases t with|cons d2 t=>cases t with|cons d3 t=>cases t with|cons d4 t=>cases t with|cons d5 t =>
     cases t
     cases d3
     cases d1 with|a d1=>cases d2 with|a d2=>cases d4 with|a d4=>cases d5 with|a d5 =>
      obtain rfl:=bytesP_ok hx d1
      obtain rfl:=bytesP_ok hz d2
      obtain rfl:=bytesP_ok hy d5
      obtain ⟨h20,rfl⟩:=nncP_ok hc d4
      exact (row2_call (vals:=[.agg (nv .u8 k).toArray,.agg (nv .u8 m).toArray,.int .i64 (.ofNat i),.agg #[.int .u32 ((i%3:Nat):Int),.int .u64 (i:Int)],.agg (nv .u8 b).toArray]) hmx HC2_ok (all_of (seal_run k m b hl hb hl3 hb3 hl2 hb2) (List.mem_range.2 h20)) (fun _ _=>atF) (fun _ _=>atF)
       (.cons (.a (.q (.byt ⟨k,16,hl,hb⟩))) (.cons (.a (.q (.byt ⟨m,32,hl3,hb3⟩))) (.cons (.v _) (.cons (.a (nncR_den i)) (.cons (.a (.q (.byt ⟨b,32,hl2,hb2⟩))) .nil))))) hg).mono fun e w' ⟨h1,h2⟩=>⟨_,h1,.t (.cons (.a (.q (.byt (sxV k b i)))) (.cons (.a (.q (.sha _))) .nil)),h2⟩
  ·cases hf
 ·cases hf
noncomputable def tabV:List (FuncId×Leaf):=[(31,leafV (fSeed plainV)),(28,leafV (fSeed masterV)),(27,leafV fKeys),(32,leafV fSeal),(29,rNew2),(33,rWith2),(43,lRoot),(40,lNod 3)]++tabN0
theorem tabV_ok:∀p∈tabV,LeafOk Xt p.1 p.2:=by
 intro p hp
 rcases List.mem_append.1 hp with hp|hp
 ·simp only [List.mem_cons,List.not_mem_nil,or_false] at hp
  rcases hp with rfl|rfl|rfl|rfl|rfl|rfl|rfl|rfl
  ·exact plain_leaf
  ·exact master_leaf
  ·exact keys_leaf
  ·exact rseal_leaf
  ·exact rNew2_ok
  ·exact rWith2_ok
  ·exact root_leaf
  ·exact nod_leaf fun l hl=>by
    rcases l with _|_|_|l
    ·exact nd0
    ·exact nd1
    ·exact nd2
    ·omega
 ·exact tabN0_ok p hp
noncomputable def HV:Hk:=hkD Xt (leafTab tabV) 14 6
theorem HV_ok:HkOk Xt HV:=hkT_ok hmx tabV_ok 6
end Go.Proofs.YtjboelhcieepkaaGreatDoor
namespace Go.Proofs.YtjboelhcieepkaaGreatDoor
set_option maxRecDepth 16384
open Go.RowKit
noncomputable def nrmX(c:Rp SV):Rp SV:=packP (rbare c [])
noncomputable def nrmXH(b:HB):HB:=⟨b.T,bif Nat.beq b.k 8 then b.cs else nrmX b.cs,b.k⟩
noncomputable def nrmXB:Option HB→Option HB
 |some b=>some (nrmXH b)
 |none=>none
noncomputable def keepY(hp:Tr)(l:List Nat):Tr:=hpOf (l.map fun n=>(n,nrmXB (hp.get n)))
section
variable {r:List Loc}
theorem packX_ok:∀{l:List (Rp SV)} {us:List Value},DenF r l us→DenC r (packP l) us
 |[],_,h=>by cases h;exact .nil
 |_::_,_,h=>by
  cases h with
  |cons h t=>exact DenC.cat h (packX_ok t)
theorem nrmX_ok{c:Rp SV}{us:List Value}(h:DenC r c us):DenC r (nrmX c) us:=packX_ok (rbare_ok c h)
theorem keepY_get{hp:Tr}{l:List Nat}{n:Nat}{b:HB}(h:(keepY hp l).get n=some b):∃b0,hp.get n=some b0∧b=nrmXH b0:=by
 unfold keepY at h
 rw [hpOf_get] at h
 cases hf:(l.map fun n=>(n,nrmXB (hp.get n))).find? fun x=>x.1==n with
 |none=>rw [hf] at h;cases h
 |some x =>
  rw [hf] at h
  have h1:=List.find?_some hf
  obtain ⟨j,_,rfl⟩:=List.mem_map.1 (List.mem_of_find?_eq_some hf)
  simp only [beq_iff_eq] at h1
  subst h1
  simp only [Option.map_some,Option.getD_some] at h
  unfold nrmXB at h
  split at h
  ·rename_i b0 hb;cases h;exact ⟨b0,hb,rfl⟩
  ·cases h
variable {E:Env}{hp:Tr}{nx:Nat}{w:World}
theorem nrmXH_ok{L:Loc}{b:HB}(h:BlkOk E r L b w):BlkOk E r L (nrmXH b) w:=by
 obtain ⟨vs,hd,hk⟩:=h
 by_cases h8:b.k=8
 ·have e:nrmXH b=b:=by
   obtain ⟨T,cs,k⟩:=b
   simp only at h8
   subst h8
   rfl
  rw [e]
  exact ⟨vs,hd,hk⟩
 ·have e:nrmXH b=⟨b.T,nrmX b.cs,b.k⟩:=by unfold nrmXH;rw [show Nat.beq b.k 8=false from by rw [beq_iff];simpa using h8];rfl
  rw [e]
  refine ⟨vs,nrmX_ok hd,?_⟩
  rcases hk with h|h|⟨h1,h2,h3,h4⟩
  ·exact .inl h
  ·exact .inr (.inl h)
  ·exact .inr (.inr ⟨h1,h2,h3,h4.1,h4.2.1,h4.2.2.1,fun h=>absurd h h8⟩)
theorem keepY_ok(h:Mem E r hp nx w)(l:List Nat):Mem E r (keepY hp l) nx w:=by
 refine ⟨h.len,fun n b hb=>?_,fun n m b c L M hb hc hne hk hL hM k hc1 hc2=>?_,h.below,h.fz,fun n b L hb hk hL k hcv=>?_,h.up,fun n b L hb h2 h5 hL=>?_,h.rlt,h.glob⟩
 ·obtain ⟨b0,h0,rfl⟩:=keepY_get hb
  obtain ⟨L,hL,hk⟩:=h.blk n b0 h0
  exact ⟨L,hL,nrmXH_ok hk⟩
 ·obtain ⟨b0,h0,rfl⟩:=keepY_get hb
  obtain ⟨c0,h1,rfl⟩:=keepY_get hc
  exact h.sep n m b0 c0 L M h0 h1 hne hk hL hM k hc1 hc2
 ·obtain ⟨b0,h0,rfl⟩:=keepY_get hb
  exact h.far n b0 L h0 hk hL k hcv
 ·obtain ⟨b0,h0,rfl⟩:=keepY_get hb
  exact h.old n b0 L h0 h2 h5 hL
end
noncomputable def weakX(lh:List Nat)(p:Pos):Pos:=⟨p.h,p.k,⟨p.st.ts,keepY p.st.hp lh,p.st.nx⟩⟩
noncomputable def cutV(ls ns:List Nat)(B:Nat)(p:Pos):Pos:=renum ls ns B (weakX ns p)
structure Cut where
 S:Stp
 es:List Ev
 ls:List Nat
 ns:List Nat
 B:Nat
noncomputable def goV(H:Hk)(n:Nat)(c:Cut)(p:Pos):Pos×List Ob×Bool:=(cutV c.ls c.ns c.B (evRun c.S H Xt n c.es p).1,(evRun c.S H Xt n c.es p).2,plainK (evRun c.S H Xt n c.es p).1.k)
def SegV(w:World)(p q:Pos):Prop:=∀(Q0:Post),CollOk Xt.P Q0→Xp (E0 Xt w) [] Q0 q→Xp (E0 Xt w) [] Q0 p
theorem SegV.rfl_(w:World)(p:Pos):SegV w p p:=fun _ _ h=>h
theorem SegV.trans{w:World}{p q s:Pos}(h1:SegV w p q)(h2:SegV w q s):SegV w p s:=fun Q0 h0 hq=>h1 Q0 h0 (h2 Q0 h0 hq)
theorem SegV.go{w:World}{H:Hk}(hH:HkOk Xt H){n:Nat}{c:Cut}{p q:Pos}{obs:List Ob}(h:goV H n c p=(q,obs,true))(ho:∀ob∈obs,ob.Holds (E0 Xt w)):SegV w p q:=by
 intro Q0 h0 hq
 unfold goV at h
 simp only [Prod.mk.injEq] at h
 obtain ⟨h1,h2,h3⟩:=h
 refine evRun_ok (S:=c.S) (E:=E0 Xt w) hmx hH h0 n c.es (fun ob hob=>ho ob (h2▸hob)) ?_
 have h4:Xp (E0 Xt w) [] Q0 (weakX c.ns (evRun c.S H Xt n c.es p).1):=renum_ok c.ls c.ns c.B h3 (by
  have:renum c.ls c.ns c.B (weakX c.ns (evRun c.S H Xt n c.es p).1)=q:=h1
  rw [this];exact hq)
 intro r vs w' Q hr hs hm hk
 exact h4 r vs w' Q hr hs (keepY_ok hm c.ns) hk
theorem Mem.swap{E:Env}{r:List Loc}{hp:Tr}{nx:Nat}{w:World}(h:Mem E r hp nx w){n:Nat}{b:HB}(hb:hp.get n=some b)(_h8:b.k≠8)(c:Rp SV)(hok:∀L,r[n]?=some L→BlkOk E r L ⟨b.T,c,b.k⟩ w):Mem E r (hp.put n ⟨b.T,c,b.k⟩) nx w:=by
 have key:∀{m:Nat} {x:HB},(hp.put n ⟨b.T,c,b.k⟩).get m=some x→∃y,hp.get m=some y∧y.k=x.k∧∀L,r[m]?=some L→BlkOk E r L y w→BlkOk E r L x w:=by
  intro m x hx
  rw [Tre.get_put] at hx
  by_cases e:m=n
  ·subst e
   rw [if_pos rfl] at hx
   cases hx
   exact ⟨b,hb,rfl,fun L hL _=>hok L hL⟩
  ·rw [if_neg e] at hx
   exact ⟨x,hx,rfl,fun _ _ h=>h⟩
 have cov:∀{x y:HB} {L:Loc} {k:Nat},y.k=x.k→Cov x L k→Cov y L k:=fun hk hc=>hc.elim .inl fun h=>.inr ⟨hk.trans h.1,h.2⟩
 refine ⟨h.len,fun m x hx=>?_,fun m1 m2 x1 x2 L M h1 h2 hne hk hL hM k c1 c2=>?_,h.below,h.fz,fun m x L hx hk hL k hcv=>?_,h.up,fun m x L hx h2 h5 hL=>?_,h.rlt,h.glob⟩
 ·obtain ⟨y,hy,_,ho⟩:=key hx
  obtain ⟨L,hL,hB⟩:=h.blk m y hy
  exact ⟨L,hL,ho L hL hB⟩
 ·obtain ⟨y1,hy1,e1,_⟩:=key h1
  obtain ⟨y2,hy2,e2,_⟩:=key h2
  exact h.sep m1 m2 y1 y2 L M hy1 hy2 hne (by rw [e1];exact hk) hL hM k (cov e1 c1) (cov e2 c2)
 ·obtain ⟨y,hy,e,_⟩:=key hx
  exact h.far m y L hy (by rw [e];exact hk) hL k (cov e hcv)
 ·obtain ⟨y,hy,e,_⟩:=key hx
  exact h.old m y L hy (by rw [e];exact h2) (by rw [e];exact h5) hL
noncomputable def cutI(fx:Nat)(ls ns:List Nat)(B:Nat)(p:Pos):Pos:=⟨p.h,p.k,⟨(cutV ls ns B p).st.ts,(cutV ls ns B p).st.hp.set (nrmXB (p.st.hp.get fx)) fx,ns.length⟩⟩
noncomputable def goI(H:Hk)(n fx T kk:Nat)(c:Cut)(p:Pos):Pos×List Ob×Bool:=(cutI fx c.ls c.ns c.B (evRun c.S H Xt n c.es p).1,(evRun c.S H Xt n c.es p).2,plainK (evRun c.S H Xt n c.es p).1.k&&(match idx c.ns fx with
 |some j=>Nat.beq j fx
 |none=>false)&&(match (cutV c.ls c.ns c.B (evRun c.S H Xt n c.es p).1).st.hp.get fx with
 |some b=>Nat.beq b.T T&&Nat.beq b.k kk
 |none=>false))
def FixS(k:Nat)(x:SV):Prop:=∀r r' v,(∀n,n<k→∀L,r[n]?=some L→r'[n]?=some L)→Den r x v→Den r' x v
def Fix(k:Nat)(c:Rp SV):Prop:=∀r r' us,(∀n,n<k→∀L,r[n]?=some L→r'[n]?=some L)→DenC r c us→DenC r' c us
theorem FixS.v(k:Nat)(y:Value):FixS k (.v y):=fun _ _ _ _ h=>by cases h;exact .v y
theorem FixS.s(k n o l c:Nat)(hn:n<k):FixS k (.s n o l c):=fun _ _ _ hr h=>by cases h with|s hL=>exact .s (hr n hn _ hL)
theorem Fix.nil(k:Nat):Fix k .nil:=fun _ _ _ _ h=>by cases h;exact .nil
theorem Fix.cons{k:Nat}{x:SV}{l:List (Rp SV)}(hx:FixS k x)(hl:Fix k (packP l)):Fix k (packP (.one x::l)):=by
 intro r r' us hr h
 have h':DenC r (cat (.one x) (packP l)) us:=h
 have e:cat (.one x) (packP l)=.one x∨∃s t,cat (.one x) (packP l)=.node s t (.one x) (packP l):=by
  cases packP l<;>first|exact .inl rfl|exact .inr ⟨_,_,rfl⟩
 show DenC r' (cat (.one x) (packP l)) us
 rcases e with e|⟨s,t,e⟩
 ·rw [e] at h' ⊢
  cases h' with|one h1 h2=>exact .one (hx r r' _ hr h1) h2
 ·rw [e] at h' ⊢
  cases h' with|node ha hb hs ht=>cases ha with|one h1 h2=>exact .node (.one (hx r r' _ hr h1) h2) (hl r r' _ hr hb) hs ht
theorem SegV.goI{w:World}{H:Hk}(hH:HkOk Xt H){n fx k T kk:Nat}{c:Cut}{p q:Pos}{obs:List Ob}{row:Rp SV}(h:Go.Proofs.YtjboelhcieepkaaGreatDoor.goI H n fx T kk c p=(q,obs,true))(hq:q.st.hp.get fx=some ⟨T,row,kk⟩)(h8:kk≠8)(hf:Fix k row)(hk:∀n,n<k→idx c.ns n=some n)(ho:∀ob∈obs,ob.Holds (E0 Xt w)):SegV w p q:=by
 intro Q0 h0 hx
 unfold Go.Proofs.YtjboelhcieepkaaGreatDoor.goI at h
 simp only [Prod.mk.injEq,Bool.and_eq_true] at h
 obtain ⟨h1,h2,⟨h3,h3'⟩,h4'⟩:=h
 refine evRun_ok (S:=c.S) (E:=E0 Xt w) hmx hH h0 n c.es (fun ob hob=>ho ob (h2▸hob)) ?_
 obtain ⟨pe,hpe⟩:∃pe,pe=(evRun c.S H Xt n c.es p).1:=⟨_,rfl⟩
 show Xp (E0 Xt w) [] Q0 (evRun c.S H Xt n c.es p).1
 rw [←hpe] at h1 h3 h4' ⊢
 obtain ⟨c0,h4⟩:∃c0,(cutV c.ls c.ns c.B pe).st.hp.get fx=some ⟨T,c0,kk⟩:=by
  split at h4'
  ·rename_i b hb
   rw [Bool.and_eq_true] at h4'
   obtain ⟨T',c0,kk'⟩:=b
   rw [←Nat.eq_of_beq_eq_true h4'.1,←Nat.eq_of_beq_eq_true h4'.2]
   exact ⟨c0,hb⟩
  ·cases h4'
 have hidx:idx c.ns fx=some fx:=by
  split at h3'
  ·rename_i j hj
   rw [hj,Nat.eq_of_beq_eq_true h3']
  ·cases h3'
 subst h1
 have hset:nrmXB (pe.st.hp.get fx)=some ⟨T,row,kk⟩:=by
  have:((cutV c.ls c.ns c.B pe).st.hp.set (nrmXB (pe.st.hp.get fx)) fx).get fx=some ⟨T,row,kk⟩:=hq
  rw [Tre.get_set,if_pos rfl] at this
  exact this
 intro r vs w' Q hr hs hm hk2
 have hm1:=keepY_ok hm c.ns
 have hm2:=renM (ns:=c.ns) hm1 c.B
 have hget:(keepY pe.st.hp c.ns).get fx=some ⟨T,row,kk⟩:=by
  unfold keepY
  rw [hpOf_get]
  have hmem:fx∈c.ns:=List.mem_of_getElem? (idx_ok hidx)
  cases hfnd:(c.ns.map fun n=>(n,nrmXB (pe.st.hp.get n))).find? fun x=>x.1==fx with
  |none =>
   have:=List.find?_eq_none.1 hfnd (fx,nrmXB (pe.st.hp.get fx)) (List.mem_map.2 ⟨fx,hmem,rfl⟩)
   simp at this
  |some x =>
   have e1:=List.find?_some hfnd
   obtain ⟨j,_,rfl⟩:=List.mem_map.1 (List.mem_of_find?_eq_some hfnd)
   simp only [beq_iff_eq] at e1
   subst e1
   exact hset
 obtain ⟨L,hL,hB⟩:=hm1.blk fx _ hget
 have hL2:=renR_get hidx hL
 have hmv:∀us,DenC r row us→DenC (renR r c.ns) row us:=fun us=>hf r (renR r c.ns) us fun n hn M hM=>renR_get (hk n hn) hM
 have hm3:=hm2.swap (n:=fx) (b:=⟨T,c0,kk⟩) h4 h8 row (fun M hM=>by
  rw [hL2] at hM
  cases hM
  obtain ⟨vs',hd,hkk⟩:=hB
  refine ⟨vs',hmv _ hd,?_⟩
  rcases hkk with h|h|⟨a1,a2,a3,a4⟩
  ·exact .inl h
  ·exact .inr (.inl h)
  ·exact .inr (.inr ⟨a1,a2,a3,a4.1,a4.2.1,a4.2.2.1,fun h=>absurd h h8⟩))
 have e:(cutV c.ls c.ns c.B pe).st.hp.set (nrmXB (pe.st.hp.get fx)) fx=(cutV c.ls c.ns c.B pe).st.hp.put fx ⟨T,row,kk⟩:=by rw [hset];rfl
 have:=hx (renR r c.ns) vs w' Q ⟨_,rfl⟩ (renS_ok hs c.ls) (by
  show Mem (E0 Xt w) (renR r c.ns) ((cutV c.ls c.ns c.B pe).st.hp.set (nrmXB (pe.st.hp.get fx)) fx) c.ns.length w'
  rw [e];exact hm3) (plainK_ok h3 hk2)
 obtain ⟨g1,g2⟩:=plainK_fr h3 r
 obtain ⟨g3,g4⟩:=plainK_fr h3 (renR r c.ns)
 have e2:HdOk (frOf (renR r c.ns) pe.k) (dfOf (renR r c.ns) pe.k) Xt.P pe.h Q vs w':=this
 show HdOk (frOf r pe.k) (dfOf r pe.k) Xt.P pe.h Q vs w'
 rw [g1,g2]
 rwa [g3,g4] at e2
end Go.Proofs.YtjboelhcieepkaaGreatDoor
namespace Go.Proofs.YtjboelhcieepkaaGreatDoor
set_option maxRecDepth 16384
open Go.RowKit
noncomputable def tabQ:List (FuncId×Leaf):=stops [5,7,6,10,9,15] tab7
theorem tabQ_ok:∀p∈tabQ,LeafOk Xt p.1 p.2:=stops_ok tab7_ok
noncomputable def HQ:Hk:=hkD Xt (leafTab tabQ) 14 6
theorem HQ_ok:HkOk Xt HQ:=hkT_ok hmx tabQ_ok 6
noncomputable def HZ:Hk:=hkD Xt (leafTab tab7) 14 6
theorem HZ_ok:HkOk Xt HZ:=hkT_ok hmx tab7_ok 6
noncomputable def rowX(T:Nat)(X:Nat→VNode):Rp SV:=packP ((List.range T).map fun k=>.q (.node (X k)))
noncomputable def rowG(T i:Nat)(nd:VNode)(X:Nat→VNode):Rp SV:=packP ((List.range T).map fun k=>.q (.node (bif Nat.beq k i then nd else X k)))
noncomputable def treX(T n:Nat):Rp SV:=.node 1 2 (.one (i64v n)) (.one (.s 0 0 T T))
def dirsT:List Dir:=[.r,.r,.r,.r,.l,.r,.b,.b,.l,.r]
def dirsR:List Dir:=[.r,.r,.r,.r,.l,.r,.b,.b,.r,.l,.b,.r,.r,.r,.r,.l]
noncomputable def cutS(cut:Nat):SV:=.v (.int .u8 (.ofNat cut))
noncomputable def QLr(T i n:Nat)(c:SV)(row:Rp SV):Pos:=posAt 3 dirsT [(1,c),(6,.p 1 0),(10,i64v i),(36,.v (.bool (Nat.blt i T)))] [(0,some ⟨67,row,0⟩),(1,some ⟨44,treX T n,0⟩)] 2
noncomputable def PRr(T i n N:Nat)(c y:SV)(brow:Rp SV)(dg:List Nat)(row:Rp SV):Pos:=posAt 3 dirsR [(1,c),(6,.p 1 0),(10,i64v i),(11,.s 2 0 N N),(13,y),(14,.p 3 0),(15,ok0)]
 [(0,some ⟨67,row,0⟩),(1,some ⟨44,treX T n,0⟩),(2,some ⟨5,brow,0⟩),(3,some ⟨32,.arr .u8 32 dg,0⟩)] 4
def SQ:Stp:=⟨[36],[],0⟩
def lsQ:List Nat:=[1,6,10,36]
def kInt(cut:Nat):Int:=(IntKind.i64.wrap (Int.ofNat cut)).tmod 137
noncomputable def digR(dg:List Nat)(_:Nat):SV:=.t [.a (.arr .u8 32 dg),ok0]
noncomputable def one(p:Pos):Pos:=runE S0 HQ Xt 0 p
noncomputable def tnB(dg:List Nat)(p:Pos):Pos×List Ob:=evRun ⟨[36],[15],0⟩ HQ Xt 12 [.b true,.c [] (digR dg) []] p
noncomputable def goB(dg:List Nat)(p:Pos):Pos×List Ob×Bool:=(cutV [1,6,10,11,13,14,15] [0,1,2,3] 0 (one (one (one (tnB dg p).1))),(tnB dg p).2,plainK (one (one (one (tnB dg p).1))).k)
noncomputable def obsB(nd:VNode)(dg:List Nat):List Ob:=[.t true true,.c 9 [.a (.q (.node nd))] [] [] 3 (digR dg 3) []]
def BLp(T i ix:Nat):Prop:=∀(n cut:Nat) (dg:List Nat) (X:Nat→VNode) (a b c d:VRec) (h:ix≤7),goB dg (QLr T i n (cutS cut) (rowG T i (.leaf ix a b c d h) X)) =
 (PRr T i n 185 (cutS cut) (.v (.int .i64 (kInt cut))) (.q (.nodeB (.leaf ix a b c d h))) dg (rowG T i (.leaf ix a b c d h) X),obsB (.leaf ix a b c d h) dg,true)
def BIp(T i lv ix:Nat):Prop:=∀(n cut:Nat) (dg:List Nat) (X:Nat→VNode) (a b c d:VEnt) (hl:1≤lv∧lv≤2) (h:ix≤7),goB dg (QLr T i n (cutS cut) (rowG T i (.inner lv ix a b c d hl h) X)) =
 (PRr T i n 137 (cutS cut) (.v (.int .i64 (kInt cut))) (.q (.nodeB (.inner lv ix a b c d hl h))) dg (rowG T i (.inner lv ix a b c d hl h) X),obsB (.inner lv ix a b c d hl h) dg,true)
def mn(k:Nat):Nat:=bif Nat.ble k 5 then k else 5
def mx(k:Nat):Nat:=bif Nat.ble k 5 then 5 else k
structure Cts(N:Nat) where
 a:Nat→List Nat
 b:Nat→List Nat
 c:Nat→List Nat
 ha:∀k,(a k).length=mn k
 hb:∀k,(b k).length=mx k-mn k
 hc:∀k,(c k).length=N-mx k
 ba:∀k,Sh.Byt (a k)
 bb:∀k,Sh.Byt (b k)
 bc:∀k,Sh.Byt (c k)
noncomputable def row3{N:Nat}(C:Cts N)(k:Nat):Rp SV:=packP [.q (.byt ⟨C.a k,mn k,C.ha k,C.ba k⟩),.q (.byt ⟨C.b k,mx k-mn k,C.hb k,C.bb k⟩),.q (.byt ⟨C.c k,N-mx k,C.hc k,C.bc k⟩)]
noncomputable def kX(T i n N:Nat)(c:SV)(dg:List Nat)(C:Cts N)(row:Rp SV)(k:Nat):Option (Pos×List ObY×Bool):=(evDraw Xt (leafTab tab7) 14 6 [] [(79,false),(93,false),(115,false)] (PRr T i n N c (i64v k) (row3 C k) dg row)).map fun y=>(cutV lsQ [0,1] 0 (runE SQ HQ Xt 12 y.1),y.2,plainK (runE SQ HQ Xt 12 y.1).k)
def P1c{N:Nat}(C:Cts N)(k:Nat):List Nat:=bif Nat.ble k 5 then C.a k else C.a k++C.b k
def P2c{N:Nat}(C:Cts N)(k:Nat):List Nat:=bif Nat.beq k 0 then C.a k++(C.b k++C.c k) else bif Nat.ble k 5 then C.b k++C.c k else C.c k
def P3c{N:Nat}(C:Cts N)(k:Nat):List Nat:=bif Nat.blt k 5 then C.c k else C.b k++C.c k
noncomputable def neL(dg l:List Nat):Bool:=!(decide (dg=Sh.shaF l)&&true)
noncomputable def obsK{N:Nat}(lv ix:Nat)(dg:List Nat)(C:Cts N)(k:Nat):List ObY:=[.t (neL dg [[lv],[0,0,0,ix],P3c C k].flatten) false,.t (neL dg (([]++P1c C k)++P2c C k)) false,.t (neL dg [P1c C k,P2c C k].flatten) false]
def ks(a b:Nat):List Nat:=(List.range (b-a)).map (a+·)
def KLp(T i ix a b:Nat):Prop:=∀(n cut:Nat) (dg:List Nat) (C:Cts 185) (X:Nat→VNode) (x0 x1 x2 x3:VRec) (h:ix≤7),(ks a b).map (kX T i n 185 (cutS cut) dg C (rowG T i (.leaf ix x0 x1 x2 x3 h) X))=(ks a b).map fun k=>some (QLr T (i+1) n (cutS cut) (rowG T i (.leaf ix x0 x1 x2 x3 h) X),obsK 0 ix dg C k,true)
def KIp(T i lv ix a b:Nat):Prop:=∀(n cut:Nat) (dg:List Nat) (C:Cts 137) (X:Nat→VNode) (x0 x1 x2 x3:VEnt) (hl:1≤lv∧lv≤2) (h:ix≤7),(ks a b).map (kX T i n 137 (cutS cut) dg C (rowG T i (.inner lv ix x0 x1 x2 x3 hl h) X))=(ks a b).map fun k=>some (QLr T (i+1) n (cutS cut) (rowG T i (.inner lv ix x0 x1 x2 x3 hl h) X),obsK lv ix dg C k,true)
noncomputable def tnE(T n:Nat)(c:SV)(row:Rp SV):Pos×List Ob:=evRun SQ HQ Xt 12 [.b false,.c [] (fun _=>.v (.bool true)) []] (QLr T T n c row)
noncomputable def tnF(T n:Nat)(c:SV)(row:Rp SV):Option SV×List Ob:=((finP Xt 3 (tnE T n c row).1).map (·.1),(tnE T n c row).2)
def EnP(T:Nat):Prop:=∀(n:Nat) (c:SV) (X:Nat→VNode),tnF T n c (rowX T X)=(some (.v (.bool true)),[.t false false,.c 15 [] [] [] 2 (.v (.bool true)) []])
end Go.Proofs.YtjboelhcieepkaaGreatDoor
namespace Go.Proofs.YtjboelhcieepkaaGreatDoor
set_option maxRecDepth 16384
open Go.RowKit
noncomputable def tabK:List (FuncId×Leaf):=stops [23,181] tab4
noncomputable def HK:Hk:=hkD Xt (leafTab tabK) 14 6
theorem HK_ok:HkOk Xt HK:=hkT_ok hmx (stops_ok tab4_ok) 6
noncomputable def chA(n l j:Nat)(R:Nat→VRec)(Ee:Nat→VEnt)(q:Int)(v:Value):List SV:=[i64v n,.a (dskT (secs n) q v),.a (.q (.node (ndR n R Ee (l+1) (j / 4)))),i64v (j%4)]
noncomputable def slO(s:Nat)(_:Nat):SV:=.t [i64v s,ok0]
noncomputable def chE(s:Nat)(x:VNode):List Ev:=[.b false,.c [] (slO s) [],.c [] (fun _=>ndRes x) []]
noncomputable def chX(n l j s:Nat)(R:Nat→VRec)(Ee:Nat→VEnt)(x:VNode)(q:Int)(v:Value):Pos×List Ob:=evRun ⟨[35],[],0⟩ HK Xt 12 (chE s x) (evPos Xt 49 (chA n l j R Ee q v) .e 0)
noncomputable def chRun(n l j s:Nat)(R:Nat→VRec)(Ee:Nat→VEnt)(x:VNode)(q:Int)(v:Value):Option SV×List Ob:=((finP Xt 49 (chX n l j s R Ee x q v).1).map (·.1),(chX n l j s R Ee x q v).2)
noncomputable def chN(n l j:Nat)(Ee:Nat→VEnt):VEnt:=ee n Ee l (4*(j / 4)+j%4)
noncomputable def chO(n l j s:Nat)(Ee:Nat→VEnt)(x:VNode)(q:Int)(v:Value):List Ob:=[.t (decide (((chN n l j Ee).s:Int)=0)) false,.c 23 [.v (.int .u8 (.ofNat (chN n l j Ee).s))] [] [] 13 (slO s 0) [],.c 181 (ndA n l j s q v (chN n l j Ee).dig) [] [] 13 (ndRes x) []]
def chDom(n:Nat):List ((Nat×Nat)×Nat):=((plcs n).filter fun p=>Nat.blt p.1 (hgt n)).flatMap fun p=>[(p,0),(p,1)]
def ChP(n:Nat):Prop:=∀(R:Nat→VRec) (Ee:Nat→VEnt) (x:VNode) (q:Int) (v:Value),(chDom n).map (fun d=>chRun n d.1.1 d.1.2 d.2 R Ee x q v)=(chDom n).map fun d=>(some (ndRes x),chO n d.1.1 d.1.2 d.2 Ee x q v)
theorem ch_1:ChP 1:=by intro R Ee x q v;kernel_rfl
theorem ch_2:ChP 2:=by intro R Ee x q v;kernel_rfl
theorem ch_3:ChP 3:=by intro R Ee x q v;kernel_rfl
theorem ch_4:ChP 4:=by intro R Ee x q v;kernel_rfl
theorem ch_5:ChP 5:=by intro R Ee x q v;kernel_rfl
theorem ch_6:ChP 6:=by intro R Ee x q v;kernel_rfl
theorem ch_7:ChP 7:=by intro R Ee x q v;kernel_rfl
theorem ch_8:ChP 8:=by intro R Ee x q v;kernel_rfl
theorem ch_9:ChP 9:=by intro R Ee x q v;kernel_rfl
theorem ch_10:ChP 10:=by intro R Ee x q v;kernel_rfl
theorem ch_11:ChP 11:=by intro R Ee x q v;kernel_rfl
theorem ch_12:ChP 12:=by intro R Ee x q v;kernel_rfl
theorem ch_13:ChP 13:=by intro R Ee x q v;kernel_rfl
theorem ch_14:ChP 14:=by intro R Ee x q v;kernel_rfl
theorem ch_15:ChP 15:=by intro R Ee x q v;kernel_rfl
theorem ch_16:ChP 16:=by intro R Ee x q v;kernel_rfl
theorem ch_17:ChP 17:=by intro R Ee x q v;kernel_rfl
theorem ch_18:ChP 18:=by intro R Ee x q v;kernel_rfl
theorem ch_19:ChP 19:=by intro R Ee x q v;kernel_rfl
theorem ch_20:ChP 20:=by intro R Ee x q v;kernel_rfl
theorem ch_any:∀n,1≤n→n≤20→ChP n
 |1,_,_=>ch_1
 |2,_,_=>ch_2
 |3,_,_=>ch_3
 |4,_,_=>ch_4
 |5,_,_=>ch_5
 |6,_,_=>ch_6
 |7,_,_=>ch_7
 |8,_,_=>ch_8
 |9,_,_=>ch_9
 |10,_,_=>ch_10
 |11,_,_=>ch_11
 |12,_,_=>ch_12
 |13,_,_=>ch_13
 |14,_,_=>ch_14
 |15,_,_=>ch_15
 |16,_,_=>ch_16
 |17,_,_=>ch_17
 |18,_,_=>ch_18
 |19,_,_=>ch_19
 |20,_,_=>ch_20
 |n+21,_,h=>absurd h (by omega)
 |0,h,_=>absurd h (by omega)
theorem mem_chDom{n l j s:Nat}(hl3:l<3)(hl:l<hgt n)(hj:j<cnt n l)(hs:s<2):((l,j),s)∈chDom n:=by
 simp only [chDom,List.mem_flatMap,List.mem_filter,blt_iff,decide_eq_true_eq]
 refine ⟨(l,j),⟨mem_plcs hl3 hj,hl⟩,?_⟩
 rcases s with _|_|s
 ·simp
 ·simp
 ·omega
theorem rslot_all:[0,1].map (fun s=>(callW H4 Xt 12 23 [.v (.int .u8 (.ofNat (s+1)))] .e 0).map (·.1))=[0,1].map fun s=>some (slO s 0):=by kernel_rfl
theorem rslot_call{s:Nat}(hs:s<2)(w:World)(hg:GlobOk Xt w):Calls Xt.P 23 #[.int .u8 ((s+1:Nat):Int)] w fun e' w'=>e'=.returned (.tuple #[.int .i64 (s:Int),.int .i64 0])∧Below w.heap.size w w':=by
 have h:=all_of rslot_all (show s∈[0,1] by simp;omega)
 obtain ⟨⟨res,st⟩,h1,h2⟩:=Option.map_eq_some_iff.1 h
 simp only at h2
 subst h2
 refine (callW_ok (E:=E0 Xt w) (r:=[]) (vals:=[.int .u8 ((s+1:Nat):Int)]) hmx H4_ok h1 (.cons (.v _) .nil) (Mem.start Xt w hg)).mono ?_
 rintro e' w' ⟨q,v,rfl,hd,hm⟩
 cases hd with|t d=>cases d with|cons d1 d=>cases d with|cons d2 d =>
  cases d;cases d1;cases d2
  exact ⟨rfl,hm.below⟩
theorem child_call{n l j s g c0:Nat}{R:Nat→VRec}{Ee:Nat→VEnt}{q:Int}(h1:1≤n)(h20:n≤20)(hl3:l<3)(hl:l<hgt n)(hj:j<cnt n l)(hs:s<2)(w:World)(hg:GlobOk Xt w)(L:List (Option VCnt))(hd:DskIs w g c0 L)
 (hL:L[sctr n l j s]?=some (some (.nd (ndR n R Ee l j)))) (hst:(ee n Ee l j).s=s+1) (hdg:Sh.shaF (ndR n R Ee l j).bytes=(ee n Ee l j).dig) :
 Calls Xt.P 49 #[.int .i64 (n:Int),.agg #[.int .i64 (secs n:Int),.int .i64 q,.slice (some ⟨g,0,none⟩) 1 c0],.agg (ndR n R Ee (l+1) (j / 4)).vals.toArray,.int .i64 ((j%4:Nat):Int)] w fun e' w' =>
  e'=.returned (.tuple #[.agg (ndR n R Ee l j).vals.toArray,.agg #[.int .i64 0,.int .u8 0],.int .i64 0])∧Below w.heap.size w w':=by
 have hjj:chN n l j Ee=ee n Ee l j:=by unfold chN;rw [show 4*(j / 4)+j%4=j by omega]
 obtain ⟨x,hx⟩:∃x,x=ndR n R Ee l j:=⟨_,rfl⟩
 have h:=all_of (ch_any n h1 h20 R Ee x q (.slice (some ⟨g,0,none⟩) 1 c0)) (mem_chDom hl3 hl hj hs)
 unfold chRun at h
 simp only [Prod.mk.injEq] at h
 obtain ⟨h2,h3⟩:=h
 obtain ⟨⟨res,st⟩,h4,h5⟩:=Option.map_eq_some_iff.1 h2
 simp only at h5
 subst h5
 refine (evCall_ok (E:=E0 Xt w) (r:=[]) (vals:=[.int .i64 (n:Int),.agg #[.int .i64 (secs n:Int),.int .i64 q,.slice (some ⟨g,0,none⟩) 1 c0],.agg (ndR n R Ee (l+1) (j / 4)).vals.toArray,.int .i64 ((j%4:Nat):Int)]) hmx HK_ok h4 ?_ ?_ (Mem.start Xt w hg)).mono ?_
 ·intro ob hob
  have hob':ob∈(chX n l j s R Ee x q (.slice (some ⟨g,0,none⟩) 1 c0)).2:=hob
  rw [h3] at hob'
  simp only [chO,hjj,List.mem_cons,List.not_mem_nil,or_false] at hob'
  rcases hob' with rfl|rfl|rfl
  ·show decide (((ee n Ee l j).s:Int)=0)=false
   rw [hst]
   exact decide_eq_false (by omega)
  ·refine obx_calls (E:=E0 Xt w) (enters (by kernel_rfl)) fun r vals w1 hp ha hm=>?_
   cases ha with|cons d1 t =>
    cases t
    cases d1
    rw [hst]
    refine (rslot_call hs w1 hm.globs).mono ?_
    rintro e' w' ⟨rfl,hb'⟩
    exact ⟨_,rfl,.t (.cons (.v _) (.cons (.v _) .nil)),hb'⟩
  ·refine obx_calls (E:=E0 Xt w) (enters (by kernel_rfl)) fun r vals w1 hp ha hm=>?_
   have hb:Below w.heap.size w w1:=hm.below
   have hv:vals=[.agg #[.int .i64 (n:Int),.int .i64 (secs n:Int),.int .i64 q,.slice (some ⟨g,0,none⟩) 1 c0],.agg #[.int .i64 (l:Int),.int .i64 (j:Int)],.int .i64 (s:Int),.agg (nv .u8 (ee n Ee l j).dig).toArray]:=by
    cases ha with|cons d1 t=>cases t with|cons d2 t=>cases t with|cons d3 t=>cases t with|cons d4 t =>
     cases t;cases d3
     cases d1 with|a d1 =>
      have d1':DenC r (.node 1 4 (.one (i64v n)) (.node 1 3 (.one (i64v (secs n))) (.node 1 2 (.one (.v (.int .i64 q))) (.one (.v (.slice (some ⟨g,0,none⟩) 1 c0)))))) _:=d1
      cases d1' with|node e1 e2 _ _=>cases e2 with|node e2 e3 _ _=>cases e3 with|node e3 e4 _ _ =>
       rw [one_inv e1,one_inv e2,one_inv e3,one_inv e4]
       cases d2 with|a d2=>cases d2 with|node f1 f2 _ _ =>
        rw [one_inv f1,one_inv f2]
        cases d4 with|a d4=>rw [arr_inv d4];rfl
   rw [hv]
   refine (node_call n l j s g c0 R Ee q h1 h20 hl3 hj hs w1 hm.globs L (hd.keep hb) hL _ hdg).mono ?_
   rintro e' w' ⟨rfl,hb'⟩
   refine ⟨_,rfl,?_,hb'⟩
   rw [hx]
   exact .t (.cons (.a (.q (.node _))) (.cons (.a (vs:=[.int .i64 0,.int .u8 0]) (.node (us:=[.int .i64 0]) (.one (.v _) rfl) (.one (.v _) rfl) rfl rfl)) (.cons (.v _) .nil)))
 ·refine .cons (.v _) (.cons (.a (vs:=[.int .i64 (secs n:Int),.int .i64 q,.slice (some ⟨g,0,none⟩) 1 c0]) ?_) (.cons (.a (.q (.node _))) (.cons (.v _) .nil)))
  exact .node (us:=[.int .i64 (secs n:Int)]) (.one (.v _) rfl) (.node (us:=[.int .i64 q]) (.one (.v _) rfl) (.one (.v _) rfl) rfl rfl) rfl rfl
 ·rintro e' w' ⟨qq,v,he,hdv,hm⟩
  refine ⟨?_,hm.below⟩
  rw [he,←hx]
  cases hdv with|t d=>cases d with|cons d1 d=>cases d with|cons d2 d=>cases d with|cons d3 d =>
   cases d;cases d3
   cases d1 with|a d1 =>
    cases d1
    cases d2 with|a d2=>cases d2 with|node e1 e2 _ _=>rw [one_inv e1,one_inv e2];rfl
end Go.Proofs.YtjboelhcieepkaaGreatDoor
namespace Go.Proofs.YtjboelhcieepkaaGreatDoor
set_option maxRecDepth 16384
open Go.RowKit
noncomputable def tabT:List (FuncId×Leaf):=stops [44,46,23,49,50] tab4
noncomputable def HT:Hk:=hkD Xt (leafTab tabT) 14 6
theorem HT_ok:HkOk Xt HT:=hkT_ok hmx (stops_ok tab4_ok) 6
noncomputable def zI(z:Nat):SV:=i64v z
def belowR(n:Nat):List (Nat×Nat):=((List.range (hgt n)).reverse).flatMap fun l=>(List.range (cnt n l)).map fun j=>(l,j)
noncomputable def trE(n:Nat)(em:Nat→Nat→Bool)(Z:Nat→Nat)(R:Nat→VRec)(Ee:Nat→VEnt):List Ev:=(belowR n).flatMap fun p=>bif em p.1 p.2 then [.c [] (fun _=>.t [i64v 0,i64v 11]) []] else [.c [] (fun _=>.t [zI (Z (num n p.1 p.2)),ok0]) [],.c [] (fun _=>ndRes (ndR n R Ee p.1 p.2)) []]
noncomputable def trP1(n:Nat)(x:VNode)(q:Int)(v:Value)(dg:List Nat)(e m:Value):Pos×List Ob:=evRun S0 HT Xt 12 [.c [] (fun _=>ndRes x) []] (evPos Xt 6 (rootA n q v dg e m) .e 0)
noncomputable def trP(n:Nat)(x:VNode)(z0:Nat)(q:Int)(v:Value)(dg:List Nat)(e m:Value):Option ((Pos×List Ob)×List ObY):=(evDraw Xt (leafTab tabT) 14 6 [⟨46,[],[],fun _=>zI z0,[]⟩] [] (trP1 n x q v dg e m).1).map fun y=>((y.1,(trP1 n x q v dg e m).2),y.2)
noncomputable def trX(n:Nat)(em:Nat→Nat→Bool)(Z:Nat→Nat)(R:Nat→VRec)(Ee:Nat→VEnt)(z0:Nat)(q:Int)(v:Value)(dg:List Nat)(e m:Value)(es:List Ev):Option ((Pos×List Ob)×List ObY):=(trP n (ndR n R Ee (hgt n) 0) z0 q v dg e m).map fun y=>(((evRun S0 HT Xt 13 (trE n em Z R Ee++es) y.1.1).1,y.1.2++(evRun S0 HT Xt 13 (trE n em Z R Ee++es) y.1.1).2),y.2)
noncomputable def rowsT(n:Nat)(R:Nat→VRec)(Ee:Nat→VEnt):Rp SV:=packP ((plcs n).map fun p=>.q (.node (ndR n R Ee p.1 p.2)))
noncomputable def endT(n:Nat)(R:Nat→VRec)(Ee:Nat→VEnt):List Ev:=[.k 5 (rowsT n R Ee) false,.c [5] (fun _=>ok0) []]
noncomputable def trF(y:Option ((Pos×List Ob)×List ObY)):Option (((Option SV×Option HB)×Option HB)×List Ob×List ObY):=y.map fun y=>((((finP Xt 6 y.1.1).map (·.1),y.1.1.st.hp.get 5),y.1.1.st.hp.get 6),y.1.2,y.2)
noncomputable def emptyPs(lv ix:Nat)(ps:List (Rp SV)):List (Rp SV):=.one (.v (.int .u8 (lv:Int)))::.one (.v (.int .u32 (ix:Int)))::zRp (zRp (zRp (zRp (zEp (zEp (zEp (zEp ps)))))))
noncomputable def rowsE(n:Nat)(em:Nat→Nat→Bool)(R:Nat→VRec)(Ee:Nat→VEnt):List (Rp SV):=(plcs n).foldr (fun p ps=>bif Nat.blt p.1 (hgt n)&&em p.1 p.2 then emptyPs p.1 p.2 ps else .q (.node (ndR n R Ee p.1 p.2))::ps) []
noncomputable def trSl(n l j nx:Nat)(pe em:Bool)(Z:Nat→Nat)(Ee:Nat→VEnt):Ob:=.c 23 [.v (.int .u8 (.ofNat (bif pe then 0 else (chN n l j Ee).s)))] [] [] nx (bif em then .t [i64v 0,i64v 11] else .t [zI (Z (num n l j)),ok0]) []
noncomputable def trOb(n:Nat)(em:Nat→Nat→Bool)(Z:Nat→Nat)(R:Nat→VRec)(Ee:Nat→VEnt)(q:Int)(v:Value):List (Nat×Nat)→Nat→List Ob
 |[],_=>[]
 |p::l,nx=>trSl n p.1 p.2 nx (Nat.blt (p.1+1) (hgt n)&&em (p.1+1) (p.2 / 4)) (em p.1 p.2) Z Ee::(bif em p.1 p.2 then trOb n em Z R Ee q v l (nx+3) else .c 49 (chA n p.1 p.2 R Ee q v) [] [] nx (ndRes (ndR n R Ee p.1 p.2)) []::trOb n em Z R Ee q v l (nx+3))
noncomputable def treeR(n:Nat):Rp SV:=.node 1 2 (.one (i64v n)) (.one (.s 5 0 (tot n) (tot n)))
noncomputable def trObs(n:Nat)(em:Nat→Nat→Bool)(Z:Nat→Nat)(R:Nat→VRec)(Ee:Nat→VEnt)(q:Int)(v:Value)(dg:List Nat)(e m:Value):List Ob:=.c 44 (rootA n q v dg e m) [] [] 4 (ndRes (ndR n R Ee (hgt n) 0)) []::(trOb n em Z R Ee q v (belowR n) 10 ++
 [.r (packP (rowsE n em R Ee)) (rowsT n R Ee),.c 50 [.a (treeR n)] [5] [some ⟨67,rowsT n R Ee,0⟩] (4+3*tot n) ok0 []])
noncomputable def trRes(n:Nat):SV:=.t [.a (treeR n),.s 6 0 (tot n) (tot n),.a pr0,ok0]
def pats:Nat→List (List Bool)
 |0=>[[]]
 |k+1=>(pats k).flatMap fun p=>[false::p,true::p]
def emP(n:Nat)(p:List Bool)(l j:Nat):Bool:=bif Nat.beq l 0 then p.getD j false else (List.range (cnt n 0)).all fun i=>!(Nat.beq (i / 4) j) || p.getD i false
noncomputable def int3(l:List Nat):Rp SV:=packP (l.map fun x=>.one (i64v x))
def slotsT(n:Nat)(em:Nat→Nat→Bool)(Z:Nat→Nat)(z0:Nat):List Nat:=(plcs n).map fun p=>bif Nat.beq p.1 (hgt n) then z0 else bif em p.1 p.2 then 1 else Z (num n p.1 p.2)
noncomputable def trGo(n:Nat)(em:Nat→Nat→Bool)(Z:Nat→Nat)(R:Nat→VRec)(Ee:Nat→VEnt)(z0:Nat)(q:Int)(v:Value)(dg:List Nat)(e m:Value):Option (((Option SV×Option HB)×Option HB)×List Ob×List ObY):=trF (trX n em Z R Ee z0 q v dg e m (endT n R Ee))
noncomputable def trWant(n:Nat)(em:Nat→Nat→Bool)(Z:Nat→Nat)(R:Nat→VRec)(Ee:Nat→VEnt)(z0:Nat)(q:Int)(v:Value)(dg:List Nat)(e m:Value):Option (((Option SV×Option HB)×Option HB)×List Ob×List ObY):=some (((some (trRes n),some ⟨67,rowsT n R Ee,0⟩),some ⟨3,int3 (slotsT n em Z z0),0⟩),trObs n em Z R Ee q v dg e m,[.c ⟨46,[.a (cellR dg e m)],[],[],[],7,zI z0,[]⟩])
def TrW(n:Nat):Prop:=∀(Z:Nat→Nat) (R:Nat→VRec) (Ee:Nat→VEnt) (z0:Nat) (q:Int) (v:Value) (dg:List Nat) (e m:Value),
 (pats (cnt n 0)).map (fun p=>trGo n (emP n p) Z R Ee z0 q v dg e m)=(pats (cnt n 0)).map fun p=>trWant n (emP n p) Z R Ee z0 q v dg e m
end Go.Proofs.YtjboelhcieepkaaGreatDoor
namespace Go.Proofs.YtjboelhcieepkaaGreatDoor
set_option maxRecDepth 16384
open Go.RowKit
structure VP where
 bl:Nat
 ep:Nat
 ma:Nat
 pl:List Nat
 sl:List Nat
 el:List Nat
 ml:List Nat
 he:el.length=16
 heb:Sh.Byt el
 hm:ml.length=32
 hmb:Sh.Byt ml
noncomputable def vp0(bl ep ma:Nat)(pl sl:List Nat):VP:=⟨bl,ep,ma,pl,sl,encL (masterL ma),macL (masterL ma),(encV (masterL ma)).hl,(encV (masterL ma)).hb,(macV (masterL ma)).hl,(macV (masterL ma)).hb⟩
def n8(n:Nat):Rp SV:=.one (.v (.int .u8 (.ofNat n)))
def n64(n:Nat):Rp SV:=.one (.v (.int .u64 (.ofNat n)))
def nilV:SV:=.v (.slice none 0 0)
noncomputable def vR(x:VP)(pp sp:SV):Rp SV:=packP [n8 x.bl,.one pp,.one sp,n8 x.ep,n8 x.ma]
def zz16:List Nat:=List.replicate 16 0
def zz32:List Nat:=List.replicate 32 0
noncomputable def volZ:Rp SV:=packP [.one (i64v 0),.arr .u8 16 zz16,.arr .u8 32 zz32,.one nilV,.arr .u8 32 zz32,n64 0,n64 0,.one nilV,.one nilV,.one nilV]
noncomputable def volR(n:Nat)(x:VP)(ref:SV)(bs rs ss:SV):Rp SV:=packP [.one (i64v n),.q (.byt ⟨x.el,16,x.he,x.heb⟩),.q (.byt ⟨x.ml,32,x.hm,x.hmb⟩),.one ref,.arr .u8 32 zz32,n64 0,n64 0,.one bs,.one rs,.one ss]
noncomputable def rowsB(i:Nat)(B:Nat→List Nat):Rp SV:=packP ((List.range i).map fun j=>.arr .u8 32 (B j))
noncomputable def secV(n:Nat):Nat:=2*n+2*tot n
def nilIf(b:Bool)(x:SV):SV:=bif b then nilV else x
def noneIf(b:Bool)(x:HB):Option HB:=bif b then none else some x
noncomputable def hpV(x:VP)(pp sp:SV)(n2 n3 N:Nat)(n i k:Nat)(R:Nat→VRec)(B:Nat→List Nat)(L:List (Option VCnt))(S:Nat→Bool):List (Nat×Option HB) :=
 [(0,some ⟨5,.arr .u8 n2 x.pl,2⟩),(1,some ⟨5,.arr .u8 n3 x.sl,2⟩),(2,some ⟨25,vR x pp sp,0⟩),(3,some ⟨40,volZ,0⟩),
  (4,some ⟨40,volR n x (.gs 5 (secV n)) (nilIf (Nat.beq i 0) (.w 6 i)) (nilIf (Nat.beq i 0) (.w 7 i)) (nilIf (Nat.beq k 0) (.w 8 k)),0⟩),(5,some ⟨0,.q (.gh (secV n+2) N L),8⟩),
  (6,noneIf (Nat.beq i 0) ⟨81,rowsB i B,1⟩),(7,noneIf (Nat.beq i 0) ⟨61,ropeR i R,1⟩),(8,noneIf (Nat.beq k 0) ⟨3,ropeB k S,1⟩)]
def dirs1:List Dir:=[.r,.r,.r,.r,.r,.l,.r,.b,.b,.l,.r]
def dirs2:List Dir:=[.r,.r,.r,.r,.r,.r,.l,.r,.b,.b,.l,.r]
def dirs3:List Dir:=[.r,.r,.r,.r,.r,.r,.r,.r,.r,.l,.r,.b,.b,.r,.l,.b,.r,.b,.b,.l,.r]
noncomputable def P1(x:VP)(pp sp:SV)(n2 n3 n i:Nat)(R:Nat→VRec)(B:Nat→List Nat)(L:List (Option VCnt)):Pos :=
 posAt 5 dirs1 [(1,.p 2 0),(2,.p 3 0),(3,.p 4 0),(4,i64v i),(37,.v (.bool (Nat.blt i n)))] (hpV x pp sp n2 n3 i n i 0 R B L fun _=>false) 9
noncomputable def P2(x:VP)(pp sp:SV)(n2 n3 n k:Nat)(R:Nat→VRec)(B:Nat→List Nat)(L:List (Option VCnt))(S:Nat→Bool):Pos :=
 posAt 5 dirs2 [(1,.p 2 0),(2,.p 3 0),(3,.p 4 0),(8,i64v k),(118,.v (.bool (Nat.blt k (tot n))))] (hpV x pp sp n2 n3 n n n k R B L S) 9
noncomputable def P3(x:VP)(pp sp:SV)(n2 n3 n l j:Nat)(R:Nat→VRec)(B:Nat→List Nat)(L:List (Option VCnt))(S:Nat→Bool):Pos :=
 posAt 5 dirs3 [(1,.p 2 0),(2,.p 3 0),(3,.p 4 0),(10,i64v (hgt n)),(11,i64v l),(12,i64v j),(163,.v (.bool (Nat.blt j (cnt n l))))] (hpV x pp sp n2 n3 (n+num n l j) n n (tot n) R B L S) 9
noncomputable def hp0(x:VP)(n2 n3:Nat):Tr:=(Tre.e.put 0 ⟨5,.arr .u8 n2 x.pl,2⟩).put 1 ⟨5,.arr .u8 n3 x.sl,2⟩
noncomputable def P0(x:VP)(pp sp:SV)(n2 n3:Nat):Pos:=evPos Xt 5 [.a (vR x pp sp)] (hp0 x n2 n3) 2
noncomputable def nEx(bl:Nat):Int:=IntKind.i64.wrap (1+(IntKind.i64.wrap (Int.ofNat bl)).tmod 20)
noncomputable def volN(y:SV):Rp SV:=packP [.one y,.arr .u8 16 zz16,.arr .u8 32 zz32,.one nilV,.arr .u8 32 zz32,n64 0,n64 0,.one nilV,.one nilV,.one nilV]
noncomputable def cut0(n:Nat):Cut:=⟨⟨[37],[20],0⟩,[.k 4 (volN (i64v n)) true],[1,2,3,4,37],[0,1,2,3,4,5,900,901,902],0⟩
noncomputable def R0(n:Nat):Prop:=∀(bl ep ma:Nat) (pl sl:List Nat) (pp sp:SV) (n2 n3:Nat) (R:Nat→VRec) (B:Nat→List Nat),
 goI HV 12 2 25 0 (cut0 n) (P0 (vp0 bl ep ma pl sl) pp sp n2 n3)=(P1 (vp0 bl ep ma pl sl) pp sp n2 n3 n 0 R B (repV (secV n)),[.r (volN (.v (.int .i64 (nEx bl)))) (volN (i64v n))],true)
noncomputable def pAt(x:VP)(i:Nat):Nat:=x.pl.getD (2*i) 0
noncomputable def sAt(x:VP)(i:Nat):Nat:=x.pl.getD (2*i+1) 0
noncomputable def zR0:Rp SV:=packP [n8 0,.one (.v (.int .u32 (.ofNat 0))),n64 0,.arr .u8 32 zz32]
noncomputable def tgI(x:VP)(i:Nat):List Nat:=hmI x.ml (msgL x.el (plainL (sAt x i)) i)
def ltI(a b:Nat):Bool:=decide ((a:Int)<(b:Int))
noncomputable def ob3(x:VP)(i:Nat):Bool:=decide ((0:Int)<((pAt x i:Nat):Int).tmod 3)
def S1:Stp:=⟨[37,54],[46,85,104,110],0⟩
noncomputable def recR(s i:Nat):Rp SV:=packP [n8 s,.one (.v (.int .u32 (.ofNat (i%3)))),n64 i,.arr .u8 32 zz32]
noncomputable def recX(x:VP)(i:Nat):Rp SV:=packP [.one (.v (.int .u8 (((pAt x i:Nat):Int).tmod 3))),.one (.v (.int .u32 (.ofNat (i%3)))),n64 i,.arr .u8 32 zz32]
noncomputable def recT(x:VP)(s i:Nat):Rp SV:=packP [n8 s,.one (.v (.int .u32 (.ofNat (i%3)))),n64 i,.arr .u8 32 (Sh.shaF (tgI x i))]
def l1:List Nat:=[1,2,3,4,37]
noncomputable def cutA(g:Bool)(i:Nat)(R:Nat→VRec)(B:Nat→List Nat):Cut:=⟨S1,[.b true,.g g,.b false,.k 9 (.arr .u8 32 (B i)) true,.k 10 (.q (.rcd (R i))) true],l1,[0,1,2,3,4,5,12,14,902],i+1⟩
noncomputable def cutC(s i:Nat)(R:Nat→VRec)(B:Nat→List Nat):Cut:=⟨S1,[.b true,.g true,.b true,.k 10 (recR s i) true,.k 9 (.arr .u8 32 (B i)) true,.k 10 (.q (.rcd (R i))) true],l1,[0,1,2,3,4,12,14,16,902],i+1⟩
noncomputable def obA(_x:VP)(lp i:Nat)(R:Nat→VRec)(B:Nat→List Nat):List Ob:=[.t true true,.t (ltI i lp) false,.t false false,.r (.arr .u8 32 zz32) (.arr .u8 32 (B i)),.r zR0 (.q (.rcd (R i)))]
noncomputable def obB(x:VP)(lp i:Nat)(R:Nat→VRec)(B:Nat→List Nat):List Ob:=[.t true true,.t (ltI i lp) true,.t (ob3 x i) false,.r (.arr .u8 32 zz32) (.arr .u8 32 (B i)),.r zR0 (.q (.rcd (R i)))]
noncomputable def obC(x:VP)(s lp i:Nat)(R:Nat→VRec)(B:Nat→List Nat):List Ob:=[.t true true,.t (ltI i lp) true,.t (ob3 x i) true,.r (recX x i) (recR s i),.r (.arr .u8 32 (plainL (sAt x i))) (.arr .u8 32 (B i)),.r (recT x s i) (.q (.rcd (R i)))]
noncomputable def go1(c:Cut)(p:Pos):Pos×List Ob×Bool:=goI HV 12 2 25 0 c p
noncomputable def RZ(n:Nat):Prop:=∀(x:VP) (A:Option Addr) (c n2 n3:Nat) (sp:SV) (R:Nat→VRec) (B:Nat→List Nat) (L:List (Option VCnt)),(List.range n).map (fun i=>go1 (cutA false i R B) (P1 x (.v (.slice A 0 c)) sp n2 n3 n i R B L))=(List.range n).map fun i=>(P1 x (.v (.slice A 0 c)) sp n2 n3 n (i+1) R B L,obA x 0 i R B,true)
noncomputable def RA(n:Nat):Prop:=∀(x:VP) (lp c n2 n3:Nat) (sp:SV) (R:Nat→VRec) (B:Nat→List Nat) (L:List (Option VCnt)),(List.range n).map (fun i=>go1 (cutA false i R B) (P1 x (.s 0 0 lp c) sp n2 n3 n i R B L))=(List.range n).map fun i=>(P1 x (.s 0 0 lp c) sp n2 n3 n (i+1) R B L,obA x lp i R B,true)
noncomputable def ppI(m c i:Nat):SV:=.s 0 0 (m+(i+1)) c
noncomputable def n2I(m2 i:Nat):Nat:=m2+(2*i+2)
noncomputable def RB(n:Nat):Prop:=∀(x:VP) (m c m2 n3:Nat) (sp:SV) (R:Nat→VRec) (B:Nat→List Nat) (L:List (Option VCnt)),(List.range n).map (fun i=>go1 (cutA true i R B) (P1 x (ppI m c i) sp (n2I m2 i) n3 n i R B L))=(List.range n).map fun i=>(P1 x (ppI m c i) sp (n2I m2 i) n3 n (i+1) R B L,obB x (m+(i+1)) i R B,true)
noncomputable def RC(s n:Nat):Prop:=∀(x:VP) (m c m2 n3:Nat) (sp:SV) (R:Nat→VRec) (B:Nat→List Nat) (L:List (Option VCnt)),(List.range n).map (fun i=>go1 (cutC s i R B) (P1 x (ppI m c i) sp (n2I m2 i) n3 n i R B L)) =
 (List.range n).map fun i=>(P1 x (ppI m c i) sp (n2I m2 i) n3 n (i+1) R B (L.set (2*i+(s-1)) (some (.by_ (sxV x.el (plainL (sAt x i)) i)))),obC x s (m+(i+1)) i R B,true)
noncomputable def cut12(n:Nat):Cut:=⟨⟨[37,118],[],0⟩,[.b false],[1,2,3,8,118],[0,1,2,3,4,5,6,7,902],n⟩
noncomputable def R12(n:Nat):Prop:=∀(x:VP) (pp sp:SV) (n2 n3:Nat) (R:Nat→VRec) (B:Nat→List Nat) (L:List (Option VCnt)) (S:Nat→Bool),go1 (cut12 n) (P1 x pp sp n2 n3 n n R B L)=(P2 x pp sp n2 n3 n 0 R B L S,[.t false false],true)
noncomputable def bitsP(k:Nat)(S:Nat→Bool)(ps:List (Rp SV)):Rp SV:=packP ((List.range k).map (fun i=>.q (.bit (S i)))++ps)
noncomputable def cut2(g:Bool)(n k:Nat)(S:Nat→Bool):Cut:=⟨⟨[118,125],[119],0⟩,[.b true,.b g,.k 10 (ropeB (k+1) S) true],[1,2,3,8,118],[0,1,2,3,4,5,6,7,10],n⟩
noncomputable def ob2A(ls k:Nat)(S:Nat→Bool):List Ob:=[.t true true,.t (ltI k ls) false,.r (bitsP k S [.one (i64v 0)]) (ropeB (k+1) S)]
noncomputable def slX(x:VP)(k:Nat):Int:=IntKind.i64.wrap (((x.sl.getD k 0:Nat):Int).tmod 2)
noncomputable def ob2B(x:VP)(ls k:Nat)(S:Nat→Bool):List Ob:=[.t true true,.t (ltI k ls) true,.r (bitsP k S [.one (.v (.int .i64 (slX x k)))]) (ropeB (k+1) S)]
noncomputable def RZ2(n:Nat):Prop:=∀(x:VP) (A:Option Addr) (c n2 n3:Nat) (pp:SV) (R:Nat→VRec) (B:Nat→List Nat) (L:List (Option VCnt)) (S:Nat→Bool),(List.range (tot n)).map (fun k=>go1 (cut2 false n k S) (P2 x pp (.v (.slice A 0 c)) n2 n3 n k R B L S))=(List.range (tot n)).map fun k=>(P2 x pp (.v (.slice A 0 c)) n2 n3 n (k+1) R B L S,ob2A 0 k S,true)
noncomputable def RA2(n:Nat):Prop:=∀(x:VP) (ls c n2 n3:Nat) (pp:SV) (R:Nat→VRec) (B:Nat→List Nat) (L:List (Option VCnt)) (S:Nat→Bool),(List.range (tot n)).map (fun k=>go1 (cut2 false n k S) (P2 x pp (.s 1 0 ls c) n2 n3 n k R B L S))=(List.range (tot n)).map fun k=>(P2 x pp (.s 1 0 ls c) n2 n3 n (k+1) R B L S,ob2A ls k S,true)
noncomputable def spI(m c k:Nat):SV:=.s 1 0 (m+(k+1)) c
noncomputable def RB2(n:Nat):Prop:=∀(x:VP) (m c n2 m3:Nat) (pp:SV) (R:Nat→VRec) (B:Nat→List Nat) (L:List (Option VCnt)) (S:Nat→Bool),(List.range (tot n)).map (fun k=>go1 (cut2 true n k S) (P2 x pp (spI m c k) n2 (m3+(k+1)) n k R B L S))=(List.range (tot n)).map fun k=>(P2 x pp (spI m c k) n2 (m3+(k+1)) n (k+1) R B L S,ob2B x (m+(k+1)) k S,true)
noncomputable def cut23(n:Nat)(S:Nat→Bool):Cut:=⟨⟨[118,155,163],[150],0⟩,[.b false,.k 8 (ropeB (tot n) S) true,.b true],[1,2,3,10,11,12,163],[0,1,2,3,4,5,6,7,8],n⟩
noncomputable def epX(x:VP):Int:=IntKind.i64.wrap (((x.ep:Nat):Int).tmod 2)
noncomputable def R23(n:Nat):Prop:=∀(x:VP) (pp sp:SV) (n2 n3:Nat) (R:Nat→VRec) (B:Nat→List Nat) (L:List (Option VCnt)) (S S':Nat→Bool),go1 (cut23 n S') (P2 x pp sp n2 n3 n (tot n) R B L S)=(P3 x pp sp n2 n3 n 0 0 R B L S',[.t false false,.r (bitsP (tot n-1) S [.one (.v (.int .i64 (epX x)))]) (ropeB (tot n) S'),.t true true],true)
noncomputable def slotL(m:Nat)(S:Nat→Bool)(k v:Nat):Rp SV:=packP ((List.range m).map fun j=>bif Nat.beq j k then .one (i64v v) else .q (.bit (S j)))
def l3:List Nat:=[1,2,3,10,11,12,163]
def S3:Stp:=⟨[163,176],[13,164],0⟩
noncomputable def cutT(n l j v:Nat)(S:Nat→Bool):Cut:=⟨S3,[.b true,.b true,.k 8 (slotL (tot n) S (num n l j) v) true,.k 8 (ropeB (tot n) S) true],l3,[0,1,2,3,4,10,6,7,8],n+num n l (j+1)⟩
noncomputable def cutF(n l j:Nat):Cut:=⟨⟨[163,176],[],0⟩,[.b true,.b false],l3,[0,1,2,3,4,5,6,7,8],n+num n l (j+1)⟩
noncomputable def emT(n l j:Nat)(R:Nat→VRec):Bool:=bif Nat.beq l (hgt n) then true else !(emR (rL n R) n l j)
noncomputable def ndV(n:Nat)(R:Nat→VRec)(S:Nat→Bool)(l j:Nat):VNode:=ndR n (rL n R) (enF n (rL n R) (bL (tot n) S)) l j
noncomputable def RT(n l v:Nat):Prop:=∀(x:VP) (pp sp:SV) (n2 n3:Nat) (R:Nat→VRec) (B:Nat→List Nat) (L:List (Option VCnt)) (S:Nat→Bool),(List.range (cnt n l)).map (fun j=>go1 (cutT n l j v S) (P3 x pp sp n2 n3 n l j R B L S)) =
 (List.range (cnt n l)).map fun j=>(P3 x pp sp n2 n3 n l (j+1) R B (L.set (bas n l+(2*j+v)) (some (.nd (ndV n R S l j)))) S,[.t true true,.t (emT n l j R) true,.r (ropeB (tot n) S) (slotL (tot n) S (num n l j) v),.r (slotL (tot n) S (num n l j) v) (ropeB (tot n) S)],true)
noncomputable def RF(n l:Nat):Prop:=∀(x:VP) (pp sp:SV) (n2 n3:Nat) (R:Nat→VRec) (B:Nat→List Nat) (L:List (Option VCnt)) (S:Nat→Bool),(List.range (cnt n l)).map (fun j=>go1 (cutF n l j) (P3 x pp sp n2 n3 n l j R B L S)) =
 (List.range (cnt n l)).map fun j=>(P3 x pp sp n2 n3 n l (j+1) R B L S,[.t true true,.t (emT n l j R) false],true)
noncomputable def cutN(n l:Nat):Cut:=⟨⟨[163,155],[],0⟩,[.b false,.b true],l3,[0,1,2,3,4,5,6,7,8],n+num n (l+1) 0⟩
noncomputable def RN(n l:Nat):Prop:=∀(x:VP) (pp sp:SV) (n2 n3:Nat) (R:Nat→VRec) (B:Nat→List Nat) (L:List (Option VCnt)) (S:Nat→Bool),go1 (cutN n l) (P3 x pp sp n2 n3 n l (cnt n l) R B L S)=(P3 x pp sp n2 n3 n (l+1) 0 R B L S,[.t false false,.t true true],true)
noncomputable def finV(x:Option (SV×St)):List (Rp SV)×Option HB:=match x with
 |some (.a c,st)=>(rbare c [],st.hp.get 5)
 |_=>([],none)
noncomputable def endX(p:Pos):Pos×List Ob:=evRun ⟨[163,155],[],0⟩ HV Xt 12 [.b false,.b false] p
noncomputable def resV(x:VP)(n:Nat)(R:Nat→VRec)(S:Nat→Bool):List (Rp SV):=[.one (i64v n),.q (.byt ⟨x.el,16,x.he,x.heb⟩),.q (.byt ⟨x.ml,32,x.hm,x.hmb⟩),.one (.gs 5 (secV n)),.arr .u8 0 [],.q (.sha (ndV n R S (hgt n) 0).bytes),.one (.v (.int .u64 (IntKind.u64.wrap ((x.ep:Nat):Int)))),n64 1000,.one (.w 6 n),.one (.w 7 n),.one (.w 8 (tot n))]
noncomputable def RE(n:Nat):Prop:=∀(x:VP) (pp sp:SV) (n2 n3:Nat) (R:Nat→VRec) (B:Nat→List Nat) (L:List (Option VCnt)) (S:Nat→Bool),(finV (finP Xt 5 (endX (P3 x pp sp n2 n3 n (hgt n) (cnt n (hgt n)) R B L S)).1),(endX (P3 x pp sp n2 n3 n (hgt n) (cnt n (hgt n)) R B L S)).2) =
 ((resV x n R S,some ⟨0,.q (.gh (secV n+2) (n+num n (hgt n) (cnt n (hgt n))) L),8⟩),[.t false false,.t false false])
end Go.Proofs.YtjboelhcieepkaaGreatDoor
