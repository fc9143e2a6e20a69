/-
  caissontop.TopNode: all sizes. (Printed by mktn.py.)
-/
import Derived.Test.YtjboelhcieepkaaGreatDoorZ21
import Derived.Test.YtjboelhcieepkaaGreatDoorQTq1
import Derived.Test.YtjboelhcieepkaaGreatDoorQTq2
import Derived.Test.YtjboelhcieepkaaGreatDoorQTq3
import Derived.Test.YtjboelhcieepkaaGreatDoorQTq4
import Derived.Test.YtjboelhcieepkaaGreatDoorQTq5
import Derived.Test.YtjboelhcieepkaaGreatDoorQTq6
import Derived.Test.YtjboelhcieepkaaGreatDoorQTq7
import Derived.Test.YtjboelhcieepkaaGreatDoorQTq8
namespace Go.Proofs.YtjboelhcieepkaaGreatDoor
set_option maxRecDepth 16384
open Go.RowKit
theorem st_any:∀n,1≤n→n≤20→StP (tot n)
 |1,_,_=>st_1
 |2,_,_=>st_1
 |3,_,_=>st_1
 |4,_,_=>st_1
 |5,_,_=>st_3
 |6,_,_=>st_3
 |7,_,_=>st_3
 |8,_,_=>st_3
 |9,_,_=>st_4
 |10,_,_=>st_4
 |11,_,_=>st_4
 |12,_,_=>st_4
 |13,_,_=>st_5
 |14,_,_=>st_5
 |15,_,_=>st_5
 |16,_,_=>st_5
 |17,_,_=>st_8
 |18,_,_=>st_8
 |19,_,_=>st_8
 |20,_,_=>st_8
 |n+21,_,h=>absurd h (by omega)
 |0,h,_=>absurd h (by omega)
theorem en_any:∀n,1≤n→n≤20→EnP (tot n)
 |1,_,_=>en_1
 |2,_,_=>en_1
 |3,_,_=>en_1
 |4,_,_=>en_1
 |5,_,_=>en_3
 |6,_,_=>en_3
 |7,_,_=>en_3
 |8,_,_=>en_3
 |9,_,_=>en_4
 |10,_,_=>en_4
 |11,_,_=>en_4
 |12,_,_=>en_4
 |13,_,_=>en_5
 |14,_,_=>en_5
 |15,_,_=>en_5
 |16,_,_=>en_5
 |17,_,_=>en_8
 |18,_,_=>en_8
 |19,_,_=>en_8
 |20,_,_=>en_8
 |n+21,_,h=>absurd h (by omega)
 |0,h,_=>absurd h (by omega)
section
variable {w:World}{n cut:Nat}{X:Nat→VNode}
theorem chain_1(hc:cut<256)(h0:KindL X 0 0):SegV w (QLr 1 0 n (cutS cut) (rowX 1 X)) (QLr 1 1 n (cutS cut) (rowX 1 X)) :=
 (roundL bl_1_0 (KLf.of3 kl_1_0_0 kl_1_0_1 kl_1_0_2) hc h0)
theorem chain_3(hc:cut<256)(h0:KindL X 0 0)(h1:KindL X 1 1)(h2:KindI X 2 1 0):SegV w (QLr 3 0 n (cutS cut) (rowX 3 X)) (QLr 3 3 n (cutS cut) (rowX 3 X)) :=
 (((roundL bl_3_0 (KLf.of3 kl_3_0_0 kl_3_0_1 kl_3_0_2) hc h0)).trans (roundL bl_3_1 (KLf.of3 kl_3_1_0 kl_3_1_1 kl_3_1_2) hc h1)).trans (roundI bi_3_2 (KIn.of3 ki_3_2_0 ki_3_2_1 ki_3_2_2) hc h2)
theorem chain_4(hc:cut<256)(h0:KindL X 0 0)(h1:KindL X 1 1)(h2:KindL X 2 2)(h3:KindI X 3 1 0):SegV w (QLr 4 0 n (cutS cut) (rowX 4 X)) (QLr 4 4 n (cutS cut) (rowX 4 X)) :=
 ((((roundL bl_4_0 (KLf.of3 kl_4_0_0 kl_4_0_1 kl_4_0_2) hc h0)).trans (roundL bl_4_1 (KLf.of3 kl_4_1_0 kl_4_1_1 kl_4_1_2) hc h1)).trans (roundL bl_4_2 (KLf.of3 kl_4_2_0 kl_4_2_1 kl_4_2_2) hc h2)).trans (roundI bi_4_3 (KIn.of3 ki_4_3_0 ki_4_3_1 ki_4_3_2) hc h3)
theorem chain_5(hc:cut<256)(h0:KindL X 0 0)(h1:KindL X 1 1)(h2:KindL X 2 2)(h3:KindL X 3 3)(h4:KindI X 4 1 0):SegV w (QLr 5 0 n (cutS cut) (rowX 5 X)) (QLr 5 5 n (cutS cut) (rowX 5 X)) :=
 (((((roundL bl_5_0 (KLf.of3 kl_5_0_0 kl_5_0_1 kl_5_0_2) hc h0)).trans (roundL bl_5_1 (KLf.of3 kl_5_1_0 kl_5_1_1 kl_5_1_2) hc h1)).trans (roundL bl_5_2 (KLf.of3 kl_5_2_0 kl_5_2_1 kl_5_2_2) hc h2)).trans (roundL bl_5_3 (KLf.of3 kl_5_3_0 kl_5_3_1 kl_5_3_2) hc h3)).trans (roundI bi_5_4 (KIn.of3 ki_5_4_0 ki_5_4_1 ki_5_4_2) hc h4)
theorem chain_8(hc:cut<256)(h0:KindL X 0 0)(h1:KindL X 1 1)(h2:KindL X 2 2)(h3:KindL X 3 3)(h4:KindL X 4 4)(h5:KindI X 5 1 0)(h6:KindI X 6 1 1)(h7:KindI X 7 2 0):SegV w (QLr 8 0 n (cutS cut) (rowX 8 X)) (QLr 8 8 n (cutS cut) (rowX 8 X)) :=
 ((((((((roundL bl_8_0 (KLf.of3 kl_8_0_0 kl_8_0_1 kl_8_0_2) hc h0)).trans (roundL bl_8_1 (KLf.of3 kl_8_1_0 kl_8_1_1 kl_8_1_2) hc h1)).trans (roundL bl_8_2 (KLf.of3 kl_8_2_0 kl_8_2_1 kl_8_2_2) hc h2)).trans (roundL bl_8_3 (KLf.of3 kl_8_3_0 kl_8_3_1 kl_8_3_2) hc h3)).trans (roundL bl_8_4 (KLf.of3 kl_8_4_0 kl_8_4_1 kl_8_4_2) hc h4)).trans (roundI bi_8_5 (KIn.of3 ki_8_5_0 ki_8_5_1 ki_8_5_2) hc h5)).trans (roundI bi_8_6 (KIn.of3 ki_8_6_0 ki_8_6_1 ki_8_6_2) hc h6)).trans (roundI bi_8_7 (KIn.of3 ki_8_7_0 ki_8_7_1 ki_8_7_2) hc h7)
end
theorem chain_any{w:World}{cut:Nat}{R:Nat→VRec}{Ee:Nat→VEnt}(hc:cut<256):∀n,1≤n→n≤20→SegV w (QLr (tot n) 0 n (cutS cut) (rowX (tot n) (XR n R Ee))) (QLr (tot n) (tot n) n (cutS cut) (rowX (tot n) (XR n R Ee)))
 |1,_,_=>chain_1 (X:=XR 1 R Ee) hc ⟨_,_,_,_,_,rfl⟩
 |2,_,_=>chain_1 (X:=XR 2 R Ee) hc ⟨_,_,_,_,_,rfl⟩
 |3,_,_=>chain_1 (X:=XR 3 R Ee) hc ⟨_,_,_,_,_,rfl⟩
 |4,_,_=>chain_1 (X:=XR 4 R Ee) hc ⟨_,_,_,_,_,rfl⟩
 |5,_,_=>chain_3 (X:=XR 5 R Ee) hc ⟨_,_,_,_,_,rfl⟩ ⟨_,_,_,_,_,rfl⟩ ⟨_,_,_,_,_,_,rfl⟩
 |6,_,_=>chain_3 (X:=XR 6 R Ee) hc ⟨_,_,_,_,_,rfl⟩ ⟨_,_,_,_,_,rfl⟩ ⟨_,_,_,_,_,_,rfl⟩
 |7,_,_=>chain_3 (X:=XR 7 R Ee) hc ⟨_,_,_,_,_,rfl⟩ ⟨_,_,_,_,_,rfl⟩ ⟨_,_,_,_,_,_,rfl⟩
 |8,_,_=>chain_3 (X:=XR 8 R Ee) hc ⟨_,_,_,_,_,rfl⟩ ⟨_,_,_,_,_,rfl⟩ ⟨_,_,_,_,_,_,rfl⟩
 |9,_,_=>chain_4 (X:=XR 9 R Ee) hc ⟨_,_,_,_,_,rfl⟩ ⟨_,_,_,_,_,rfl⟩ ⟨_,_,_,_,_,rfl⟩ ⟨_,_,_,_,_,_,rfl⟩
 |10,_,_=>chain_4 (X:=XR 10 R Ee) hc ⟨_,_,_,_,_,rfl⟩ ⟨_,_,_,_,_,rfl⟩ ⟨_,_,_,_,_,rfl⟩ ⟨_,_,_,_,_,_,rfl⟩
 |11,_,_=>chain_4 (X:=XR 11 R Ee) hc ⟨_,_,_,_,_,rfl⟩ ⟨_,_,_,_,_,rfl⟩ ⟨_,_,_,_,_,rfl⟩ ⟨_,_,_,_,_,_,rfl⟩
 |12,_,_=>chain_4 (X:=XR 12 R Ee) hc ⟨_,_,_,_,_,rfl⟩ ⟨_,_,_,_,_,rfl⟩ ⟨_,_,_,_,_,rfl⟩ ⟨_,_,_,_,_,_,rfl⟩
 |13,_,_=>chain_5 (X:=XR 13 R Ee) hc ⟨_,_,_,_,_,rfl⟩ ⟨_,_,_,_,_,rfl⟩ ⟨_,_,_,_,_,rfl⟩ ⟨_,_,_,_,_,rfl⟩ ⟨_,_,_,_,_,_,rfl⟩
 |14,_,_=>chain_5 (X:=XR 14 R Ee) hc ⟨_,_,_,_,_,rfl⟩ ⟨_,_,_,_,_,rfl⟩ ⟨_,_,_,_,_,rfl⟩ ⟨_,_,_,_,_,rfl⟩ ⟨_,_,_,_,_,_,rfl⟩
 |15,_,_=>chain_5 (X:=XR 15 R Ee) hc ⟨_,_,_,_,_,rfl⟩ ⟨_,_,_,_,_,rfl⟩ ⟨_,_,_,_,_,rfl⟩ ⟨_,_,_,_,_,rfl⟩ ⟨_,_,_,_,_,_,rfl⟩
 |16,_,_=>chain_5 (X:=XR 16 R Ee) hc ⟨_,_,_,_,_,rfl⟩ ⟨_,_,_,_,_,rfl⟩ ⟨_,_,_,_,_,rfl⟩ ⟨_,_,_,_,_,rfl⟩ ⟨_,_,_,_,_,_,rfl⟩
 |17,_,_=>chain_8 (X:=XR 17 R Ee) hc ⟨_,_,_,_,_,rfl⟩ ⟨_,_,_,_,_,rfl⟩ ⟨_,_,_,_,_,rfl⟩ ⟨_,_,_,_,_,rfl⟩ ⟨_,_,_,_,_,rfl⟩ ⟨_,_,_,_,_,_,rfl⟩ ⟨_,_,_,_,_,_,rfl⟩ ⟨_,_,_,_,_,_,rfl⟩
 |18,_,_=>chain_8 (X:=XR 18 R Ee) hc ⟨_,_,_,_,_,rfl⟩ ⟨_,_,_,_,_,rfl⟩ ⟨_,_,_,_,_,rfl⟩ ⟨_,_,_,_,_,rfl⟩ ⟨_,_,_,_,_,rfl⟩ ⟨_,_,_,_,_,_,rfl⟩ ⟨_,_,_,_,_,_,rfl⟩ ⟨_,_,_,_,_,_,rfl⟩
 |19,_,_=>chain_8 (X:=XR 19 R Ee) hc ⟨_,_,_,_,_,rfl⟩ ⟨_,_,_,_,_,rfl⟩ ⟨_,_,_,_,_,rfl⟩ ⟨_,_,_,_,_,rfl⟩ ⟨_,_,_,_,_,rfl⟩ ⟨_,_,_,_,_,_,rfl⟩ ⟨_,_,_,_,_,_,rfl⟩ ⟨_,_,_,_,_,_,rfl⟩
 |20,_,_=>chain_8 (X:=XR 20 R Ee) hc ⟨_,_,_,_,_,rfl⟩ ⟨_,_,_,_,_,rfl⟩ ⟨_,_,_,_,_,rfl⟩ ⟨_,_,_,_,_,rfl⟩ ⟨_,_,_,_,_,rfl⟩ ⟨_,_,_,_,_,_,rfl⟩ ⟨_,_,_,_,_,_,rfl⟩ ⟨_,_,_,_,_,_,rfl⟩
 |n+21,_,h=>absurd h (by omega)
 |0,h,_=>absurd h (by omega)
end Go.Proofs.YtjboelhcieepkaaGreatDoor
namespace Go.Proofs.YtjboelhcieepkaaGreatDoor
set_option maxRecDepth 16384
open Go.RowKit
noncomputable def goTop(f:Pos→Pos)(q:Pos):Pos:=Pos.rec (motive:=fun _=>Pos) (fun h k st=>List.rec (motive:=fun _=>Pos) ⟨h,[],st⟩ (fun i k _=>goOn f ⟨h,i::k,st⟩) k) q
theorem goTop_cases(f:Pos→Pos)(q:Pos):goTop f q=f q∨goTop f q=q:=by
 obtain ⟨h,k,st⟩:=q
 cases k with
 |nil=>exact .inr rfl
 |cons i k=>exact goOn_cases f ⟨h,i::k,st⟩
noncomputable def runT(H:Hk)(X:Ctx)(n:Nat):Pos→Pos:=Nat.rec (motive:=fun _=>Pos→Pos) (fun p=>Option.rec (motive:=fun _=>Pos) p (fun q=>q) (stepW H X p)) (fun _ ih p=>goTop ih (ih p)) n
section
variable {E:Env}{r0:List Loc}{Q0:Post}{H:Hk}
theorem runT_ok(hmx:E.X.P.follows .mixedOrders=true)(hH:HkOk E.X H)(h0:CollOk E.X.P Q0):∀(n:Nat) {p:Pos},Xp E r0 Q0 (runT H E.X n p)→Xp E r0 Q0 p
 |0,p,h=>by
  have h':Xp E r0 Q0 (Option.rec (motive:=fun _=>Pos) p (fun q=>q) (stepW H E.X p)):=h
  cases hq:stepW H E.X p with
  |none=>rw [hq] at h';exact h'
  |some q=>rw [hq] at h';exact stepW_ok hmx hH h0 hq h'
 |n+1,p,h=>by
  have h':Xp E r0 Q0 (goTop (runT H E.X n) (runT H E.X n p)):=h
  rcases goTop_cases (runT H E.X n) (runT H E.X n p) with e|e
  ·rw [e] at h';exact runT_ok hmx hH h0 n (runT_ok hmx hH h0 n h')
  ·rw [e] at h';exact runT_ok hmx hH h0 n h'
noncomputable def nextT(H:Hk)(n:Nat)(p:Pos):Pos:=runT H Xt n (runT H Xt 0 p)
theorem next_ok{w:World}{Q0:Post}(hH:HkOk Xt H)(h0:CollOk Xt.P Q0)(n:Nat){p:Pos}(h:Xp (E0 Xt w) r0 Q0 (nextT H n p)):Xp (E0 Xt w) r0 Q0 p :=
 runT_ok (E:=E0 Xt w) hmx hH h0 0 (runT_ok (E:=E0 Xt w) hmx hH h0 n h)
end
def Seg(w:World)(p q:Pos):Prop:=∀(r0:List Loc) (Q0:Post),CollOk Xt.P Q0→Xp (E0 Xt w) r0 Q0 q→Xp (E0 Xt w) r0 Q0 p
theorem Seg.one{H:Hk}(hH:HkOk Xt H)(w:World)(n:Nat)(ls lh:List Nat){p q:Pos}(h:weak ls lh (nextT H n p)=q):Seg w p q:=fun _ _ h0 hq=>next_ok hH h0 n (weak_ok ls lh (h▸hq))
theorem Seg.next{H:Hk}(hH:HkOk Xt H)(w:World)(n:Nat)(p:Pos):Seg w p (nextT H n p):=fun _ _ h0 hq=>next_ok hH h0 n hq
theorem Seg.trans{w:World}{p q s:Pos}(h1:Seg w p q)(h2:Seg w q s):Seg w p s:=fun r0 Q0 h0 hq=>h1 r0 Q0 h0 (h2 r0 Q0 h0 hq)
theorem Seg.call{w:World}{g:FuncId}{fn:Func}{c:Code}{q:Pos}{res:SV}{st:St}{u:Value}(hent:entryS Xt.P g=some (fn,c))(h:Seg w (callPos Xt g []) q)(hf:finS Xt fn q=some (res,st))(hv:valR res=some u)(hg:GlobOk Xt w):
 Calls Xt.P g #[] w fun e w'=>e=.returned u∧Below w.heap.size w w':=by
 have hp:callPos Xt g []=⟨.code c,[],⟨frame [] fn.ntmps,.e,0⟩⟩:=by unfold callPos;rw [hent]
 rw [hp] at h
 have:=calls_of_X2 (E:=E0 Xt w) (k:=[]) (r0:=[]) (vals:=[]) (args:=[]) hent ⟨[],by simp⟩ .nil (Mem.start Xt w hg) rfl rfl rfl (h [] _ collOk_body (finS_ok (E:=E0 Xt w) (r:=[]) hf))
 exact this.mono fun e w' ⟨q,v,he,hd,hm⟩=>⟨by rw [he,valR_eq hv hd],hm.below⟩
noncomputable def H7:Hk:=hkD Xt (leafTab tab7) 20 14
theorem H7_ok:HkOk Xt H7:=hkT_ok hmx tab7_ok 14
def o(x:SV):Rp SV:=.one x
def nu8(n:Nat):Rp SV:=.one (.v (.int .u8 (n:Int)))
def nu32(n:Nat):Rp SV:=.one (.v (.int .u32 (n:Int)))
def nu64(n:Nat):Rp SV:=.one (.v (.int .u64 (n:Int)))
def ni64(n:Nat):Rp SV:=.one (.v (.int .i64 (n:Int)))
def bF:Rp SV:=.one (.v (.bool false))
def pN:Rp SV:=.one (.v (.pointer none))
def arr(k:IntKind)(n:Nat)(l:List Nat):Rp SV:=.arr k n l
def rn{α:Type}(k:Nat)(x:α):List α:=List.replicate k x
def zRs:Nat→List (Rp SV)
 |0=>[]
 |n+1=>nu8 0::nu32 0::nu64 0::.arr .u8 32 z32::zRs n
def zEs:Nat→List (Rp SV)
 |0=>[]
 |n+1=>nu8 0::.arr .u8 32 z32::zEs n
def aN(x:Option VNode):Rp SV:=match x with
 |some x=>.q (.node x)
 |none=>.nil
def aNB(x:Option VNode):Rp SV:=match x with
 |some x=>.q (.nodeB x)
 |none=>.nil
def aR(x:Option VRec):Rp SV:=match x with
 |some x=>.q (.rcd x)
 |none=>.nil
def aE(x:Option VEnt):Rp SV:=match x with
 |some x=>.q (.ent x)
 |none=>.nil
def pk(l:List (Rp SV)):Rp SV:=packP l
def hb(T k:Nat)(c:Rp SV):Option HB:=some ⟨T,c,k⟩
end Go.Proofs.YtjboelhcieepkaaGreatDoor
namespace Go.Proofs.YtjboelhcieepkaaGreatDoor
set_option maxRecDepth 16384
open Go.RowKit
def rrS(n:Nat):List Dir:=List.replicate n .r
noncomputable def lv2:Pos:=posAt 15 (rrS 3) [(1,.p 2 0),(2,.p 456 0),(3,.v (.int .i64 0))] [
(2,hb 81 0 (pk ([arr .u8 32 [200,144,88,32,232,176,120,64,8,208,152,96,40,240,184,128,72,16,216,160,104,48,248,192,136,80,24,224,168,112,56,0]]))),
(6,hb 33 0 (pk ([nu64 0,nu64 0]))),
(28,hb 5 1 (pk ([aNB (mkInner 2 0 (some zent) (some zent) (some zent) (some zent))]))),
(31,hb 242 0 (pk (rn 48 pN++[o (.p 32 0)]++rn 15 pN))),
(32,hb 312 0 (pk ([o (.v (.bool true)),o (.w 28 137),ni64 1,pN]))),
(33,hb 240 0 (pk ([o (.p 31 0)]))),
(253,hb 192 0 (pk ([nu8 0,nu32 0]++zRs 4++zEs 4++[ni64 1]++rn 5 bF++[nu8 0,nu32 1]++zRs 4++zEs 4++[ni64 1]++rn 5 bF++[nu8 0,nu32 2]++zRs 4++zEs 4++[ni64 1]++rn 5 bF++[nu8 0,nu32 3]++zRs 4++zEs 4++[ni64 1]++rn 5 bF++[nu8 0,nu32 4]++zRs 4++zEs 4++[ni64 1]++rn 5 bF++[nu8 1,nu32 0]++zRs 4++zEs 4++[ni64 1]++rn 5 bF++[nu8 1,nu32 1]++zRs 4++zEs 4++[ni64 1]++rn 5 bF++[aN (mkInner 2 0 (some zent) (some zent) (some zent) (some zent)),ni64 0]++rn 5 bF))),
(455,hb 35 0 (pk (rn 5 (arr .u8 0 [])++[arr .u8 32 [205,197,172,215,249,198,87,221,224,156,168,204,181,70,235,22,27,122,192,124,201,197,180,183,106,47,11,188,4,243,33,255],nu64 0,nu64 0]))),
(456,hb 160 0 (pk ([ni64 17,arr .u8 0 [],arr .u8 0 [],arr .u8 16 [183,16,213,123,118,18,156,127,89,137,156,120,38,91,68,133],arr .u8 32 [111,130,102,210,138,98,153,47,22,156,61,224,196,65,81,190,67,192,81,166,82,188,237,76,45,203,132,201,66,190,111,88],ni64 50,ni64 1,o (.s 33 0 1 1),o (.s 455 0 1 1),o (.s 6 0 2 2),nu64 0,nu64 4,nu64 4,ni64 17,o (.s 253 0 8 8),o (.v (.slice none 0 0)),bF])))] 457
noncomputable def lv3:Pos:=posAt 15 (rrS 4) [(1,.p 2 0),(2,.p 456 0),(3,.v (.int .i64 0)),(4,.v (.int .i64 0))] [
(2,hb 81 0 (pk ([arr .u8 32 [200,144,88,32,232,176,120,64,8,208,152,96,40,240,184,128,72,16,216,160,104,48,248,192,136,80,24,224,168,112,56,0]]))),
(28,hb 5 1 (pk ([aNB (mkInner 2 0 (some zent) (some zent) (some zent) (some zent))]))),
(32,hb 312 0 (pk ([o (.v (.bool true)),o (.w 28 137),ni64 1,pN]))),
(456,hb 160 0 (pk ([ni64 17,arr .u8 0 [],arr .u8 0 [],arr .u8 16 [183,16,213,123,118,18,156,127,89,137,156,120,38,91,68,133],arr .u8 32 [111,130,102,210,138,98,153,47,22,156,61,224,196,65,81,190,67,192,81,166,82,188,237,76,45,203,132,201,66,190,111,88],ni64 50,ni64 2,o (.s 886 0 1 1),o (.w 491 2),o (.s 502 0 2 2),nu64 4,nu64 4,nu64 4,ni64 17,o (.s 841 0 8 8),o (.s 876 0 1 1),bF]))),
(491,hb 35 1 (pk (rn 5 (arr .u8 0 [])++[arr .u8 32 [205,197,172,215,249,198,87,221,224,156,168,204,181,70,235,22,27,122,192,124,201,197,180,183,106,47,11,188,4,243,33,255],nu64 0,nu64 0]++rn 9 (arr .u8 0 [])++[arr .u8 32 [205,197,172,215,249,198,87,221,224,156,168,204,181,70,235,22,27,122,192,124,201,197,180,183,106,47,11,188,4,243,33,255],nu64 0,nu64 4]))),
(502,hb 33 0 (pk ([nu64 1,nu64 0]))),
(841,hb 192 0 (pk ([nu8 0,nu32 0]++zRs 4++zEs 4++[ni64 1]++rn 5 bF++[nu8 0,nu32 1]++zRs 4++zEs 4++[ni64 1]++rn 5 bF++[nu8 0,nu32 2]++zRs 4++zEs 4++[ni64 1]++rn 5 bF++[nu8 0,nu32 3]++zRs 4++zEs 4++[ni64 1]++rn 5 bF++[nu8 0,nu32 4,nu8 1,nu32 0,nu64 0,arr .u8 32 [80,120,193,112,198,72,195,35,134,219,184,132,8,55,49,102,208,32,195,224,176,203,254,105,238,73,199,67,151,189,64,152]]++zRs 3++zEs 4++[ni64 1,o (.v (.bool true)),o (.v (.bool true)),bF,bF,bF,nu8 1,nu32 0]++zRs 4++zEs 4++[ni64 1]++rn 5 bF++[nu8 1,nu32 1]++zRs 4++[nu8 1,arr .u8 32 [10,164,21,106,44,39,52,113,137,9,192,233,227,182,76,58,232,61,60,188,12,128,81,132,37,97,56,255,41,238,184,117]]++zEs 3++[ni64 1,o (.v (.bool true))]++rn 4 bF++[nu8 2,nu32 0]++rn 4 (aR (some zrec))++[aE (some zent),nu8 1,arr .u8 32 [63,5,191,123,20,98,169,182,223,115,8,132,43,111,99,19,182,164,185,138,246,24,211,204,77,195,10,118,50,129,170,23],aE (some zent),aE (some zent),ni64 0,o (.v (.bool true))]++rn 4 bF))),
(876,hb 341 1 (pk (rn 4 (arr .u8 0 [])++[arr .u8 16 [183,16,213,123,118,18,156,127,89,137,156,120,38,91,68,133],nu32 0,nu64 0,nu32 0,nu32 1]))),
(881,hb 5 1 (pk ([arr .u8 32 [96,162,175,87,194,30,138,10,73,228,180,252,167,204,11,97,48,22,169,9,166,138,235,194,0,253,177,154,56,122,184,51]]))),
(884,hb 242 0 (pk (rn 32 pN++[o (.p 885 0)]++rn 15 pN++[o (.p 32 0)]++rn 15 pN))),
(885,hb 312 0 (pk ([o (.v (.bool true)),o (.w 881 32),ni64 1,pN]))),
(886,hb 240 0 (pk ([o (.p 884 0)])))] 891
noncomputable def lv5:Pos:=posAt 15 (rrS 6) [(1,.p 2 0),(2,.p 456 0),(3,.v (.int .i64 0)),(4,.v (.int .i64 0)),(5,.v (.int .i64 0)),(6,.p 1327 0)] [
(2,hb 81 0 (pk ([arr .u8 32 [200,144,88,32,232,176,120,64,8,208,152,96,40,240,184,128,72,16,216,160,104,48,248,192,136,80,24,224,168,112,56,0]]))),
(28,hb 5 1 (pk ([aNB (mkInner 2 0 (some zent) (some zent) (some zent) (some zent))]))),
(32,hb 312 0 (pk ([o (.v (.bool true)),o (.w 28 137),ni64 1,pN]))),
(456,hb 160 0 (pk ([ni64 17,arr .u8 0 [],arr .u8 0 [],arr .u8 16 [183,16,213,123,118,18,156,127,89,137,156,120,38,91,68,133],arr .u8 32 [111,130,102,210,138,98,153,47,22,156,61,224,196,65,81,190,67,192,81,166,82,188,237,76,45,203,132,201,66,190,111,88],ni64 50,ni64 5,o (.s 1100 0 1 1),o (.w 1106 3),o (.s 502 0 2 2),nu64 4,nu64 4,nu64 4,ni64 17,o (.s 1236 0 8 8),o (.s 876 0 1 1),bF]))),
(502,hb 33 0 (pk ([nu64 1,nu64 0]))),
(876,hb 341 1 (pk (rn 4 (arr .u8 0 [])++[arr .u8 16 [183,16,213,123,118,18,156,127,89,137,156,120,38,91,68,133],nu32 0,nu64 0,nu32 0,nu32 1]))),
(881,hb 5 1 (pk ([arr .u8 32 [96,162,175,87,194,30,138,10,73,228,180,252,167,204,11,97,48,22,169,9,166,138,235,194,0,253,177,154,56,122,184,51]]))),
(885,hb 312 0 (pk ([o (.v (.bool true)),o (.w 881 32),ni64 1,pN]))),
(1071,hb 5 1 (pk ([aNB (mkLeaf 4 (mkRec 1 0 0 [80,120,193,112,198,72,195,35,134,219,184,132,8,55,49,102,208,32,195,224,176,203,254,105,238,73,199,67,151,189,64,152]) (some zrec) (some zrec) (some zrec))]))),
(1075,hb 312 0 (pk ([o (.v (.bool true)),o (.w 1071 185),ni64 1,pN]))),
(1083,hb 5 1 (pk ([aNB (mkInner 1 1 (mkEnt 1 [10,164,21,106,44,39,52,113,137,9,192,233,227,182,76,58,232,61,60,188,12,128,81,132,37,97,56,255,41,238,184,117]) (some zent) (some zent) (some zent))]))),
(1087,hb 312 0 (pk ([o (.v (.bool true)),o (.w 1083 137),ni64 1,pN]))),
(1095,hb 5 1 (pk ([aNB (mkInner 2 0 (some zent) (mkEnt 1 [63,5,191,123,20,98,169,182,223,115,8,132,43,111,99,19,182,164,185,138,246,24,211,204,77,195,10,118,50,129,170,23]) (some zent) (some zent))]))),
(1098,hb 242 0 (pk (rn 32 pN++[o (.p 885 0)]++rn 9 pN++[o (.p 1075 0),pN,pN,pN,o (.p 1087 0),pN,o (.p 32 0),o (.p 1099 0)]++rn 14 pN))),
(1099,hb 312 0 (pk ([o (.v (.bool true)),o (.w 1095 137),ni64 1,pN]))),
(1100,hb 240 0 (pk ([o (.p 1098 0)]))),
(1106,hb 35 1 (pk (rn 5 (arr .u8 0 [])++[arr .u8 32 [205,197,172,215,249,198,87,221,224,156,168,204,181,70,235,22,27,122,192,124,201,197,180,183,106,47,11,188,4,243,33,255],nu64 0,nu64 0]++rn 9 (arr .u8 0 [])++[arr .u8 32 [205,197,172,215,249,198,87,221,224,156,168,204,181,70,235,22,27,122,192,124,201,197,180,183,106,47,11,188,4,243,33,255],nu64 0,nu64 4]++rn 27 (arr .u8 0 [])++[arr .u8 32 [226,232,23,217,73,35,119,18,20,128,128,228,35,34,33,79,129,180,183,129,180,184,105,91,179,234,140,148,80,211,230,40],nu64 1,nu64 4]))),
(1236,hb 192 0 (pk ([nu8 0,nu32 0]++zRs 4++zEs 4++[ni64 1]++rn 5 bF++[nu8 0,nu32 1]++zRs 4++zEs 4++[ni64 1]++rn 5 bF++[nu8 0,nu32 2]++zRs 4++zEs 4++[ni64 1]++rn 5 bF++[nu8 0,nu32 3]++zRs 4++zEs 4++[ni64 1]++rn 5 bF++[nu8 0,nu32 4,nu8 1,nu32 0,nu64 0,arr .u8 32 [80,120,193,112,198,72,195,35,134,219,184,132,8,55,49,102,208,32,195,224,176,203,254,105,238,73,199,67,151,189,64,152]]++zRs 3++zEs 4++[ni64 0]++rn 5 bF++[nu8 1,nu32 0]++zRs 4++zEs 4++[ni64 1]++rn 5 bF++[nu8 1,nu32 1]++zRs 4++[nu8 1,arr .u8 32 [10,164,21,106,44,39,52,113,137,9,192,233,227,182,76,58,232,61,60,188,12,128,81,132,37,97,56,255,41,238,184,117]]++zEs 3++[ni64 0]++rn 5 bF++[nu8 2,nu32 0]++rn 4 (aR (some zrec))++[aE (some zent),nu8 1,arr .u8 32 [63,5,191,123,20,98,169,182,223,115,8,132,43,111,99,19,182,164,185,138,246,24,211,204,77,195,10,118,50,129,170,23],aE (some zent),aE (some zent),ni64 1]++rn 5 bF))),
(1327,hb 85 0 (pk ([arr .u8 0 [],arr .u8 0 [],arr .u8 16 [183,16,213,123,118,18,156,127,89,137,156,120,38,91,68,133],arr .u8 32 [111,130,102,210,138,98,153,47,22,156,61,224,196,65,81,190,67,192,81,166,82,188,237,76,45,203,132,201,66,190,111,88]])))] 1328
noncomputable def lv6:Pos:=posAt 15 (rrS 7) [(1,.p 2 0),(2,.p 456 0),(3,.v (.int .i64 0)),(4,.v (.int .i64 0)),(5,.v (.int .i64 0)),(6,.p 1327 0),(7,.s 2993 0 17 17),(9,.v (.int .i64 0))] [
(2,hb 81 0 (pk ([arr .u8 32 [200,144,88,32,232,176,120,64,8,208,152,96,40,240,184,128,72,16,216,160,104,48,248,192,136,80,24,224,168,112,56,0]]))),
(28,hb 5 1 (pk ([aNB (mkInner 2 0 (some zent) (some zent) (some zent) (some zent))]))),
(32,hb 312 0 (pk ([o (.v (.bool true)),o (.w 28 137),ni64 1,pN]))),
(456,hb 160 0 (pk ([ni64 17,arr .u8 0 [],arr .u8 0 [],arr .u8 16 [183,16,213,123,118,18,156,127,89,137,156,120,38,91,68,133],arr .u8 32 [111,130,102,210,138,98,153,47,22,156,61,224,196,65,81,190,67,192,81,166,82,188,237,76,45,203,132,201,66,190,111,88],ni64 50,ni64 5,o (.s 1100 0 1 1),o (.w 1106 3),o (.s 502 0 2 2),nu64 4,nu64 4,nu64 4,ni64 17,o (.s 1236 0 8 8),o (.s 876 0 1 1),bF]))),
(502,hb 33 0 (pk ([nu64 1,nu64 0]))),
(876,hb 341 1 (pk (rn 4 (arr .u8 0 [])++[arr .u8 16 [183,16,213,123,118,18,156,127,89,137,156,120,38,91,68,133],nu32 0,nu64 0,nu32 0,nu32 1]))),
(881,hb 5 1 (pk ([arr .u8 32 [96,162,175,87,194,30,138,10,73,228,180,252,167,204,11,97,48,22,169,9,166,138,235,194,0,253,177,154,56,122,184,51]]))),
(885,hb 312 0 (pk ([o (.v (.bool true)),o (.w 881 32),ni64 1,pN]))),
(1071,hb 5 1 (pk ([aNB (mkLeaf 4 (mkRec 1 0 0 [80,120,193,112,198,72,195,35,134,219,184,132,8,55,49,102,208,32,195,224,176,203,254,105,238,73,199,67,151,189,64,152]) (some zrec) (some zrec) (some zrec))]))),
(1075,hb 312 0 (pk ([o (.v (.bool true)),o (.w 1071 185),ni64 1,pN]))),
(1083,hb 5 1 (pk ([aNB (mkInner 1 1 (mkEnt 1 [10,164,21,106,44,39,52,113,137,9,192,233,227,182,76,58,232,61,60,188,12,128,81,132,37,97,56,255,41,238,184,117]) (some zent) (some zent) (some zent))]))),
(1087,hb 312 0 (pk ([o (.v (.bool true)),o (.w 1083 137),ni64 1,pN]))),
(1095,hb 5 1 (pk ([aNB (mkInner 2 0 (some zent) (mkEnt 1 [63,5,191,123,20,98,169,182,223,115,8,132,43,111,99,19,182,164,185,138,246,24,211,204,77,195,10,118,50,129,170,23]) (some zent) (some zent))]))),
(1098,hb 242 0 (pk (rn 32 pN++[o (.p 885 0)]++rn 9 pN++[o (.p 1075 0),pN,pN,pN,o (.p 1087 0),pN,o (.p 32 0),o (.p 1099 0)]++rn 14 pN))),
(1099,hb 312 0 (pk ([o (.v (.bool true)),o (.w 1095 137),ni64 1,pN]))),
(1100,hb 240 0 (pk ([o (.p 1098 0)]))),
(1106,hb 35 1 (pk (rn 5 (arr .u8 0 [])++[arr .u8 32 [205,197,172,215,249,198,87,221,224,156,168,204,181,70,235,22,27,122,192,124,201,197,180,183,106,47,11,188,4,243,33,255],nu64 0,nu64 0]++rn 9 (arr .u8 0 [])++[arr .u8 32 [205,197,172,215,249,198,87,221,224,156,168,204,181,70,235,22,27,122,192,124,201,197,180,183,106,47,11,188,4,243,33,255],nu64 0,nu64 4]++rn 27 (arr .u8 0 [])++[arr .u8 32 [226,232,23,217,73,35,119,18,20,128,128,228,35,34,33,79,129,180,183,129,180,184,105,91,179,234,140,148,80,211,230,40],nu64 1,nu64 4]))),
(1236,hb 192 0 (pk ([nu8 0,nu32 0]++zRs 4++zEs 4++[ni64 1]++rn 5 bF++[nu8 0,nu32 1]++zRs 4++zEs 4++[ni64 1]++rn 5 bF++[nu8 0,nu32 2]++zRs 4++zEs 4++[ni64 1]++rn 5 bF++[nu8 0,nu32 3]++zRs 4++zEs 4++[ni64 1]++rn 5 bF++[nu8 0,nu32 4,nu8 1,nu32 0,nu64 0,arr .u8 32 [80,120,193,112,198,72,195,35,134,219,184,132,8,55,49,102,208,32,195,224,176,203,254,105,238,73,199,67,151,189,64,152]]++zRs 3++zEs 4++[ni64 0]++rn 5 bF++[nu8 1,nu32 0]++zRs 4++zEs 4++[ni64 1]++rn 5 bF++[nu8 1,nu32 1]++zRs 4++[nu8 1,arr .u8 32 [10,164,21,106,44,39,52,113,137,9,192,233,227,182,76,58,232,61,60,188,12,128,81,132,37,97,56,255,41,238,184,117]]++zEs 3++[ni64 0]++rn 5 bF++[nu8 2,nu32 0]++rn 4 (aR (some zrec))++[aE (some zent),nu8 1,arr .u8 32 [63,5,191,123,20,98,169,182,223,115,8,132,43,111,99,19,182,164,185,138,246,24,211,204,77,195,10,118,50,129,170,23],aE (some zent),aE (some zent),ni64 1]++rn 5 bF))),
(1327,hb 85 0 (pk ([arr .u8 0 [],arr .u8 0 [],arr .u8 16 [183,16,213,123,118,18,156,127,89,137,156,120,38,91,68,133],arr .u8 32 [111,130,102,210,138,98,153,47,22,156,61,224,196,65,81,190,67,192,81,166,82,188,237,76,45,203,132,201,66,190,111,88]]))),
(2993,hb 81 1 (pk (rn 16 (arr .u8 32 z32)++[arr .u8 32 [200,144,88,32,232,176,120,64,8,208,152,96,40,240,184,128,72,16,216,160,104,48,248,192,136,80,24,224,168,112,56,0]])))] 2994
end Go.Proofs.YtjboelhcieepkaaGreatDoor
