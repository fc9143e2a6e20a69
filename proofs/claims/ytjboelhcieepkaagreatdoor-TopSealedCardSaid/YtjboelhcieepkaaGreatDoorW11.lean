/- A part of the proof of TopSealed. -/
import Derived.Test.YtjboelhcieepkaaGreatDoorVNdI
noncomputable section
set_option maxRecDepth 16384
set_option maxHeartbeats 800000
namespace Go.Proofs.YtjboelhcieepkaaGreatDoor
open Go.RowKit
def aAD:Rp SV->Rp SV
 | .q (.sha l)=>.arr .u8 32 (Sh.shaF l)
 | .q (.tag x)=>.arr .u8 32 x.tag
 | .q (.dig x)=>.arr .u8 32 x.dig
 | .q (.byt x)=>.arr .u8 x.n x.l
 | .q (.nnc x)=>.node 1 2 (.one (.v (.int .u32 (x.sh:Int)))) (.one (.v (.int .u64 (x.c:Int))))
 |c=>c
def cB:List (Rp SV)->Rp SV
 |[]=>.nil
 |c::l=>cat c (cB l)
def mK(c:Rp SV):Rp SV:=cB ((iA c []).map aAD)
def tY:SV->SV
 | .a c=>.a (mK c)
 |x=>x
def F8(l:List (Nat×SV))(n:Nat):Sl:=⟨l.foldr (λx t=>t.put x.1 x.2) ⟨lX (lX (lX (some .u))),λ_=>some .u⟩,n⟩
def fD(l:List (Nat×Option HB)):Tr:=l.foldr (λx t=>t.set x.2 x.1) .e
def oF(b:HB):HB:=⟨b.T,bif Nat.beq b.k 8 then b.cs else mK b.cs,b.k⟩
def jW:Option HB->Option HB
 |some b=>some (oF b)
 |none=>none
def aFD(ts:Sl)(l:List Nat):Sl:=F8 (l.map λi=>(i,tY (nth ts i))) ts.n
def aCx(hp:Tr)(l:List Nat):Tr:=fD (l.map λn=>(n,jW (hp.get n)))
def A7(ls lh:List Nat)(p:aB):aB:=⟨p.h,p.k,⟨aFD p.st.ts ls,aCx p.st.hp lh,p.st.nx⟩⟩
section
variable {r:List aF}
theorem bEs{c:Rp SV}{us:List Value}(h:aD r c us):aD r (aAD c) us:=by
 unfold aAD
 split
 ·cases h;exact .arr (pS _)
 ·rename_i x;cases h;exact .arr x.ht
 ·rename_i x;cases h;exact .arr x.ht
 ·rename_i x;cases h;exact .arr x.hl
 ·cases h;exact .node (.one (.v _) rfl) (.one (.v _) rfl) rfl rfl
 ·exact h
theorem aHY:∀{l:List (Rp SV)} {us:List Value},cE r l us->aD r (cB (l.map aAD)) us
 |[],_,h=>by cases h;exact .nil
 |_::_,_,h=>by
  cases h with
  |cons h t=>exact aD.cat (bEs h) (aHY t)
theorem aDs{c:Rp SV}{us:List Value}(h:aD r c us):aD r (mK c) us:=aHY (hZ c h)
theorem aIr{x:SV}{v:Value}(h:aP r x v):aP r (tY x) v:=by
 unfold tY
 split
 ·cases h with|a h=>exact .a (aDs h)
 ·exact h
theorem aJF(l:List (Nat×SV))(n i:Nat):nth (F8 l n) i=((l.find? λx=>x.1==i).map (·.2)).getD .u:=by
 have h:∀l:List (Nat×SV),(l.foldr (λx (t:dQ SV)=>t.put x.1 x.2) ⟨lX (lX (lX (some .u))),λ_=>some .u⟩).get i=some (((l.find? λx=>x.1==i).map (·.2)).getD .u):=by
  intro l
  induction l with
  |nil=>rw [List.foldr_nil,dQ.get_eq];simp [aDI]
  |cons x l ih =>
   rw [List.foldr_cons,dQ.get_put]
   by_cases hi:i=x.1
   ·subst hi;simp
   ·have:(x.1==i)=false:=beq_eq_false_iff_ne.2 λh=>hi h.symm
    rw [if_neg hi,ih,List.find?_cons,this]
 show Option.rec (motive:=λ_=>SV) mX (λx=>x) ((F8 l n).t.get i)=_
 unfold F8
 rw [h]
theorem a0q{ts:Sl}{vs:List Value}(h:bU r ts vs)(l:List Nat):bU r (aFD ts l) vs:=by
 refine ⟨h.1,λi=>?_⟩
 unfold aFD
 rw [aJF]
 cases hf:(l.map λi=>(i,tY (nth ts i))).find? λx=>x.1==i with
 |none=>exact .u _
 |some x =>
  have h1:=List.find?_some hf
  obtain ⟨j,_,rfl⟩:=dC.1 (List.mem_of_find?_eq_some hf)
  simp only [beq_iff_eq] at h1
  subst h1
  exact aIr (h.2 j)
theorem O9(l:List (Nat×Option HB))(i:Nat):(fD l).get i=((l.find? λx=>x.1==i).map (·.2)).getD none:=by
 induction l with
 |nil=>rw [fD,List.foldr_nil,bC.get_e];rfl
 |cons x l ih =>
  have e:fD (x::l)=(fD l).set x.2 x.1:=rfl
  rw [e,bC.get_set]
  by_cases hi:i=x.1
  ·subst hi;simp
  ·have:(x.1==i)=false:=beq_eq_false_iff_ne.2 λh=>hi h.symm
   rw [if_neg hi,ih,List.find?_cons,this]
theorem Q3{hp:Tr}{l:List Nat}{n:Nat}{b:HB}(h:(aCx hp l).get n=some b):∃b0,hp.get n=some b0∧b=oF b0:=by
 unfold aCx at h
 rw [O9] at h
 cases hf:(l.map λn=>(n,jW (hp.get n))).find? λx=>x.1==n with
 |none=>rw [hf] at h;cases h
 |some x =>
  rw [hf] at h
  have h1:=List.find?_some hf
  obtain ⟨j,_,rfl⟩:=dC.1 (List.mem_of_find?_eq_some hf)
  simp only [beq_iff_eq] at h1
  subst h1
  simp only [Option.map_some,Option.getD_some] at h
  unfold jW at h
  split at h
  ·rename_i b0 hb;cases h;exact ⟨b0,hb,rfl⟩
  ·cases h
variable {E:bX}{hp:Tr}{nx:Nat}{w:World}
theorem aFe{b:HB}(h8:b.k=8):oF b=b:=by
 obtain ⟨T,cs,k⟩:=b
 simp only at h8
 subst h8
 rfl
theorem Q2{E:bX}{L:aF}{b:HB}{w:World}(h:eN E r L b w):eN E r L (oF b) w:=by
 obtain ⟨vs,hd,hk⟩:=h
 by_cases h8:b.k=8
 ·rw [aFe h8]
  exact ⟨vs,hd,hk⟩
 ·have e:oF b=⟨b.T,mK b.cs,b.k⟩:=by unfold oF;rw [show Nat.beq b.k 8=false from by rw [bE];simpa using h8];rfl
  rw [e]
  refine ⟨vs,aDs hd,?_⟩
  rcases hk with h|h|⟨h1,h2,h3,h4⟩
  ·exact .inl h
  ·exact .inr (.inl h)
  ·exact .inr (.inr ⟨h1,h2,h3,h4.1,h4.2.1,h4.2.2.1,λh=>absurd h h8⟩)
theorem a89(h:aG E r hp nx w)(l:List Nat):aG E r (aCx hp l) nx w:=by
 refine ⟨h.len,λn b hb=>?_,λn m b c L M hb hc hne hk hL hM k hc1 hc2=>?_,h.below,h.fz,λn b L hb hk hL k hcv=>?_,h.up,λn b L hb h2 h5 hL=>?_,h.rlt,h.glob⟩
 ·obtain ⟨b0,h0,rfl⟩:=Q3 hb
  obtain ⟨L,hL,hk⟩:=h.blk n b0 h0
  exact ⟨L,hL,Q2 hk⟩
 ·obtain ⟨b0,h0,rfl⟩:=Q3 hb
  obtain ⟨c0,h1,rfl⟩:=Q3 hc
  exact h.sep n m b0 c0 L M h0 h1 hne hk hL hM k hc1 hc2
 ·obtain ⟨b0,h0,rfl⟩:=Q3 hb
  exact h.far n b0 L h0 hk hL k hcv
 ·obtain ⟨b0,h0,rfl⟩:=Q3 hb
  exact h.old n b0 L h0 h2 h5 hL
theorem aDQ{r0:List aF}{Q0:cM}{p:aB}(ls lh:List Nat)(h:Xp E r0 Q0 (A7 ls lh p)):Xp E r0 Q0 p :=
 λr vs w Q hr hs hm hk=>h r vs w Q hr (a0q hs ls) (a89 hm lh) hk
end
inductive uF where
 |l|r|b|t|e|o (n:Nat)
def vC:List uF->Code->List KI->Hd×List KI
 |[],c,k=>(.code c,k)
 | .l::d,.seq a b,k=>vC d a (.code b::k)
 | .r::d,.seq _ b,k=>vC d b k
 | .b::d,.block i c,k=>vC d c (.blk i::k)
 | .b::d,.loop c,k=>vC d c (.loop c::k)
 | .t::d,.cond _ a _,k=>vC d a k
 | .e::d,.cond _ _ b,k=>vC d b k
 | .o n::_,.region _ ops _,k=>(.ops ops (ops.toList.drop n),k)
 |_,c,k=>(.code c,k)
def rF(g:FuncId)(d:List uF)(ss:List (Nat×SV))(hh:List (Nat×Option HB))(nx:Nat):aB:=match entryS Xt.P g with
 |some (fn,c)=>⟨(vC d c []).1,(vC d c []).2,⟨F8 ss fn.ntmps,fD hh,nx⟩⟩
 |none=>⟨.done .normal,[],⟨⟨.e,0⟩,.e,0⟩⟩
end Go.Proofs.YtjboelhcieepkaaGreatDoor
namespace Go.Proofs.YtjboelhcieepkaaGreatDoor.Gf
def a45:Nat:=3566776863222250792575350504665046155069508327501453217101429430621730038043584053371660509702620055860081156466022285956586373576971909210171343659649552507176508005971567067637526818336653057460235767741581454534757369738530565771380035673162616129401273381134793422969875859516904113580246491480877823305346558232134899738800022074717406919707935282309554844169982325935665249148669134080917255765422589041374844979786301241750162074905253618853420688398165348773793897399659421930346683507413494886767272566548764049417490863269423193139537759588741825434151586758978267398985919305201935175793127681620251050240
def a1B:Nat:=2869618975290639062594974519597816386035077209210385677284518162336985023502962151465775969507961862820568736543004676439868535775640188584098917533413284844376797297285941524888791401501466624530423689326528054213168201056672989590893583853414110162539122864583953358348775951166211353578440977400428507475679327181038682772945817200201960445064847785221508011893952350688324234443749897213621340677040612747745615276448919507935121141307752692835344166708617454322778699219895865633266409040561742768581056182730443599545881830075941537620590442514083341749674612746994879540562701631131184186066652929592955206755
def xt(a:Nat):Nat:=(a*2%256) ^^^ (a / 128*27)
def itx(a:Nat):Nat->Nat
 |0=>a
 |k+1=>xt (itx a k)
def gmk(a b:Nat):Nat->Nat
 |0=>0
 |k+1=>if b.testBit k then gmk a b k ^^^ itx a k else gmk a b k
def gm(a b:Nat):Nat:=gmk a b 8
theorem aHF(a b c d:Nat):(a ^^^ b) ^^^ (c ^^^ d)=(a ^^^ c) ^^^ (b ^^^ d):=by
 rw [Nat.xor_assoc,Nat.xor_assoc];congr 1
 rw [<-Nat.xor_assoc,<-Nat.xor_assoc,Nat.xor_comm b c]
theorem bBz(x y:Nat)(hx:x<2)(hy:y<2):(x ^^^ y)*27=(x*27) ^^^ (y*27):=by
 have:x=0∨x=1:=by omega
 have:y=0∨y=1:=by omega
 rcases ‹x=0∨x=1› with rfl|rfl<;>rcases ‹y=0∨y=1› with rfl|rfl<;>rfl
theorem a1i(a:Nat)(ha:a<256):xt a<256:=by
 unfold xt
 have h1:a*2%256<2 ^ 8:=Nat.mod_lt _ (by omega)
 have h2:a / 128*27<2 ^ 8:=by omega
 exact gD h1 h2
theorem aSQ(a b:Nat)(ha:a<256)(hb:b<256):xt (a ^^^ b)=xt a ^^^ xt b:=by
 unfold xt
 have e1:(a ^^^ b)*2%256=(a*2%256) ^^^ (b*2%256):=by
  have h:=@Nat.shiftLeft_xor_distrib 1 a b
  simp only [Nat.shiftLeft_eq] at h
  rw [show (a ^^^ b)*2=(a ^^^ b)*2 ^ 1 from rfl,h]
  exact Nat.xor_mod_two_pow (n:=8)
 have e2:(a ^^^ b) / 128*27=(a / 128*27) ^^^ (b / 128*27):=by
  rw [show (128:Nat)=2 ^ 7 from rfl,Nat.xor_div_two_pow]
  exact bBz _ _ (by omega) (by omega)
 rw [e1,e2,aHF]
theorem xor_lt(a b:Nat)(ha:a<256)(hb:b<256):a ^^^ b<256:=gD (n:=8) ha hb
theorem itx_lt(a k:Nat)(ha:a<256):itx a k<256:=by
 induction k with
 |zero=>exact ha
 |succ k ih=>exact a1i _ ih
theorem bCa(a b k:Nat)(ha:a<256)(hb:b<256):itx (a ^^^ b) k=itx a k ^^^ itx b k:=by
 induction k with
 |zero=>rfl
 |succ k ih=>simp only [itx];rw [ih,aSQ _ _ (itx_lt _ _ ha) (itx_lt _ _ hb)]
theorem gmk_lt(a b k:Nat)(ha:a<256):gmk a b k<256:=by
 induction k with
 |zero=>simp [gmk]
 |succ k ih =>
  simp only [gmk];split
  ·exact xor_lt _ _ ih (itx_lt _ _ ha)
  ·exact ih
theorem gm_lt(a b:Nat)(ha:a<256):gm a b<256:=gmk_lt a b 8 ha
theorem aXI(a b c k:Nat)(ha:a<256)(hb:b<256):gmk (a ^^^ b) c k=gmk a c k ^^^ gmk b c k:=by
 induction k with
 |zero=>simp [gmk]
 |succ k ih =>
  simp only [gmk];split
  ·rw [ih,bCa _ _ _ ha hb,aHF]
  ·exact ih
theorem pP(a b c:Nat)(ha:a<256)(hb:b<256):gm (a ^^^ b) c=gm a c ^^^ gm b c:=aXI a b c 8 ha hb
theorem aRk(a b c k:Nat):gmk a (b ^^^ c) k=gmk a b k ^^^ gmk a c k:=by
 induction k with
 |zero=>simp [gmk]
 |succ k ih =>
  simp only [gmk,Nat.testBit_xor,ih]
  cases b.testBit k<;>cases c.testBit k<;>simp
  ·rw [Nat.xor_assoc]
  ·rw [Nat.xor_assoc,Nat.xor_comm (gmk a c k),Nat.xor_assoc]
  ·rw [show gmk a b k ^^^ itx a k ^^^ (gmk a c k ^^^ itx a k)=(gmk a b k ^^^ gmk a c k) ^^^ (itx a k ^^^ itx a k) from aHF _ _ _ _,Nat.xor_self,Nat.xor_zero]
theorem gm_right(a b c:Nat):gm a (b ^^^ c)=gm a b ^^^ gm a c:=aRk a b c 8
theorem N8(f g:Nat->Nat)(hf:∀a b,a<256->b<256->f (a ^^^ b)=f a ^^^ f b)(hg:∀a b,a<256->b<256->g (a ^^^ b)=g a ^^^ g b)
 (h:∀i,i<8->f (2 ^ i)=g (2 ^ i)) (a:Nat) (ha:a<256):f a=g a:=by
 have h0:f 0=g 0:=by
  have h1:=hf 0 0 (by omega) (by omega);have h2:=hg 0 0 (by omega) (by omega)
  simp at h1 h2;rw [h1,h2]
 have key:∀n,n≤8->∀a,a<2 ^ n->f a=g a:=by
  intro n
  induction n with
  |zero=>intro _ a ha;obtain rfl:a=0:=by simpa using ha
         exact h0
  |succ n ih =>
   intro hn a ha
   by_cases hlt:a<2 ^ n
   ·exact ih (by omega) a hlt
   ·have hp:2 ^ (n+1)=2 ^ n+2 ^ n:=by rw [Nat.pow_succ];omega
    have hb:2 ^ n≤2 ^ 7:=Nat.pow_le_pow_right (by omega) (by omega)
    have e:a=2 ^ n ^^^ (a-2 ^ n):=by
     have hlt':a-2 ^ n<2 ^ n:=by omega
     have:=Nat.two_pow_add_eq_or_of_lt (i:=n) hlt' 1
     apply Nat.eq_of_testBit_eq
     intro i
     have e2:a=2 ^ n+(a-2 ^ n):=by omega
     rw [Nat.testBit_xor,Nat.testBit_two_pow]
     by_cases hi:n=i
     ·subst hi
      have:(a-2 ^ n).testBit n=false:=Nat.testBit_lt_two_pow hlt'
      rw [this];rw [e2,Nat.testBit_two_pow_add_eq,this];simp
     ·rw [e2]
      simp only [hi,decide_false,Bool.false_xor]
      rw [show 2 ^ n+(a-2 ^ n)-2 ^ n=a-2 ^ n from by omega]
      have e3:2 ^ n+(a-2 ^ n)=2 ^ n ||| (a-2 ^ n):=by simpa using this
      rw [e3,Nat.testBit_or,Nat.testBit_two_pow];simp [hi]
    rw [e,hf _ _ (by omega) (by omega),hg _ _ (by omega) (by omega),h n (by omega),ih (by omega) _ (by omega)]
 exact key 8 (by omega) a ha
theorem aDU(f g:Nat->Nat->Nat)
 (f1:∀a b c,a<256->b<256->c<256->f (a ^^^ b) c=f a c ^^^ f b c) (f2:∀a b c,a<256->b<256->c<256->f a (b ^^^ c)=f a b ^^^ f a c)
 (g1:∀a b c,a<256->b<256->c<256->g (a ^^^ b) c=g a c ^^^ g b c) (g2:∀a b c,a<256->b<256->c<256->g a (b ^^^ c)=g a b ^^^ g a c)
 (h:∀i,i<8->∀j,j<8->f (2 ^ i) (2 ^ j)=g (2 ^ i) (2 ^ j)) (a b:Nat) (ha:a<256) (hb:b<256):f a b=g a b:=by
 refine N8 (λa=>f a b) (λa=>g a b) (λx y hx hy=>f1 x y b hx hy hb) (λx y hx hy=>g1 x y b hx hy hb) (λi hi=>?_) a ha
 have hp:(2:Nat) ^ i<256:=by have:=Nat.pow_le_pow_right (n:=2) (by omega) (show i≤7 by omega);omega
 exact N8 (λb=>f (2 ^ i) b) (λb=>g (2 ^ i) b) (λx y hx hy=>f2 _ x y hp hx hy) (λx y hx hy=>g2 _ x y hp hx hy) (λj hj=>h i hi j hj) b hb
theorem gm_comm(a b:Nat)(ha:a<256)(hb:b<256):gm a b=gm b a :=
 aDU gm (λa b=>gm b a) (λa b c ha hb _=>pP a b c ha hb) (λa b c _ _ _=>gm_right a b c) (λa b c _ _ _=>gm_right c a b) (λa b c _ hb hc=>pP b c a hb hc)
  (by decide +kernel) a b ha hb
theorem aAP(a b c:Nat)(ha:a<256)(hb:b<256)(hc:c<256):gm (gm a b) c=gm a (gm b c):=by
 have pw:∀i,i<8->(2:Nat) ^ i<256:=λi hi=>by have:=Nat.pow_le_pow_right (n:=2) (by omega) (show i≤7 by omega);omega
 refine N8 (λa=>gm (gm a b) c) (λa=>gm a (gm b c))
  (λx y hx hy=>by simp only [pP x y b hx hy,pP _ _ c (gm_lt x b hx) (gm_lt y b hy)]) (λx y hx hy=>pP x y _ hx hy) (λi hi=>?_) a ha
 refine aDU (λb c=>gm (gm (2 ^ i) b) c) (λb c=>gm (2 ^ i) (gm b c))
  (λx y z hx hy _=>by simp only [gm_right,pP _ _ z (gm_lt _ x (pw i hi)) (gm_lt _ y (pw i hi))]) (λx y z _ _ _=>by simp only [gm_right])
  (λx y z hx hy _=>by simp only [pP x y z hx hy,gm_right]) (λx y z _ _ _=>by simp only [gm_right]) (λj hj k hk=>?_) b c hb hc
 revert k j i
 decide +kernel
theorem gm_one(a:Nat)(ha:a<256):gm a 1=a :=
 N8 (λa=>gm a 1) (λa=>a) (λx y hx hy=>pP x y 1 hx hy) (λ_ _ _ _=>rfl) (by decide +kernel) a ha
theorem aZn(b:Nat):gm 0 b=0:=by
 have h:=pP 0 0 b (by omega) (by omega)
 simpa using h
theorem bC2(a:Nat):gm a 0=0:=by
 have h:=gm_right a 0 0
 simpa using h
theorem one_gm(a:Nat)(ha:a<256):gm 1 a=a:=by rw [gm_comm 1 a (by omega) ha,gm_one a ha]
def pw(a:Nat):Nat->Nat
 |0=>1
 |k+1=>gm (pw a k) a
theorem pw_lt(a k:Nat)(_:a<256):pw a k<256:=by
 induction k with
 |zero=>simp [pw]
 |succ k ih=>exact gm_lt _ _ ih
theorem aMG(a:Nat)(ha:a<256):pw a 1=a:=by simp only [pw];exact one_gm a ha
theorem Z0(a m n:Nat)(ha:a<256):pw a (m+n)=gm (pw a m) (pw a n):=by
 induction n with
 |zero=>simp only [pw,Nat.add_zero];exact (gm_one _ (pw_lt a m ha)).symm
 |succ n ih =>
  show gm (pw a (m+n)) a=gm (pw a m) (gm (pw a n) a)
  rw [ih,aAP _ _ _ (pw_lt a m ha) (pw_lt a n ha) ha]
theorem aM5(a k:Nat)(ha:a<256):pw (gm a a) k=pw a (2*k):=by
 induction k with
 |zero=>rfl
 |succ k ih =>
  show gm (pw (gm a a) k) (gm a a)=gm (gm (pw a (2*k)) a) a
  rw [ih,aAP _ _ _ (pw_lt a _ ha) ha ha]
theorem sq_odd(o a k:Nat)(ho:o<256)(ha:a<256)(hk:k%2=1):gm (gm o a) (pw (gm a a) (k / 2))=gm o (pw a k):=by
 rw [aM5 a _ ha,aAP o a _ ho ha (pw_lt a _ ha)]
 congr 1
 have e:k=1+2*(k / 2):=by omega
 conv=>rhs;rw [e,Z0 a 1 _ ha,aMG a ha]
theorem sq_even(o a k:Nat)(ha:a<256)(hk:k%2=0):gm o (pw (gm a a) (k / 2))=gm o (pw a k):=by
 rw [aM5 a _ ha];congr 2;omega
def inv(a:Nat):Nat:=(a45 >>> (8*a))%256
theorem inv_lt(a:Nat):inv a<256:=Nat.mod_lt _ (by omega)
theorem aNi(a:Nat)(h0:a≠0)(ha:a<256):gm a (inv a)=1:=by
 have h:∀a,a<256->(a==0 || gm a (inv a)==1)=true:=by decide +kernel
 have:=h a ha
 simp [h0] at this;exact this
theorem aIw(a b:Nat)(h0:a≠0)(ha:a<256)(hb:b<256):gm (gm b a) (inv a)=b:=by
 rw [aAP _ _ _ hb ha (inv_lt a),aNi a h0 ha,gm_one b hb]
theorem aJW(a b:Nat)(ha:a<256)(hb:b<256)(h:gm a b=1):b=inv a:=by
 have h0:a≠0:=by rintro rfl;rw [aZn] at h;omega
 have e:=aIw a b h0 ha hb
 rw [gm_comm b a hb ha,h,one_gm _ (inv_lt a)] at e
 exact e.symm
theorem aWl(a b:Nat)(ha:a<256)(hb:b<256):gm (a ^^^ b) (a ^^^ b)=gm a a ^^^ gm b b:=by
 rw [pP a b _ ha hb,gm_right,gm_right,gm_comm b a hb ha,Nat.xor_assoc,<-Nat.xor_assoc (gm a b),Nat.xor_self,Nat.zero_xor]
def pA(a:Nat):Nat->Nat
 |0=>a
 |k+1=>gm (pA a k) (pA a k)
theorem aD7(a k:Nat)(ha:a<256):pA a k<256:=by
 cases k with
 |zero=>exact ha
 |succ k=>exact gm_lt _ _ (aD7 a k ha)
theorem bBA(k a b:Nat)(ha:a<256)(hb:b<256):pA (a ^^^ b) k=pA a k ^^^ pA b k:=by
 induction k with
 |zero=>rfl
 |succ k ih=>simp only [pA];rw [ih,aWl _ _ (aD7 a k ha) (aD7 b k hb)]
theorem aOO(a k:Nat)(ha:a<256):pA a k=pw a (2 ^ k):=by
 induction k with
 |zero=>exact (aMG a ha).symm
 |succ k ih=>simp only [pA];rw [ih,<-Z0 a _ _ ha];congr 1;rw [Nat.pow_succ];omega
theorem a7G(a:Nat)(ha:a<256):pw a 256=a:=by
 have h:pA a 8=a:=N8 (λa=>pA a 8) (λa=>a) (bBA 8) (λ_ _ _ _=>rfl) (by decide +kernel) a ha
 rw [aOO a 8 ha] at h;exact h
theorem aEQ(a:Nat)(h0:a≠0)(ha:a<256):pw a 255=1:=by
 have h:gm (pw a 255) a=a:=a7G a ha
 have e:=aIw a (pw a 255) h0 ha (pw_lt a _ ha)
 rw [h,aNi a h0 ha] at e
 exact e.symm
theorem a7f(a:Nat)(h0:a≠0)(ha:a<256):pw a 254=inv a:=by
 refine aJW a _ ha (pw_lt a _ ha) ?_
 rw [gm_comm a _ ha (pw_lt a _ ha)]
 exact aEQ a h0 ha
theorem aVc(a:Nat)(h0:a≠0)(ha:a<256)(n:Nat):pw a (n%255)=pw a n:=by
 have h:∀q r,pw a (255*q+r)=pw a r:=by
  intro q r
  induction q with
  |zero=>simp
  |succ q ih =>
   rw [show 255*(q+1)+r=255+(255*q+r) from by omega,Z0 a _ _ ha,aEQ a h0 ha,one_gm _ (pw_lt a _ ha),ih]
 conv=>rhs;rw [<-Nat.div_add_mod n 255]
 rw [h]
def powZ(a:Nat)(n:Int):Nat:=if a=0 then (if n=0 then 1 else 0) else pw a (n%255).toNat
theorem powZ_inv(a:Nat)(ha:a<256):powZ a 254=inv a:=by
 unfold powZ;split
 ·rename_i h;subst h;rfl
 ·exact a7f a ‹_› ha
theorem powZ_nat(a k:Nat)(ha:a<256):powZ a (k:Int)=pw a k:=by
 unfold powZ;split
 ·rename_i h;subst h
  cases k with
  |zero=>rfl
  |succ k=>rw [if_neg (by omega)];simp only [pw];rw [bC2]
 ·rw [show ((k:Int)%255).toNat=k%255 from by omega,aVc a ‹_› ha]
def rotl8(b i:Nat):Nat:=(b <<< i)%256 ||| b >>> (8-i)
def aff(b:Nat):Nat:=(b ^^^ rotl8 b 1 ^^^ rotl8 b 2 ^^^ rotl8 b 3 ^^^ rotl8 b 4) ^^^ 99
def sub(a:Nat):Nat:=(a1B >>> (8*a))%256
theorem sub_lt(a:Nat):sub a<256:=Nat.mod_lt _ (by omega)
theorem sub_eq:∀a,a<256->aff (inv a)=sub a:=by decide +kernel
def cf(a b:Nat):Nat->Nat->Bool
 |0=>λ_=>false
 |t+1=>λm=>if m=t / 8+t%8 then (cf a b t m) ^^ (a.testBit (t / 8)&&b.testBit (t%8)) else cf a b t m
def rdI(q:Nat->Bool)(i:Nat):Nat->Bool:=λm=>if m=i-4∨m=i-5∨m=i-7∨m=i-8 then q m ^^ q i else q m
def rd(p:Nat->Bool):Nat->Nat->Bool
 |0=>p
 |s+1=>rdI (rd p s) (14-s)
def outN(p:Nat->Bool):Nat->Nat
 |0=>0
 |j+1=>2*outN p j+(p (7-j)).toNat
def rm(a b:Nat):Nat:=outN (rd (cf a b 64) 7) 8
theorem aQk(x y:Nat)(b c:Bool):(2*x+b.toNat) ^^^ (2*y+c.toNat)=2*(x ^^^ y)+(b ^^ c).toNat:=by
 apply Nat.eq_of_testBit_eq
 intro i
 rw [Nat.testBit_xor]
 cases i with
 |zero=>cases b<;>cases c<;>simp<;>omega
 |succ i =>
  rw [Nat.testBit_succ,Nat.testBit_succ,Nat.testBit_succ]
  have e (x:Nat) (b:Bool):(2*x+b.toNat) / 2=x:=by cases b<;>simp<;>omega
  rw [e,e,e,Nat.testBit_xor]
theorem aJu(p q:Nat->Bool)(j:Nat):outN (λm=>p m ^^ q m) j=outN p j ^^^ outN q j:=by
 induction j with
 |zero=>simp [outN]
 |succ j ih=>simp only [outN];rw [ih,aQk]
theorem aEU(a b c d:Bool):((a ^^ b) ^^ (c ^^ d))=((a ^^ c) ^^ (b ^^ d)):=by cases a<;>cases b<;>cases c<;>cases d<;>rfl
theorem aLn(p q:Nat->Bool)(s:Nat):rd (λm=>p m ^^ q m) s=λm=>rd p s m ^^ rd q s m:=by
 induction s with
 |zero=>rfl
 |succ s ih =>
  funext m
  simp only [rd,rdI,ih]
  split
  ·rw [aEU]
  ·rfl
theorem a2x(a b c t:Nat):cf (a ^^^ b) c t=λm=>cf a c t m ^^ cf b c t m:=by
 induction t with
 |zero=>funext m;rfl
 |succ t ih =>
  funext m
  simp only [cf,ih,Nat.testBit_xor]
  split
  ·rw [aEU];congr 1
   cases a.testBit (t / 8)<;>cases b.testBit (t / 8)<;>cases c.testBit (t%8)<;>rfl
  ·rfl
theorem a7h(a b c t:Nat):cf a (b ^^^ c) t=λm=>cf a b t m ^^ cf a c t m:=by
 induction t with
 |zero=>funext m;rfl
 |succ t ih =>
  funext m
  simp only [cf,ih,Nat.testBit_xor]
  split
  ·rw [aEU];congr 1
   cases a.testBit (t / 8)<;>cases b.testBit (t%8)<;>cases c.testBit (t%8)<;>rfl
  ·rfl
theorem rm_eq(a b:Nat)(ha:a<256)(hb:b<256):rm a b=gm a b :=
 aDU rm gm (λa b c _ _ _=>by unfold rm;rw [a2x,aLn,aJu]) (λa b c _ _ _=>by unfold rm;rw [a7h,aLn,aJu])
  (λa b c ha hb _=>pP a b c ha hb) (λa b c _ _ _=>gm_right a b c) (by decide +kernel) a b ha hb
def exT:Nat:=247704880781559356684414323119999879637317647180040216102211349143305888774923398537951341803642731683984666991564019150676315804531779449815159115664189418245566988781254625896260912026622159780553349108386186142268315007856282091988200171439146255715840100601167723801170608095743514940052926055042184507632911811387723359914440662207451538163404716729158929845121383729837235901114109841630616474463024741216292666125260571984924724184385554713500007113061044175325657975136216706165622836048350080632971744177780693200859426168487707538171671676645432511882666690861394815764438377708986394032816479809277592321
def lgT:Nat:=939374623831894136699086600277250597547650664638770418422125146541797353646788332867483593573384618611044815625336497665827114626705134492515730415652478061620339993830966980270842846318821775850471098591710629241171812800746666233448222972174585295916389942636813666312872914849454985560152530477328703759683306625234997237483834721220409437442253146756845415190424543171129629468776480674528486868811725071010351012234056630775688111116293610821126543142160426617079940511630006820862697466582575257349116925728488930366609138264019883664906661504235885380294353134295748489096855100647154935187045898006656778240
def ex(k:Nat):Nat:=(exT >>> (8*k))%256
def lg(x:Nat):Nat:=(lgT >>> (8*x))%256
theorem ex_lt(k:Nat):ex k<256:=Nat.mod_lt _ (by omega)
theorem ex_zero:ex 0=1:=by decide +kernel
theorem ex_succ:∀k,k<255->ex (k+1)=xt (ex k) ^^^ ex k:=by decide +kernel
theorem ex_lg:∀x,x<256->x≠0->ex (lg x)=x:=by decide +kernel
theorem lg_lt:∀x,x<256->lg x<255:=by decide +kernel
theorem a4Y:∀p,p<256->gm p 3=xt p ^^^ p:=by decide +kernel
theorem xt_twice:∀p,p<256->(if 255<2*p then (2*p) ^^^ 283 else 2*p)%256=xt p:=by decide +kernel
theorem aMb(k:Nat)(hk:k≤255):pw 3 k=ex k:=by
 induction k with
 |zero=>exact ex_zero.symm
 |succ k ih =>
  show gm (pw 3 k) 3=_
  rw [ih (by omega),a4Y _ (ex_lt k),ex_succ k (by omega)]
theorem ex_inv(k:Nat)(hk:k≤255):ex (255-k)=inv (ex k):=by
 refine aJW _ _ (ex_lt k) (ex_lt _) ?_
 rw [<-aMb k hk,<-aMb (255-k) (by omega),<-Z0 3 _ _ (by omega),show k+(255-k)=255 from by omega]
 exact aEQ 3 (by omega) (by omega)
end Go.Proofs.YtjboelhcieepkaaGreatDoor.Gf
namespace Go.Proofs.YtjboelhcieepkaaGreatDoor
open Go.RowKit
theorem a8g(b k:Nat)(hb:b<256):(bits BinOp.and IntKind.u8 ((b:Int) / 2 ^ k) 1==1)=b.testBit k:=by
 have e:((b:Int) / 2 ^ k)=((b / 2 ^ k:Nat):Int):=by
  rw [Int.natCast_ediv,Int.natCast_pow];rfl
 have hlt:b / 2 ^ k<256:=Nat.lt_of_le_of_lt (Nat.div_le_self _ _) hb
 rw [e,show (1:Int)=((1:Nat):Int) from rfl,u8_and_nat _ _ hlt (by omega),nat_mask1,Nat.testBit_eq_decide_div_mod_eq]
 rw [Bool.eq_iff_iff];simp;omega
theorem bBd(a:Nat)(ha:a<256):bits BinOp.xor IntKind.u8 ((a:Int)*2%256) ((a:Int) / 128*27)=((Gf.xt a:Nat):Int):=by
 rw [show ((a:Int)*2%256)=((a*2%256:Nat):Int) from by omega,show ((a:Int) / 128*27)=((a / 128*27:Nat):Int) from by omega,
  u8_xor_nat _ _ (by omega) (by omega)]
 rfl
theorem aQV(a:Nat)(ha:a<256)(p:Addr)(w:World)(hc:w.cell? p=some (.int .u8 (a:Int)))(hf:w.frozen? p=false):
 Calls Tryz.prog 284 #[.pointer (some p)] w λe w'=>e=.returned (.tuple #[])∧w'=w.setCell p (.int .u8 (Gf.xt a:Nat)):=by
 have h0:0≤(a:Int):=by omega
 have h1:(a:Int)≤255:=by omega
 go_enter Tryz.func284,Tryz.ntmps284
 go_wp2
 go_end0
 exact ⟨rfl,by rw [bBd a ha]⟩
theorem S6(a b:Nat)(ha:a<256)(hb:b<256)(w:World):
 Calls Tryz.prog 273 #[.int .u8 (a:Int),.int .u8 (b:Int)] w λe w'=>e=.returned (.int .u8 (Gf.gm a b:Nat))∧Below w.heap.size w w':=by
 have h0:0≤(b:Int):=by omega
 have h1:(b:Int)≤255:=by omega
 go_enter Tryz.func273,Tryz.ntmps273
 go_wp2
 go_loopw [5,9] (λo i wr=>∃k:Nat,k≤8∧i=.int .i64 k∧o=.int .u8 (Gf.gmk a b k:Nat)∧wr=w.alloc (Obj.cells #[Value.int IntKind.u8 (Gf.itx a k:Nat)] 5)) (λ_ i _=>8-(intOf i).toNat)
 case atStart=>exact ⟨0,by omega,rfl,rfl,rfl⟩
 case round =>
  obtain ⟨k,hk,rfl,rfl,rfl⟩:=hrel
  have hb0:=Gf.itx_lt a k ha
  have hg0:=Gf.gmk_lt a b k ha
  by_cases hlt:k<8
  ·have ht:=a8g b k hb
   cases hbit:b.testBit k
   all_goals
    rw [hbit] at ht
    have hm:=Lib.hid hbit
    clear hbit
    go_wp2_with (go_at_call 284;refine (aQV (Gf.itx a k) hb0 _ _ (by go_simp) (by go_simp)).mono ?_;rintro e w' ⟨rfl,rfl⟩)
    go_roundw
    case rel=>exact ⟨k+1,by omega,by go_num,by simp only [Gf.gmk,hm.out];first|rfl|(rw [u8_xor_nat _ _ hg0 hb0];rfl),by first|rfl|(go_simp;done)⟩
    case measure=>simp [intOf];omega
  ·obtain rfl:k=8:=by omega
   go_wp2
   go_ret
   exact ⟨rfl,(Below.refl _ _).alloc (aS _) _⟩
theorem aRZ(a b:Int)(c:Nat)(a0:0≤a)(a1:a≤255)(b0:0≤b)(b1:b≤255)(hc:Gf.gm a.toNat b.toNat=c)(w:World):
 Calls Tryz.prog 273 #[.int .u8 a,.int .u8 b] w λe w'=>e=.returned (.int .u8 (c:Int))∧Below w.heap.size w w':=by
 obtain ⟨x,rfl⟩:=Int.eq_ofNat_of_zero_le a0
 obtain ⟨y,rfl⟩:=Int.eq_ofNat_of_zero_le b0
 rw [<-hc]
 exact S6 x y (by omega) (by omega) w
theorem a1e(n:Int)(w:World):
 Calls Tryz.prog 225 #[.int .u8 0,.int .i64 n] w λe w'=>e=.returned (.int .u8 (Gf.powZ 0 n:Nat))∧Below w.heap.size w w':=by
 by_cases hn:n=0
 ·subst hn
  go_enter Tryz.func225,Tryz.ntmps225
  go_wp2
  go_step3
  go_wp2
  try rw [Exit.noGoto_ret]
  go_ret
  exact ⟨rfl,Below.refl _ _⟩
 ·have e:Gf.powZ 0 n=0:=by unfold Gf.powZ;rw [if_pos rfl,if_neg hn]
  have h0:(n==0)=false:=by simpa using hn
  rw [e]
  clear e hn
  go_enter Tryz.func225,Tryz.ntmps225
  go_wp2
  go_step3
  go_wp2
  try rw [Exit.noGoto_ret]
  go_ret
  exact ⟨rfl,Below.refl _ _⟩
theorem bBs(a:Nat)(n:Int)(ha:a<256)(ha0:a≠0)(w:World):
 Calls Tryz.prog 225 #[.int .u8 (a:Int),.int .i64 n] w λe w'=>e=.returned (.int .u8 (Gf.powZ a n:Nat))∧Below w.heap.size w w':=by
 have e:Gf.powZ a n=Gf.pw a (n%255).toNat:=by unfold Gf.powZ;rw [if_neg ha0]
 have h0:((a:Int)==0)=false:=by simp;omega
 rw [e]
 clear e
 have hdm:=Int.mul_tdiv_add_tmod n 255
 have hlo:-255<n.tmod 255:=Int.lt_tmod_of_pos n (by omega)
 have hhi:n.tmod 255<255:=Int.tmod_lt_of_pos n (by omega)
 obtain ⟨K,hK,hKb⟩:∃K:Nat,(n%255).toNat=K∧K<255:=⟨_,rfl,by omega⟩
 have hneg:n.tmod 255<0->n.tmod 255+255=(K:Int):=by omega
 have hpos:¬ n.tmod 255<0->n.tmod 255=(K:Int):=by omega
 rw [hK]
 clear hK hdm
 have hw':=Lib.hid hneg
 have hp':=Lib.hid hpos
 clear hneg hpos
 by_cases hk:n.tmod 255<0
 all_goals
  go_enter Tryz.func225,Tryz.ntmps225
  go_wp2
  go_step3
  go_wp2
  go_step3
  go_wp2
  first|rw [hw'.out (by omega)]|rw [hp'.out (by omega)]
  clear hw' hp' hk hlo hhi
  go_loopw [0,5,6] (λs k o wr=>∃x y j:Nat,s=.int .u8 (x:Int)∧k=.int .i64 (j:Int)∧o=.int .u8 (y:Int)∧x<256∧y<256∧j<255∧Gf.gm y (Gf.pw x j)=Gf.pw a K∧Below w.heap.size w wr) (λ_ k _ _=>(intOf k).toNat)
  case atStart=>exact ⟨a,1,K,rfl,rfl,rfl,ha,by omega,hKb,Gf.one_gm _ (Gf.pw_lt a K ha),Below.refl _ _⟩
  case round =>
   obtain ⟨x,y,j,rfl,rfl,rfl,hx,hy,hj,hinv,hb⟩:=hrel
   have hinv':=Lib.hid hinv
   clear hinv
   by_cases hj0:j=0
   ·subst hj0
    go_wp2
    try rw [Exit.noGoto_ret]
    go_ret
    exact ⟨wX (by rw [<-hinv'.out];simp only [Gf.pw];rw [Gf.gm_one y hy]),hb⟩
   ·have t0:((j:Int)==0)=false:=by simp;omega
    have hod:=bCr j (by omega)
    by_cases hodd:j%2=1
    ·have t1:(bits BinOp.and IntKind.i64 (j:Int) 1==1)=true:=by rw [hod,hodd];rfl
     have hi':Gf.gm (Gf.gm y x) (Gf.pw (Gf.gm x x) (j / 2))=Gf.pw a K:=by rw [Gf.sq_odd y x j hy hx hodd];exact hinv'.out
     have hi:=Lib.hid hi'
     have ho:=Lib.hid hodd
     clear hodd hod hi' hinv'
     go_wp2_with fail
     refine (S6 y x hy hx _).mono ?_
     rintro e w1 ⟨rfl,hb1⟩
     go_wp2_with fail
     refine (S6 x x hx hx _).mono ?_
     rintro e w2 ⟨rfl,hb2⟩
     go_wp2
     go_roundw
     case rel=>exact ⟨Gf.gm x x,Gf.gm y x,j / 2,rfl,by go_num,rfl,Gf.gm_lt _ _ hx,Gf.gm_lt _ _ hy,by omega,hi.out,(hb.trans (hb1.mono hb.size)).trans (hb2.mono (bI hb.size hb1.size))⟩
     case measure=>simp [intOf];omega
    ·have t1:(bits BinOp.and IntKind.i64 (j:Int) 1==1)=false:=by rw [hod];simp;omega
     have hi':Gf.gm y (Gf.pw (Gf.gm x x) (j / 2))=Gf.pw a K:=by rw [Gf.sq_even y x j hx (by omega)];exact hinv'.out
     have hi:=Lib.hid hi'
     clear hodd hod hi' hinv'
     go_wp2_with fail
     refine (S6 x x hx hx _).mono ?_
     rintro e w2 ⟨rfl,hb2⟩
     go_wp2
     go_roundw
     case rel=>exact ⟨Gf.gm x x,y,j / 2,rfl,by go_num,rfl,Gf.gm_lt _ _ hx,hy,by omega,hi.out,hb.trans (hb2.mono hb.size)⟩
     case measure=>simp [intOf];omega
theorem aLJ(a n:Int)(c:Nat)(a0:0≤a)(a1:a≤255)(hc:Gf.powZ a.toNat n=c)(w:World):
 Calls Tryz.prog 225 #[.int .u8 a,.int .i64 n] w λe w'=>e=.returned (.int .u8 (c:Int))∧Below w.heap.size w w':=by
 obtain ⟨x,rfl⟩:=Int.eq_ofNat_of_zero_le a0
 rw [<-hc]
 by_cases h:x=0
 ·subst h;exact a1e n w
 ·exact bBs x n (by omega) h w
theorem a62(a:Int)(c:Nat)(a0:0≤a)(a1:a≤255)(hc:Gf.inv a.toNat=c)(w:World):
 Calls Tryz.prog 271 #[.int .u8 a] w λe w'=>e=.returned (.int .u8 (c:Int))∧Below w.heap.size w w':=by
 have hp:Gf.powZ a.toNat 254=c:=by rw [<-hc];exact Gf.powZ_inv _ (by omega)
 have hp':=Lib.hid hp
 clear hp hc
 go_enter Tryz.func271,Tryz.ntmps271
 go_wp2_with fail
 refine (aLJ a 254 c a0 a1 hp'.out _).mono ?_
 rintro e w1 ⟨rfl,hb⟩
 go_wp2
 go_ret
 exact ⟨rfl,hb⟩
theorem bBq(b i:Nat)(hb:b<256):
 bits BinOp.or IntKind.u8 ((b:Int)*2 ^ i%256) ((b:Int) / 2 ^ (8-i))=((Gf.rotl8 b i:Nat):Int):=by
 have e1:((b:Int)*2 ^ i%256)=((b*2 ^ i%256:Nat):Int):=by
  rw [Int.natCast_emod,Int.natCast_mul,Int.natCast_pow];rfl
 have e2:((b:Int) / 2 ^ (8-i))=((b / 2 ^ (8-i):Nat):Int):=by
  rw [Int.natCast_ediv,Int.natCast_pow];rfl
 rw [e1,e2,u8_or_nat _ _ (Nat.mod_lt _ (by omega)) (Nat.lt_of_le_of_lt (Nat.div_le_self _ _) hb)]
 unfold Gf.rotl8
 rw [Nat.shiftLeft_eq,Nat.shiftRight_eq_div_pow]
theorem aRu(b:Nat)(i:Nat)(hb:b<256)(hi:i<8)(w:World):
 Calls Tryz.prog 272 #[.int .u8 (b:Int),.int .i64 (i:Int)] w λe w'=>e=.returned (.int .u8 (Gf.rotl8 b i:Nat))∧w=w':=by
 have hand:bits .and .u64 (i:Int) 7=(i:Int):=by
  rw [show (7:Int)=((7:Nat):Int) from rfl,u64_and_nat _ _ (by omega) (by omega),nat_mask3,Nat.mod_eq_of_lt hi]
 go_enter Tryz.func272,Tryz.ntmps272
 go_wp2
 go_ret
 exact ⟨wX (bBq b i hb),rfl⟩
def bEC(b:Nat):Nat->Nat
 |0=>b
 |k+1=>bEC b k ^^^ Gf.rotl8 b (k+1)
theorem aH7(b i:Nat)(hb:b<256):Gf.rotl8 b i<256:=by
 unfold Gf.rotl8
 exact Nat.or_lt_two_pow (n:=8) (Nat.mod_lt _ (by omega)) (Nat.lt_of_le_of_lt (by rw [Nat.shiftRight_eq_div_pow];exact Nat.div_le_self _ _) hb)
theorem aV2(b k:Nat)(hb:b<256):bEC b k<256:=by
 induction k with
 |zero=>exact hb
 |succ k ih=>exact Gf.xor_lt _ _ ih (aH7 _ _ hb)
theorem aLH(a:Int)(c:Nat)(a0:0≤a)(a1:a≤255)(hc:Gf.sub a.toNat=c)(w:World):
 Calls Tryz.prog 224 #[.int .u8 a] w λe w'=>e=.returned (.int .u8 (c:Int))∧Below w.heap.size w w':=by
 have hb0:=Gf.inv_lt a.toNat
 have hc':bEC (Gf.inv a.toNat) 4 ^^^ 99=c:=by rw [<-hc,<-Gf.sub_eq _ (by omega)];rfl
 have hc2:=Lib.hid hc'
 clear hc' hc
 go_enter Tryz.func224,Tryz.ntmps224
 go_wp2_with fail
 refine (a62 a (Gf.inv a.toNat) a0 a1 rfl _).mono ?_
 rintro e w1 ⟨rfl,hb⟩
 generalize Gf.inv a.toNat=b at *
 go_wp2
 go_loopw [4,5] (λo i wr=>∃k:Nat,k≤4∧i=.int .i64 ((k:Int)+1)∧o=.int .u8 (bEC b k:Nat)∧wr=w1) (λ_ i _=>5-(intOf i).toNat)
 case atStart=>exact ⟨0,by omega,rfl,rfl,rfl⟩
 case round =>
  obtain ⟨k,hk,rfl,rfl,rfl⟩:=hrel
  have hg0:=aV2 b k hb0
  by_cases hlt:k<4
  ·go_wp2_with fail
   refine (aRu b (k+1) hb0 (by omega) _).mono ?_
   rintro e w2 ⟨rfl,rfl⟩
   go_wp2
   go_roundw
   case rel=>exact ⟨k+1,by omega,by go_num,by rw [u8_xor_nat _ _ hg0 (aH7 _ _ hb0)];rfl,by trivial⟩
   case measure=>simp [intOf];omega
  ·obtain rfl:k=4:=by omega
   go_wp2
   go_ret
   refine ⟨wX ?_,hb⟩
   rw [show (99:Int)=((99:Nat):Int) from rfl,u8_xor_nat _ _ hg0 (by omega),hc2.out]
def Q1(m:Nat):List Nat->Bool
 |[]=>true
 |x::l=>Nat.blt x m&&Q1 m l
theorem aLs{m:Nat}:∀{l:List Nat},Q1 m l=true->∀x∈l,x<m
 |[],_,x,hx=>by cases hx
 |y::l,h,x,hx=>by
  unfold Q1 at h
  rw [bJ,bO,bR] at h
  rcases bG.1 hx with rfl|hx
  ·exact h.1
  ·exact aLs h.2 x hx
def xQ(k:IntKind)(m:Nat):Rp SV->Option (List Nat)
 | .nil=>some []
 | .one (.v (.int j (.ofNat x)))=>bif decide (k=j)&&Nat.blt x m then some [x] else none
 | .arr j _ l=>bif decide (k=j)&&Q1 m l then some l else none
 | .node _ _ a b=>match xQ k m a,xQ k m b with
  |some l,some l'=>some (l++l')
  |_,_=>none
 |_=>none
theorem a6y{k:IntKind}{m:Nat}{r:List aF}{c:Rp SV}:∀{l:List Nat} {us:List Value},xQ k m c=some l->aD r c us->us=nv k l∧∀x∈l,x<m:=by
 induction c with
 |nil=>intro l us h d;cases h;cases d;exact ⟨rfl,λx hx=>by cases hx⟩
 |one x =>
  intro l us h d
  unfold xQ at h
  split at h<;>try (rename_i e;cases e)
  ·rename_i j x
   cases hq:decide (k=j)&&Nat.blt x m with
   |false=>rw [hq] at h;cases h
   |true =>
    rw [hq] at h;cases h
    rw [bJ,bO,bR,bR] at hq
    obtain ⟨rfl,hq⟩:=hq
    refine ⟨bQ d,λy hy=>?_⟩
    rw [iY] at hy;omega
  ·cases h
 |arr j n l' =>
  intro l us h d
  unfold xQ at h
  cases hq:decide (k=j)&&Q1 m l' with
  |false=>rw [hq] at h;cases h
  |true =>
   rw [hq] at h;cases h
   rw [bJ,bR] at hq
   obtain ⟨rfl,hq⟩:=hq
   exact ⟨fJ d,aLs hq⟩
 |q a=>intro l us h d;cases h
 |node s t a b iha ihb =>
  intro l us h d
  unfold xQ at h
  split at h
  ·rename_i x y ha hb
   cases h
   cases d with
   |node d1 d2 _ _ =>
    obtain ⟨rfl,b1⟩:=iha ha d1
    obtain ⟨rfl,b2⟩:=ihb hb d2
    exact ⟨wZ _ _ _,λx hx=>(eL.1 hx).elim (b1 x) (b2 x)⟩
  ·cases h
def aFf(args:List SV):Option SV:=match args with
 |[.a x,.a y]=>(match xQ .u32 4294967296 x,qA y with
  |some h,some b=>bif Nat.beq h.length 8&&Nat.beq b.length 64 then Sh.frcL (Sh.compF h b) λl=>some (.a (.arr .u32 8 l)) else none
  |_,_=>none)
 |_=>none
theorem aW2:bN Xt 62 (cU aFf):=jY (bB (by kernel_rfl)) λargs y hf r vals w hd hg=>by
 unfold aFf at hf
 split at hf
 ·rename_i x z
  split at hf
  ·rename_i h b hx hz
   cases hq:Nat.beq h.length 8&&Nat.beq b.length 64 with
   |false=>rw [hq] at hf;cases hf
   |true =>
    rw [hq,cond_true,Sh.frcL_eq] at hf
    cases hf
    rw [bJ,bE,bE,bR,bR] at hq
    cases hd with
    |cons d1 t=>cases t with
     |cons d2 t =>
      cases t
      cases d1 with
      |a d1=>cases d2 with
       |a d2 =>
        obtain ⟨rfl,b1⟩:=a6y hx d1
        obtain ⟨rfl,b2⟩:=aKw hz d2
        refine (aNN h b hq.1 (Sh.W32_of_mem b1) b2 hq.2 w (M0 hg)).mono ?_
        rintro e w' ⟨rfl,h2⟩
        refine ⟨_,rfl,?_,h2⟩
        rw [<-Sh.compF_eq h b hq.1]
        refine .a (.arr ?_)
        rw [Sh.compF_eq h b hq.1,Sh.comp_len8]
  ·cases hf
 ·cases hf
def aHz(args:List SV):Option SV:=match args with
 |[.v (.int .u8 (.ofNat a))]=>bif Nat.blt a 256 then Sh.frc (Gf.sub a) λc=>some (.v (.int .u8 (c:Int))) else none
 |_=>none
theorem aTE:bN Xt 224 (cU aHz):=jY (bB (by kernel_rfl)) λargs y hf r vals w hd hg=>by
 unfold aHz at hf
 split at hf
 ·rename_i a
  cases hq:Nat.blt a 256 with
  |false=>rw [hq] at hf;cases hf
  |true =>
   rw [hq,cond_true,Sh.frc_eq] at hf
   cases hf
   rw [bO,bR] at hq
   cases hd with
   |cons d t =>
    cases t;cases d
    exact (aLH (a:Int) (Gf.sub a) (by omega) (by omega) rfl w).mono λe w' ⟨h1,h2⟩=>⟨_,h1,.v _,h2⟩
 ·cases hf
def aFy(args:List SV):Option SV:=match args with
 |[.v (.int .u8 (.ofNat a)),.v (.int .u8 (.ofNat b))]=>bif Nat.blt a 256&&Nat.blt b 256 then Sh.frc (Gf.gm b a) λc=>some (.v (.int .u8 (c:Int))) else none
 |_=>none
theorem aWh:bN Xt 273 (cU aFy):=jY (bB (by kernel_rfl)) λargs y hf r vals w hd hg=>by
 unfold aFy at hf
 split at hf
 ·rename_i a b
  cases hq:Nat.blt a 256&&Nat.blt b 256 with
  |false=>rw [hq] at hf;cases hf
  |true =>
   rw [hq,cond_true,Sh.frc_eq] at hf
   cases hf
   rw [bJ,bO,bO,bR,bR] at hq
   cases hd with
   |cons d t=>cases t with
    |cons d2 t =>
     cases t;cases d;cases d2
     exact (aRZ (a:Int) (b:Int) (Gf.gm b a) (by omega) (by omega) (by omega) (by omega) (Gf.gm_comm _ _ hq.1 hq.2) w).mono λe w' ⟨h1,h2⟩=>⟨_,h1,.v _,h2⟩
 ·cases hf
def aMJ:List (FuncId×bV):=[(62,cU aFf),(224,cU aHz),(273,cU aFy)]++oL
theorem a9u:∀p∈aMJ,bN Xt p.1 p.2:=by
 intro p hp
 rcases eL.1 hp with hp|hp
 ·simp only [bG,cK,or_false] at hp
  rcases hp with rfl|rfl|rfl
  ·exact aW2
  ·exact aTE
  ·exact aWh
 ·exact pG p hp
end Go.Proofs.YtjboelhcieepkaaGreatDoor
namespace Go.Proofs.YtjboelhcieepkaaGreatDoor.Sh
theorem rM(l:List Nat):(sha l).length=32:=qC _
def lF(l m:List Nat)(n i:Nat):List Nat:=(List.range n).map λj=>if j<i then l.getD j 0 ^^^ m.getD j 0 else 0
theorem wP(l m:List Nat)(n i:Nat):(lF l m n i).length=n:=by simp [lF]
theorem a2V(l m:List Nat)(n:Nat):lF l m n 0=List.replicate n 0:=by
 apply oS (by simp [lF])
 intro j hj
 rw [wP] at hj
 rw [lF,fS _ _ _ hj];simp [hj]
theorem a5d(l m:List Nat)(n i:Nat)(hi:i<n):(lF l m n i).set i (l.getD i 0 ^^^ m.getD i 0)=lF l m n (i+1):=by
 apply oS (by rw [List.length_set,wP,wP])
 intro j hj
 rw [List.length_set,wP] at hj
 by_cases e:i=j
 ·subst e
  rw [getD_set_eq (by rw [wP];exact hi),lF,fS _ _ _ hj,if_pos (by omega)]
 ·rw [getD_set_ne e,lF,fS _ _ _ hj,lF,fS _ _ _ hj]
  by_cases h:j<i
  ·rw [if_pos h,if_pos (by omega)]
  ·rw [if_neg h,if_neg (by omega)]
theorem aYy{a b:Nat}(ha:a<256)(hb:b<256):a ^^^ b<256:=gD (n:=8) ha hb
def xorB(l m:List Nat):List Nat:=lF l m l.length l.length
theorem xorB_len(l m:List Nat):(xorB l m).length=l.length:=wP _ _ _ _
theorem xorB_byt(l m:List Nat)(hl:Byt l)(hm:Byt m):Byt (xorB l m):=λx hx=>by
 obtain ⟨j,_,rfl⟩:=dC.1 hx
 split
 ·exact aYy (hl.get j) (hm.get j)
 ·omega
theorem a3B(l m:List Nat)(i:Nat)(hi:i<l.length):(xorB l m).getD i 0=l.getD i 0 ^^^ m.getD i 0:=by
 rw [xorB,lF,fS _ _ _ hi,if_pos hi]
def kc(key:List Nat):List Nat:=if 64<key.length then sha key else key
def kb(key:List Nat):List Nat:=kc key++List.replicate (64-(kc key).length) 0
theorem aMD(key:List Nat):(kc key).length≤64:=by
 unfold kc;split
 ·rw [rM];omega
 ·omega
theorem aTU(key:List Nat)(h:Byt key):Byt (kc key):=by
 unfold kc;split
 ·exact aNv _
 ·exact h
theorem aAt(key:List Nat):(kb key).length=64:=by
 have:=aMD key
 simp [kb];omega
theorem aIO(key:List Nat)(h:Byt key):Byt (kb key):=(aTU key h).app (Byt.rep _ _ (by omega))
def kx(key:List Nat)(c:Nat):List Nat:=xorB (kb key) (List.replicate 64 c)
theorem aFA(key:List Nat)(c:Nat):(kx key c).length=64:=by rw [kx,xorB_len,aAt]
theorem aKE(key:List Nat)(c:Nat)(h:Byt key)(hc:c<256):Byt (kx key c):=xorB_byt _ _ (aIO key h) (Byt.rep _ _ hc)
theorem aIp(key:List Nat)(c i:Nat)(hi:i<64):(kx key c).getD i 0=(kb key).getD i 0 ^^^ c:=by
 rw [kx,a3B _ _ _ (by rw [aAt];exact hi)]
 congr 1
 rw [cP,List.getElem?_replicate,if_pos hi];rfl
def hm(key m:List Nat):List Nat:=sha (kx key 92++sha (kx key 54++m))
theorem aD9(key m:List Nat):(hm key m).length=32:=rM _
end Go.Proofs.YtjboelhcieepkaaGreatDoor.Sh
namespace Go.Proofs.YtjboelhcieepkaaGreatDoor
open Go.RowKit Sh
theorem aYa(l m:List Nat)(A A2:Option Addr)(n c c2 B:Nat)(hl:Byt l)(hm:Byt m)(hn63:n<281474976710656)(w:World)(hr:bH w B 1 A n (nv .u8 l))(hr2:bH w B 1 A2 n (nv .u8 m))(hB:B≤w.heap.size):
 Calls Tryz.prog 169 #[.slice A n c,.slice A2 n c2] w λe w'=>∃g,e=.returned (.tuple #[.slice (some ⟨g,0,none⟩) n n,.int .i64 0])∧aC w' g 5 (va .u8 (xorB l m))∧w.heap.size≤g∧Below w.heap.size w w':=by
 have hmk:=Z2 n (by omega)
 have hln:=hr.len
 have hmm:aC (w.alloc (.cells (va .u8 (List.replicate n 0)) 5)) w.heap.size 5 (va .u8 (lF l m n 0)):=by rw [a2V];exact aC.new _ _ _
 have hm':=Lib.hid hmm
 have hb0:Below w.heap.size w (w.alloc (.cells (va .u8 (List.replicate n 0)) 5)):=(Below.refl _ _).alloc (aS _) _
 have hbq:=Lib.hid hb0
 have hrq:=Lib.hid hr
 have hr2q:=Lib.hid hr2
 have hBq:=Lib.hid hB
 clear hmm hb0 hr hr2 hB
 go_enter Tryz.func169,Tryz.ntmps169
 go_wp2
 clear hmk
 generalize w.alloc (.cells (va .u8 (List.replicate n 0)) 5)=w1 at *
 go_loopw [25] (λs wr=>∃k:Nat,k≤n∧s=.int .i64 (k:Int)∧aC wr w.heap.size 5 (va .u8 (lF l m n k))∧Below w.heap.size w wr) (λs _=>n-(intOf s).toNat)
 case atStart=>exact ⟨0,by omega,rfl,hm'.out,hbq.out⟩
 case round =>
  clear hm' hbq
  obtain ⟨k,hk,rfl,hblk,hb⟩:=hrel
  by_cases hlt:k<n
  ·have hltI:(k:Int)<(n:Int):=by omega
   have hc:=hblk.num (i:=k) (by rw [wP];omega)
   have hf:=hblk.frozen k
   obtain ⟨a1,rfl,_,hc1⟩:=(hrq.out.below (hb.mono hBq.out)).num hlt
   obtain ⟨a2,rfl,_,hc2⟩:=(hr2q.out.below (hb.mono hBq.out)).num hlt
   have hx:=hl.get k
   have hy:=hm.get k
   have hset:=Lib.hid (a5d l m n k hlt)
   have hbh:=Lib.hid hb
   have hblh:=Lib.hid hblk
   clear hb hblk
   obtain ⟨u,hu⟩:∃u,(lF l m n k).getD k 0=u:=⟨_,rfl⟩
   rw [hu] at hc
   obtain ⟨x,hxe⟩:∃x,l.getD k 0=x:=⟨_,rfl⟩
   obtain ⟨y,hye⟩:∃y,m.getD k 0=y:=⟨_,rfl⟩
   rw [hxe] at hc1 hx
   rw [hye] at hc2 hy
   have hxe':=Lib.hid hxe
   have hye':=Lib.hid hye
   have hxr:bits BinOp.xor IntKind.u8 (x:Int) (y:Int)=((x ^^^ y:Nat):Int):=u8_xor_nat x y hx hy
   clear hxe hye hu
   go_wp2
   refine wp_region_still_tail 12 (by kernel_rfl) (by kernel_rfl) ?_
   simp only [List.take_succ_cons,List.take_zero,List.drop_succ_cons,List.drop_zero]
   change wpStill _ _ wr.drew _ _ _
   iterate 12 still_step
   refine wpStill_nil ?_
   change wpList _ _ _ _ _ wr.drew
   have hM:aC (wr.drew.setCell ⟨w.heap.size,k,none⟩ (.int .u8 ((x ^^^ y:Nat):Int))) w.heap.size 5 (va .u8 (lF l m n (k+1))):=by
    have h1:=hblh.out.drew.setNum k (x ^^^ y)
    rw [<-hxe'.out,<-hye'.out,hset.out] at h1
    rw [<-hxe'.out,<-hye'.out];exact h1
   have hMq:=Lib.hid hM
   have hBB:=Lib.hid (hbh.out.drew.setCell (p:=⟨w.heap.size,k,none⟩) (aS _) (.int .u8 ((x ^^^ y:Nat):Int)))
   clear hM
   go_wp2
   go_roundw
   case rel=>exact ⟨k+1,by omega,by go_num,hMq.out,hBB.out⟩
   case measure=>simp [intOf];omega
  ·obtain rfl:n=k:=by omega
   go_wp2
   go_ret2
   refine ⟨w.heap.size,rfl,?_,aS _,hb⟩
   unfold xorB
   rw [hln];exact hblk
end Go.Proofs.YtjboelhcieepkaaGreatDoor
namespace Go.Proofs.YtjboelhcieepkaaGreatDoor
open Go.RowKit
theorem aZI:(Tryz.prog.info? 3).map (λi=>(i.zero,i.size,i.bytes))=some (some (.int .i64 0),1,8):=by kernel_rfl
def sB(a:Nat)(n:Nat):List Value:=(List.range n).map λi=>Value.int .i64 ((a:Int) / 2 ^ i%2)
theorem aZT(a n:Nat):sB a (n+1)=sB a n++[Value.int .i64 ((a:Int) / 2 ^ n%2)]:=by
 unfold sB;rw [List.range_succ,List.map_append];rfl
theorem aHU(a k:Nat)(ha:a<256):0≤(a:Int) / 2 ^ k∧(a:Int) / 2 ^ k≤255:=by
 have e:(a:Int) / 2 ^ k=((a / 2 ^ k:Nat):Int):=by rw [Int.natCast_ediv,Int.natCast_pow];rfl
 rw [e]
 have:=Nat.div_le_self a (2 ^ k)
 generalize a / 2 ^ k=q at *
 omega
theorem aKG(a:Nat)(ha:a<256)(w:World):
 Calls Tryz.prog 296 #[.int .u8 (a:Int)] w λe w'=>∃v,e=.returned v∧w'.ownsRow w.heap.size 3 1 v 8 (sB a 8)∧Below w.heap.size w w':=by
 obtain ⟨i0,hi,hz0,hz1,hz2⟩:=info_parts aZI
 go_enter Tryz.func296,Tryz.ntmps296
 go_wp2
 go_loopw [3,4] (λv i wr=>∃k:Nat,k≤8∧i=.int .i64 (k:Int)∧wr.ownsRow w.heap.size 3 1 v k (sB a k)∧Below w.heap.size w wr) (λ_ i _=>8-(intOf i).toNat)
 case atStart=>exact ⟨0,by omega,rfl,⟨by simp [sB],.inl ⟨rfl,rfl⟩⟩,Below.refl _ _⟩
 case round =>
  obtain ⟨k,hk,rfl,hown,hb⟩:=hrel
  by_cases hlt:k<8
  ·obtain ⟨o6,hp1⟩:=aHU a k ha
   have hnew:∀j u,[Value.int .i64 ((a:Int) / 2 ^ k%2)][j]?=some u->(wr.alloc (Obj.cells #[Value.int .i64 ((a:Int) / 2 ^ k%2)] 3)).cell? ((⟨wr.heap.size,0,none⟩:Addr).add j)=some u:=by
    intro j u hu
    cases j with
    |zero=>simp at hu;subst hu;exact World.cell?_alloc_at _ _ _ _ rfl
    |succ j=>simp at hu
   have hnew':=Lib.hid hnew
   clear hnew
   go_wp2_with (at_builtin;refine wpList_append_own _ rfl (.tmp 9) (.tmp 15) 38 rfl w.heap.size 3 i0 (.int .i64 0) 1 8 Tryz.underlying38 hi hz0 hz1 hz2 rfl (by decide) _ k (sB a k) rfl (hown.alloc _) ⟨wr.heap.size,0,none⟩ 1 1 [_] rfl rfl hnew'.out (by intro u hu;simp at hu;subst hu;rfl) (by unfold maxLen;omega) (by omega) (by have:=hb.size;simp;omega) ?_;intro v' w1 hown' hgrow _)
   go_roundw
   case rel=>exact ⟨k+1,by omega,by go_num,by rw [aZT];exact hown',(hb.alloc hb.size _).grown hgrow (by have:=hb.size;simp;omega) (λj hj=>(hown.lt j hj).1)⟩
   case measure=>simp [intOf];omega
  ·obtain rfl:k=8:=by omega
   go_wp2
   go_ret
   exact ⟨_,rfl,hown,hb⟩
def bi(b:Bool):Int:=if b then 1 else 0
def p0:Array Value:=Array.replicate 15 (Value.int .i64 0)
theorem a7z(u:World):(Instr.makeSlice 38 (.int .i64 15) (.int .i64 15)).run Tryz.prog u=.ok (.slice (some ⟨u.heap.size,0,none⟩) 15 15) (u.alloc (.cells p0 3)):=by kernel_rfl
theorem aW6(m:Nat)(hm:m<15):p0[m]?=some (.int .i64 (bi false)):=by
 unfold p0;rw [Array.getElem?_replicate,if_pos hm];rfl
theorem aOv(a m n:Nat)(hm:m<n):(sB a n)[m]?=some (.int .i64 (bi (a.testBit m))):=by
 unfold sB
 rw [jC,rJ hm]
 have e:(a:Int) / 2 ^ m%2=((a / 2 ^ m%2:Nat):Int):=by rw [Int.natCast_emod,Int.natCast_ediv,Int.natCast_pow];rfl
 simp only [Option.map_some,e,Nat.testBit_eq_decide_div_mod_eq,bi]
 have:=Nat.mod_lt (a / 2 ^ m) (show 0<2 by omega)
 split<;>(rename_i h;simp at h;congr 2;omega)
theorem t9(b:Bool):0≤bi b∧bi b≤1:=by cases b<;>simp [bi]
theorem a05(b c:Bool):0≤bi b*bi c∧bi b*bi c≤1:=by cases b<;>cases c<;>simp [bi]
structure lK(a b G gx gy:Nat)(P:Nat->Bool)(w wr:World):Prop where
 p:∀m,m<15->wr.cell? ⟨G,m,none⟩=some (.int .i64 (bi (P m)))
 f:∀m,wr.frozen? ⟨G,m,none⟩=false
 x:∀m,m<8->wr.cell? ⟨gx,m,none⟩=some (.int .i64 (bi (a.testBit m)))
 y:∀m,m<8->wr.cell? ⟨gy,m,none⟩=some (.int .i64 (bi (b.testBit m)))
 bel:Below G w wr
theorem lK.store{a b G gx gy:Nat}{P P':Nat->Bool}{w wr:World}(h:lK a b G gx gy P w wr)(hx:G<gx)(hy:G<gy)(j:Nat)(hj:j<15)(v:Int)(hv:v=bi (P' j))
 (ho:∀m,m≠j->P' m=P m):lK a b G gx gy P' w (wr.setCell ⟨G,j,none⟩ (.int .i64 v)):=by
 refine ⟨λm hm=>?_,λm=>?_,λm hm=>?_,λm hm=>?_,h.bel.setCell (aS G) _⟩
 ·by_cases e:m=j
  ·subst e;rw [bCN (h.p m hm),hv]
  ·rw [a2e (Ne.symm e),h.p m hm,ho m e]
 ·rw [World.frozen?_setCell];exact h.f m
 ·rw [z6 (by omega),h.x m hm]
 ·rw [z6 (by omega),h.y m hm]
theorem lK.four{a b G gx gy:Nat}{P:Nat->Bool}{w wr:World}(h:lK a b G gx gy P w wr)(hx:G<gx)(hy:G<gy)(n:Nat)(h8:7<n)(h14:n≤14)(hb:P n=true):
 lK a b G gx gy (Gf.rdI P n) w ((((wr.setCell ⟨G,n-4,none⟩ (.int .i64 (1-bi (P (n-4))))).setCell ⟨G,n-5,none⟩ (.int .i64 (1-bi (P (n-5))))).setCell ⟨G,n-7,none⟩ (.int .i64 (1-bi (P (n-7))))).setCell ⟨G,n-8,none⟩ (.int .i64 (1-bi (P (n-8))))):=by
 have e1:∀c:Bool,1-bi c=bi (!c):=by intro c;cases c<;>rfl
 have s1:=h.store (P':=λm=>if m=n-4 then !P m else P m) hx hy (n-4) (by omega) (1-bi (P (n-4))) (by simp [e1]) (λm hm=>if_neg hm)
 have s2:=s1.store (P':=λm=>if m=n-4∨m=n-5 then !P m else P m) hx hy (n-5) (by omega) (1-bi (P (n-5))) (by simp [e1]) (λm hm=>by simp [hm])
 have s3:=s2.store (P':=λm=>if m=n-4∨m=n-5∨m=n-7 then !P m else P m) hx hy (n-7) (by omega) (1-bi (P (n-7))) (by simp [e1]) (λm hm=>by simp [hm])
 exact s3.store (P':=Gf.rdI P n) hx hy (n-8) (by omega) (1-bi (P (n-8))) (by simp [e1,Gf.rdI,hb]) (λm hm=>by simp [hm,Gf.rdI,hb])
theorem lK.drew_{a b G gx gy:Nat}{P:Nat->Bool}{w wr:World}(h:lK a b G gx gy P w wr):lK a b G gx gy P w wr.drew :=
 ⟨h.p,h.f,h.x,h.y,h.bel.drew⟩
theorem lK.cong{a b G gx gy:Nat}{P P':Nat->Bool}{w wr:World}(h:lK a b G gx gy P w wr)(e:∀m,P' m=P m):lK a b G gx gy P' w wr :=
 ⟨λm hm=>by rw [e];exact h.p m hm,h.f,h.x,h.y,h.bel⟩
theorem aLc(p:Nat->Bool)(n:Nat)(h7:7<n)(h14:n≤14):Gf.rd p (14-(n-1))=Gf.rdI (Gf.rd p (14-n)) n:=by
 have e:14-(n-1)=(14-n)+1:=by omega
 rw [e]
 show Gf.rdI (Gf.rd p (14-n)) (14-(14-n))=_
 rw [show 14-(14-n)=n from by omega]
theorem a1K(p:Nat->Bool)(n m:Nat)(h7:7<n)(h14:n≤14)(hb:Gf.rd p (14-n) n=false):Gf.rd p (14-(n-1)) m=Gf.rd p (14-n) m:=by
 rw [aLc p n h7 h14];unfold Gf.rdI;rw [hb];simp
theorem a1q(R:Nat->Bool)(j:Nat):Gf.outN R j<2 ^ j:=by
 induction j with
 |zero=>simp [Gf.outN]
 |succ j ih=>simp only [Gf.outN];rw [Nat.pow_succ];cases R (7-j)<;>simp<;>omega
theorem a67(R:Nat->Bool)(j:Nat):((Gf.outN R (j+1):Nat):Int)=2*(Gf.outN R j:Nat)+bi (R (7-j)):=by
 simp only [Gf.outN];cases R (7-j)<;>simp [bi]
theorem a4G(a b i k m:Nat)(hk:k<8)(hm:m≠i+k):Gf.cf a b (8*i+k+1) m=Gf.cf a b (8*i+k) m:=by
 have e1:(8*i+k) / 8=i:=by omega
 have e2:(8*i+k)%8=k:=by omega
 simp only [Gf.cf,e1,e2,if_neg hm]
theorem aUL(a b:Nat)(ha:a<256)(hb:b<256)(w:World):
 Calls Tryz.prog 292 #[.int .u8 (a:Int),.int .u8 (b:Int)] w λe w'=>e=.returned (.int .u8 (Gf.gm a b:Nat))∧Below w.heap.size w w':=by
 have hmk:=a7z
 go_enter Tryz.func292,Tryz.ntmps292
 go_wp2_with fail
 refine (aKG a ha _).mono ?_
 rintro e w1 ⟨v1,rfl,hown1,hb1⟩
 go_wp2_with fail
 refine (aKG b hb _).mono ?_
 rintro e w2 ⟨v2,rfl,hown2,hb2⟩
 obtain ⟨gx,cx,rfl,hgx,hgx'⟩:=hown1.form (by omega)
 obtain ⟨gy,cy,rfl,hgy,hgy'⟩:=hown2.form (by omega)
 have hG1:w.heap.size<w1.heap.size:=by have:=hb1.size;simp at this;omega
 have hG2:w1.heap.size≤w2.heap.size:=hb2.size
 have hx:∀m,m<8->w2.cell? ⟨gx,m,none⟩=some (.int .i64 (bi (a.testBit m))):=λm hm=>by
  rw [hb2.cell (p:=⟨gx,m,none⟩) hgx',hown1.cellAt m (by omega),aOv a m 8 hm]
 have hy:∀m,m<8->w2.cell? ⟨gy,m,none⟩=some (.int .i64 (bi (b.testBit m))):=λm hm=>by
  rw [hown2.cellAt m (by omega),aOv b m 8 hm]
 have hp:∀m,m<15->w2.cell? ⟨w.heap.size,m,none⟩=some (.int .i64 (bi false)):=λm hm=>by
  rw [hb2.cell (p:=⟨w.heap.size,m,none⟩) hG1,hb1.cell (p:=⟨w.heap.size,m,none⟩) (by simp),World.cell?_alloc_at _ _ _ _ rfl]
  exact aW6 m hm
 have hf:∀m,w2.frozen? ⟨w.heap.size,m,none⟩=false:=λm=>by
  rw [hb2.frozen (p:=⟨w.heap.size,m,none⟩) hG1,hb1.frozen (p:=⟨w.heap.size,m,none⟩) (by simp),World.frozen?_alloc_at _ _ _ _ rfl]
 have hbw:Below w.heap.size w w2:=aL6 ((Below.refl _ _).alloc (aS _) _) (aL6 hb1 hb2)
 have hgx2:w.heap.size<gx:=by simp at hgx;omega
 have hgy2:w.heap.size<gy:=by omega
 generalize hGG:w.heap.size=G at *
 clear hown1 hown2 hb1 hb2 hmk hgx hgy hgx' hgy' hG1 hG2
 go_wp2
 go_loopw [8,9] (λs _ wr=>∃i:Nat,i≤8∧s=.int .i64 (i:Int)∧lK a b G gx gy (Gf.cf a b (8*i)) w wr) (λs _ _=>8-(intOf s).toNat)
 case atStart=>exact ⟨0,by omega,rfl,hp,hf,hx,hy,hbw⟩
 case round =>
  obtain ⟨i,hi,rfl,hmem⟩:=hrel
  by_cases hlt:i<8
  ·obtain ⟨wo,rfl⟩:∃wo:World,wo=wr:=⟨_,rfl⟩
   have hlt':(i:Int)<8:=by omega
   go_wp2
   go_loopw [9] (λs wr=>∃k:Nat,k≤8∧s=.int .i64 (k:Int)∧lK a b G gx gy (Gf.cf a b (8*i+k)) w wr) (λs _=>8-(intOf s).toNat)
   case atStart=>exact ⟨0,by omega,rfl,hmem⟩
   case round =>
    obtain ⟨k,hk,rfl,hmem⟩:=hrel
    by_cases hlk:k<8
    ·have hlk':(k:Int)<8:=by omega
     have cp:=hmem.p (i+k) (by omega)
     have cx:=hmem.x i hlt
     have cy:=hmem.y k hlk
     have cf:=hmem.f (i+k)
     have hval:(bi (Gf.cf a b (8*i+k) (i+k))+bi (a.testBit i)*bi (b.testBit k))%2=bi (Gf.cf a b (8*i+k+1) (i+k)):=by
      have e1:(8*i+k) / 8=i:=by omega
      have e2:(8*i+k)%8=k:=by omega
      simp only [Gf.cf,e1,e2,if_true]
      cases Gf.cf a b (8*i+k) (i+k)<;>cases a.testBit i<;>cases b.testBit k<;>rfl
     have hval':=Lib.hid hval
     clear hval
     have b1:=t9 (Gf.cf a b (8*i+k) (i+k))
     have b2:=t9 (a.testBit i)
     have b3:=t9 (b.testBit k)
     have b4:=a05 (a.testBit i) (b.testBit k)
     obtain ⟨b10,b11⟩:=b1
     obtain ⟨b20,b21⟩:=b2
     obtain ⟨b30,b31⟩:=b3
     obtain ⟨b40,b41⟩:=b4
     generalize bi (Gf.cf a b (8*i+k) (i+k))=q1 at *
     generalize bi (a.testBit i)=q2 at *
     generalize bi (b.testBit k)=q3 at *
     go_wp2
     go_region
     all_goals go_wp2
     all_goals go_roundw
     case rel =>
      exact ⟨k+1,by omega,by go_num,(hmem.store hgx2 hgy2 (i+k) (by omega) _ hval'.out (λm hm=>a4G a b i k m hlk hm)).drew_⟩
     case measure=>simp [intOf];omega
    ·obtain rfl:k=8:=by omega
     go_wp2
     go_roundw
     case rel=>exact ⟨i+1,by omega,by go_num,hmem⟩
     case measure=>simp [intOf];omega
  ·obtain rfl:i=8:=by omega
   go_wp2
   go_loopw [10] (λs wr=>∃n:Nat,7≤n∧n≤14∧s=.int .i64 (n:Int)∧lK a b G gx gy (Gf.rd (Gf.cf a b 64) (14-n)) w wr) (λs _=>(intOf s).toNat)
   case atStart=>exact ⟨14,by omega,by omega,rfl,hmem⟩
   case round =>
    obtain ⟨n,hn,hn',rfl,hmem⟩:=hrel
    by_cases hlt:7<n
    ·have hlt':7<(n:Int):=by omega
     have h14:(n:Int)≤14:=by omega
     have ci:=hmem.p n (by omega)
     have c4:=hmem.p (n-4) (by omega)
     have c5:=hmem.p (n-5) (by omega)
     have c7:=hmem.p (n-7) (by omega)
     have c8:=hmem.p (n-8) (by omega)
     have f4:=hmem.f (n-4)
     have f5:=hmem.f (n-5)
     have f7:=hmem.f (n-7)
     have f8:=hmem.f (n-8)
     have n45:¬ n-4=n-5:=by omega
     have n47:¬ n-4=n-7:=by omega
     have n48:¬ n-4=n-8:=by omega
     have n57:¬ n-5=n-7:=by omega
     have n58:¬ n-5=n-8:=by omega
     have n78:¬ n-7=n-8:=by omega
     obtain ⟨b40,b41⟩:=t9 (Gf.rd (Gf.cf a b 64) (14-n) (n-4))
     obtain ⟨b50,b51⟩:=t9 (Gf.rd (Gf.cf a b 64) (14-n) (n-5))
     obtain ⟨b70,b71⟩:=t9 (Gf.rd (Gf.cf a b 64) (14-n) (n-7))
     obtain ⟨b80,b81⟩:=t9 (Gf.rd (Gf.cf a b 64) (14-n) (n-8))
     cases hbit:Gf.rd (Gf.cf a b 64) (14-n) n
     ·rw [hbit] at ci
      have ci':wr.cell? ⟨G,n,none⟩=some (.int .i64 0):=ci
      clear ci
      have hbit':=Lib.hid hbit
      clear hbit
      go_wp2
      go_roundw
      case rel=>exact ⟨n-1,by omega,by omega,by go_num,hmem.cong λm=>a1K _ n m hlt hn' hbit'.out⟩
      case measure=>simp [intOf];omega
     ·rw [hbit] at ci
      have ci':wr.cell? ⟨G,n,none⟩=some (.int .i64 1):=ci
      clear ci
      have hbit':=Lib.hid hbit
      clear hbit
      go_wp2
      go_roundw
      case rel =>
       refine ⟨n-1,by omega,by omega,by go_num,?_⟩
       rw [aLc _ n hlt hn']
       exact hmem.four hgx2 hgy2 n hlt hn' hbit'.out
      case measure=>simp [intOf];omega
    ·obtain rfl:n=7:=by omega
     have hm0:lK a b G gx gy (Gf.rd (Gf.cf a b 64) 7) w wr:=hmem
     clear hmem
     generalize hR:Gf.rd (Gf.cf a b 64) 7=R at *
     have hR':=Lib.hid hR
     clear hR
     go_wp2
     go_loopw [11,12] (λo s wr'=>∃j:Nat,j≤8∧s=.int .i64 (7-(j:Int))∧o=.int .i64 (Gf.outN R j:Nat)∧wr'=wr) (λ_ s _=>(intOf s+1).toNat)
     case atStart=>exact ⟨0,by omega,rfl,rfl,rfl⟩
     case round =>
      obtain ⟨j,hj,rfl,rfl,rfl⟩:=hrel
      have ho:=a1q R j
      have ho2:Gf.outN R j<256:=by
       have:=Nat.pow_le_pow_right (n:=2) (by omega) hj;omega
      by_cases hlt:j<8
      ·have cj:=hm0.p (7-j) (by omega)
       obtain ⟨b10,b11⟩:=t9 (R (7-j))
       have hidx:((7:Int)-(j:Int)).toNat=7-j:=by omega
       go_wp2
       go_roundw
       case rel=>exact ⟨j+1,by omega,by go_num,by rw [a67],by trivial⟩
       case measure=>simp [intOf];omega
      ·obtain rfl:j=8:=by omega
       go_wp2
       go_ret
       refine ⟨wX ?_,by rw [hGG];exact hm0.bel⟩
       rw [<-hR'.out]
       exact congrArg Nat.cast (Gf.rm_eq a b ha hb)
def vG(x i:Nat):Nat->Nat
 |0=>99 / 2 ^ i
 |k+1=>vG x i k+x / 2 ^ ((i+(4+k))%8)
def vK(x:Nat):Nat->Nat
 |0=>0
 |j+1=>2*vK x j+vG x (7-j) 5%2
theorem aSV:∀x,x<256->vK x 8=Gf.aff x:=by decide +kernel
theorem aPV(x i k:Nat)(hx:x<256):vG x i k≤99+256*k:=by
 induction k with
 |zero=>simp only [vG];have:=Nat.div_le_self 99 (2 ^ i);omega
 |succ k ih=>simp only [vG];have:=Nat.div_le_self x (2 ^ ((i+(4+k))%8));omega
theorem a08(x j:Nat):vK x j<2 ^ j:=by
 induction j with
 |zero=>simp [vK]
 |succ j ih=>simp only [vK];rw [Nat.pow_succ];omega
theorem aLQ(x:Nat)(hx:x<256)(w:World):
 Calls Tryz.prog 295 #[.int .u8 (x:Int)] w λe w'=>e=.returned (.int .u8 (Gf.aff x:Nat))∧w=w':=by
 go_enter Tryz.func295,Tryz.ntmps295
 go_wp2
 go_loop [3,4] (λo s=>∃j:Nat,j≤8∧s=.int .i64 (7-(j:Int))∧o=.int .i64 (vK x j:Nat)) (λ_ s=>(intOf s+1).toNat)
 case atStart=>exact ⟨0,by omega,rfl,rfl⟩
 case round =>
  obtain ⟨j,hj,rfl,rfl⟩:=hrel
  have ho:=a08 x j
  have ho2:vK x j<256:=by
   have:=Nat.pow_le_pow_right (n:=2) (by omega) hj;omega
  by_cases hlt:j<8
  ·have hlt':(j:Int)<8:=by omega
   go_wp2
   go_loop [5,6] (λt s=>∃k:Nat,k≤5∧s=.int .i64 (4+(k:Int))∧t=.int .i64 (vG x (7-j) k:Nat)) (λ_ s=>9-(intOf s).toNat)
   case atStart=>exact ⟨0,by omega,rfl,by simp only [vG];rw [Int.natCast_ediv,Int.natCast_pow];rfl⟩
   case round =>
    obtain ⟨k,hk,rfl,rfl⟩:=hrel
    have hs:=aPV x (7-j) k hx
    by_cases hlk:k<5
    ·have hlk':(k:Int)<5:=by omega
     have hmod:(((7:Int)-(j:Int))+(4+(k:Int)))%8=(((7-j+(4+k))%8:Nat):Int):=by omega
     obtain ⟨p0,p1⟩:=aHU x ((7-j+(4+k))%8) hx
     go_wp2
     go_round
     case rel=>exact ⟨k+1,by omega,by go_num,by simp only [vG];rw [Int.natCast_add,Int.natCast_ediv,Int.natCast_pow];rfl⟩
     case measure=>simp [intOf];omega
    ·obtain rfl:k=5:=by omega
     go_wp2
     go_round
     case rel=>exact ⟨j+1,by omega,by go_num,by simp only [vK];go_num⟩
     case measure=>simp [intOf];omega
  ·obtain rfl:j=8:=by omega
   go_wp2
   go_ret
   exact ⟨wX (by rw [aSV x hx]),rfl⟩
def gF:List Nat:=List.replicate 256 0
theorem bEk(w:World):(zeroValue 465).run Tryz.prog w=.ok (.agg (va .u8 gF)) w:=by kernel_rfl
theorem xX:gF.length=256:=lR ..
theorem getD_set_eq{l:List Nat}{i v:Nat}(h:i<l.length):(l.set i v).getD i 0=v:=by
 simp [h]
theorem getD_set_ne{l:List Nat}{i j v:Nat}(h:i≠j):(l.set i v).getD j 0=l.getD j 0:=by
 simp [h]
structure nA(G:Nat)(o p:List Nat)(w wr:World):Prop where
 r:aC wr G 465 (va .u8 gF)
 bo:aC wr (G+1) 465 (va .u8 o)
 bp:aC wr (G+1+1) 465 (va .u8 p)
 ol:o.length=256
 pl:p.length=256
 bel:Below G w wr
theorem nA.setP{G:Nat}{o p:List Nat}{w wr:World}(h:nA G o p w wr)(i v:Nat):nA G o (p.set i v) w (wr.setCell ⟨G+1+1,i,none⟩ (.int .u8 (v:Int))) :=
 ⟨h.r.far (p:=⟨G+1+1,i,none⟩) (by simp;omega) _,h.bo.far (p:=⟨G+1+1,i,none⟩) (by simp) _,h.bp.setNum i v,h.ol,by rw [List.length_set];exact h.pl,h.bel.setCell (by simp;omega) _⟩
theorem nA.setO{G:Nat}{o p:List Nat}{w wr:World}(h:nA G o p w wr)(i v:Nat):nA G (o.set i v) p w (wr.setCell ⟨G+1,i,none⟩ (.int .u8 (v:Int))) :=
 ⟨h.r.far (p:=⟨G+1,i,none⟩) (by simp) _,h.bo.setNum i v,h.bp.far (p:=⟨G+1,i,none⟩) (by simp) _,by rw [List.length_set];exact h.ol,h.pl,h.bel.setCell (by simp) _⟩
theorem nA.drew_{G:Nat}{o p:List Nat}{w wr:World}(h:nA G o p w wr):nA G o p w wr.drew:=⟨h.r,h.bo,h.bp,h.ol,h.pl,h.bel.drew⟩
def jN:List Nat:=(List.range 256).map Gf.sub
theorem E5:jN.length=256:=by simp [jN]
def U3(p:List Nat)(k:Nat):Prop:=∀j,j<k->p.getD j 0=Gf.ex j
def aCq(o:List Nat)(k:Nat):Prop:=∀j,j<k->o.getD (Gf.ex j) 0=Gf.sub (Gf.ex j)
theorem aME{p:List Nat}{k:Nat}(h:U3 p k)(hl:k<p.length):U3 (p.set k (Gf.ex k)) (k+1):=by
 intro j hj
 by_cases e:k=j
 ·subst e;exact getD_set_eq hl
 ·rw [getD_set_ne e];exact h j (by omega)
theorem a4L{o:List Nat}{k:Nat}(h:aCq o k)(hl:Gf.ex k<o.length):aCq (o.set (Gf.ex k) (Gf.sub (Gf.ex k))) (k+1):=by
 intro j hj
 by_cases e:Gf.ex k=Gf.ex j
 ·rw [e];exact getD_set_eq (by rw [<-e];exact hl)
 ·rw [getD_set_ne e];exact h j (by
   have:j≠k:=by rintro rfl;exact e rfl
   omega)
theorem bDV{o:List Nat}(h:aCq o 255)(hl:o.length=256):o.set 0 (Gf.sub 0)=jN:=by
 apply List.ext_getElem?
 intro i
 by_cases hi:i<256
 ·have e1:(o.set 0 (Gf.sub 0)).getD i 0=Gf.sub i:=by
   by_cases h0:0=i
   ·subst h0;exact getD_set_eq (by omega)
   ·rw [getD_set_ne h0]
    have:=h (Gf.lg i) (Gf.lg_lt i hi)
    rw [Gf.ex_lg i hi (by omega)] at this;exact this
  have hi':i<(o.set 0 (Gf.sub 0)).length:=by rw [List.length_set];omega
  rw [cP,eZ hi'] at e1
  rw [eZ hi']
  simp only [Option.getD_some] at e1
  rw [e1];unfold jN;rw [jC,rJ hi];rfl
 ·rw [fA (by rw [List.length_set];omega),fA (by simp [jN];omega)]
theorem aYP(p:Nat)(hp:p<256)(h:¬ 255<2*p):bits .xor .u8 (2*(p:Int)) (p:Int)=((Gf.xt p ^^^ p:Nat):Int):=by
 have e:=Gf.xt_twice p hp
 rw [if_neg h,Nat.mod_eq_of_lt (by omega)] at e
 rw [show (2*(p:Int))=((2*p:Nat):Int) from by omega,u8_xor_nat _ _ (by omega) hp,e]
theorem bEn(p:Nat)(hp:p<256)(h:255<2*p):bits .xor .u8 (bits .xor .i64 (2*(p:Int)) 283%256) (p:Int)=((Gf.xt p ^^^ p:Nat):Int):=by
 have e:=Gf.xt_twice p hp
 rw [if_pos h] at e
 rw [show (2*(p:Int))=((2*p:Nat):Int) from by omega,show (283:Int)=((283:Nat):Int) from rfl,aRj _ _ (by omega) (by omega)]
 rw [show (((2*p ^^^ 283:Nat):Int)%256)=(((2*p ^^^ 283)%256:Nat):Int) from by omega,u8_xor_nat _ _ (by omega) hp,e]
set_option maxRecDepth 100000 in
theorem aLo(w:World):
 Calls Tryz.prog 290 #[] w λe w'=>e=.returned (.agg (va .u8 jN))∧Below w.heap.size w w':=by
 have hzv:=bEk
 have hz0:(va .u8 gF)[0]?=some (.int .u8 0):=by rw [aFk (by rw [xX];omega)];rfl
 go_enter Tryz.func290,Tryz.ntmps290
 go_wp2
 have hm:nA w.heap.size gF (gF.set 0 1) w (((w.alloc (Obj.cells (va .u8 gF) 465)).alloc (Obj.cells (va .u8 gF) 465)).alloc (Obj.cells ((va .u8 gF).setIfInBounds 0 (.int .u8 1)) 465)):=by
  have e:(va .u8 gF).setIfInBounds 0 (.int .u8 1)=va .u8 (gF.set 0 1):=aI7 .u8 gF 0 1
  rw [e]
  refine ⟨((aC.new w _ _).alloc _).alloc _,?_,?_,xX,by rw [List.length_set];exact xX,(((Below.refl _ _).alloc (aS _) _).alloc (by simp) _).alloc (by simp;omega) _⟩
  ·have:=(aC.new (w.alloc (Obj.cells (va .u8 gF) 465)) 465 (va .u8 gF)).alloc (Obj.cells (va .u8 (gF.set 0 1)) 465)
   simpa using this
  ·have:=aC.new ((w.alloc (Obj.cells (va .u8 gF) 465)).alloc (Obj.cells (va .u8 gF) 465)) 465 (va .u8 (gF.set 0 1))
   simpa using this
 have hp1:U3 (gF.set 0 1) 1:=by
  intro j hj
  obtain rfl:j=0:=by omega
  rw [getD_set_eq (by rw [xX];omega),Gf.ex_zero]
 generalize hGG:w.heap.size=G at *
 generalize gF.set 0 1=P at hm hp1
 clear hzv hz0
 go_loopw [3,4] (λs _ wr=>∃(k:Nat) (p:List Nat),1≤k∧k≤256∧s=.int .i64 (k:Int)∧U3 p k∧nA G gF p w wr) (λs _ _=>256-(intOf s).toNat)
 case atStart=>exact ⟨1,P,by omega,by omega,rfl,hp1,hm⟩
 case round =>
  obtain ⟨k,p,hk1,hk,rfl,hp,hmem⟩:=hrel
  clear hm hp1 P
  by_cases hlt:k<256
  ·have hlt':(k:Int)<256:=by omega
   have hk1':1≤(k:Int):=by omega
   have hidx:((k:Int)-1).toNat=k-1:=by omega
   have hl:=hmem.pl
   have hc0:=hmem.bp.num (i:=k-1) (by omega)
   have hc1:=hmem.bp.num (i:=k) (by omega)
   have hf1:=hmem.bp.frozen k
   rw [hp (k-1) (by omega)] at hc0
   have hx:=Gf.ex_lt (k-1)
   generalize p.getD k 0=pk at *
   have hs:=Gf.ex_succ (k-1) (by omega)
   rw [show k-1+1=k from by omega] at hs
   have hs':=Lib.hid hs
   clear hs
   by_cases hbig:255<2*Gf.ex (k-1)
   ·have hbig':255<2*(Gf.ex (k-1):Int):=by omega
    go_wp2
    go_roundw
    case rel=>exact ⟨k+1,p.set k (Gf.ex k),by omega,by omega,by go_num,aME hp (by omega),by rw [bEn _ hx hbig,<-hs'.out];exact hmem.setP k _⟩
    case measure=>simp [intOf];omega
   ·have hbig':2*(Gf.ex (k-1):Int)≤255:=by omega
    go_wp2
    go_roundw
    case rel=>exact ⟨k+1,p.set k (Gf.ex k),by omega,by omega,by go_num,aME hp (by omega),by rw [aYP _ hx hbig,<-hs'.out];exact hmem.setP k _⟩
    case measure=>simp [intOf];omega
  ·have ek:(k:Int)=256:=by omega
   replace hp:U3 p 256:=λj hj=>hp j (by omega)
   go_wp2
   clear ek hk hk1 hlt
   go_loopw [5] (λs wr=>∃(k:Nat) (o:List Nat),k≤255∧s=.int .i64 (k:Int)∧aCq o k∧nA G o p w wr) (λs _=>255-(intOf s).toNat)
   case atStart=>exact ⟨0,gF,by omega,rfl,λj hj=>by omega,hmem⟩
   case round =>
    obtain ⟨k,o,hk,rfl,ho,hmem⟩:=hrel
    by_cases hlt:k<255
    ·have hlt':(k:Int)<255:=by omega
     have hl:=hmem.pl
     have hlo:=hmem.ol
     have hc0:=hmem.bp.num (i:=k) (by omega)
     have hc1:=hmem.bp.num (i:=255-k) (by omega)
     have hx:=Gf.ex_lt k
     have hc2:=hmem.bo.num (i:=Gf.ex k) (by omega)
     have hf2:=hmem.bo.frozen (Gf.ex k)
     rw [hp k (by omega)] at hc0
     rw [hp (255-k) (by omega),Gf.ex_inv k (by omega)] at hc1
     have hi:=Gf.inv_lt (Gf.ex k)
     have hidx:((255:Int)-(k:Int)).toNat=255-k:=by omega
     generalize o.getD (Gf.ex k) 0=ok at *
     have hs:=Lib.hid (Gf.sub_eq (Gf.ex k) hx)
     go_wp2
     have q1:(k:Int)<256:=by omega
     have q2:(255:Int)-(k:Int)<256:=by omega
     have q3:0≤(255:Int)-(k:Int):=by omega
     have q3':(k:Int)≤255:=by omega
     have q4:(Gf.ex k:Int)<256:=by omega
     have q5:IntKind.i64.wrap ((255:Int)-(k:Int))=(255:Int)-(k:Int):=IntWalk.i64_in _ (by omega)
     refine wp_region_still_tail 9 (by kernel_rfl) (by kernel_rfl) ?_
     simp only [List.take_succ_cons,List.take_zero,List.drop_succ_cons,List.drop_zero]
     change wpStill _ _ wr.drew _ _ _
     iterate 7 still_step
     still_call ((aLQ _ hi _).mono (λe w' h=>⟨h.1,h.2.symm⟩))
     still_step
     refine wpStill_nil ?_
     change wpList _ _ _ _ _ wr.drew
     go_wp2
     go_roundw
     case rel=>exact ⟨k+1,o.set (Gf.ex k) (Gf.sub (Gf.ex k)),by omega,by go_num,a4L ho (by omega),by rw [hs.out];first|exact (hmem.setO _ _).drew_|exact hmem.drew_.setO _ _⟩
     case measure=>simp [intOf];omega
    ·have ek:(k:Int)=255:=by omega
     obtain rfl:k=255:=by omega
     have hc0:=hmem.bo.num (i:=0) (by have:=hmem.ol;omega)
     have hf0:=hmem.bo.frozen 0
     have hall:=Lib.hid (bDV ho hmem.ol)
     generalize o.getD 0 0=o0 at *
     go_wp2_with fail
     refine (aLQ 0 (by omega) _).mono ?_
     rintro e w3 ⟨rfl,rfl⟩
     have haff:Gf.aff 0=Gf.sub 0:=Gf.sub_eq 0 (by omega)
     have hm2:nA G jN p w (wr.setCell ⟨G+1,0,none⟩ (.int .u8 (Gf.aff 0:Nat))):=by rw [<-hall.out,haff];exact hmem.setO 0 _
     have hm3:=Lib.hid hm2
     clear haff hm2 hall hmem
     go_wp2
     have hm2:=hm3.out
     generalize wr.setCell ⟨G+1,0,none⟩ (.int .u8 (Gf.aff 0:Nat))=w3 at *
     have hsz:(Tryz.prog.info? 465).map (·.size)=some (va .u8 jN).size:=by rw [b9,E5];kernel_rfl
     refine wp_load_row 465 (.tmp 1) rfl (G+1) rfl 465 (va .u8 jN) (0,0) _ hm2.bo Tryz.underlying465 rfl hsz ?_
     clear hsz
     have hst:=mU (P:=Tryz.prog) hm2.r .u8 jN (by rw [b9,E5,xX])
     go_wp2
     have hsz:(Tryz.prog.info? 465).map (·.size)=some (va .u8 jN).size:=by rw [b9,E5];kernel_rfl
     exact bodyPost_ret (results_cell_row rfl _ _ G 465 (va .u8 jN) (0,0) _ rfl (hm2.r.row _) Tryz.underlying465 rfl hsz) rfl ⟨rfl,by rw [hGG];exact eJ hm2.bel (aS _) _⟩
theorem bDU(a b c:Nat)(ha:a<256)(hb:b<256)(hc:Gf.gm a b=c)(w:World):
 Calls Tryz.prog 273 #[.int .u8 (a:Int),.int .u8 (b:Int)] w λe w'=>e=.returned (.int .u8 (c:Int))∧Below w.heap.size w w':=by
 rw [<-hc];exact S6 a b ha hb w
theorem aSk(a b c:Nat)(ha:a<256)(hb:b<256)(hc:Gf.gm a b=c)(w:World):
 Calls Tryz.prog 292 #[.int .u8 (a:Int),.int .u8 (b:Int)] w λe w'=>e=.returned (.int .u8 (c:Int))∧Below w.heap.size w w':=by
 rw [<-hc];exact aUL a b ha hb w
theorem a5S(a:Nat)(n:Int)(c:Nat)(ha:a<256)(hc:Gf.powZ a n=c)(w:World):
 Calls Tryz.prog 225 #[.int .u8 (a:Int),.int .i64 n] w λe w'=>e=.returned (.int .u8 (c:Int))∧Below w.heap.size w w' :=
 aLJ a n c (by omega) (by omega) hc w
theorem O1(a c:Nat)(ha:a<256)(hc:Gf.sub a=c)(w:World):
 Calls Tryz.prog 224 #[.int .u8 (a:Int)] w λe w'=>e=.returned (.int .u8 (c:Int))∧Below w.heap.size w w' :=
 aLH a c (by omega) (by omega) hc w
end Go.Proofs.YtjboelhcieepkaaGreatDoor
namespace Go.Proofs.YtjboelhcieepkaaGreatDoor.Ci
def upd(f:Nat->Nat)(b:List Nat)(k:Nat):List Nat:=(List.range b.length).map λi=>if i<k then f i else b.getD i 0
theorem upd_len(f:Nat->Nat)(b:List Nat)(k:Nat):(upd f b k).length=b.length:=by simp [upd]
theorem upd_get(f:Nat->Nat)(b:List Nat)(k i:Nat)(hi:i<b.length):(upd f b k).getD i 0=if i<k then f i else b.getD i 0:=by
 simp [upd,hi]
theorem upd_zero(f:Nat->Nat)(b:List Nat):upd f b 0=b:=by
 apply List.ext_getElem
 ·simp [upd]
 ·intro i h1 h2
  simp [upd,h2]
theorem upd_set(f:Nat->Nat)(b:List Nat)(k:Nat):(upd f b k).set k (f k)=upd f b (k+1):=by
 apply List.ext_getElem
 ·simp [upd]
 ·intro i h1 h2
  have hi:i<b.length:=by simpa [upd] using h2
  rw [List.getElem_set]
  by_cases e:k=i
  ·subst e
   simp [upd]
  ·rw [if_neg e]
   simp only [upd,List.getElem_map,List.getElem_range]
   by_cases h:i<k
   ·rw [if_pos h,if_pos (by omega)]
   ·rw [if_neg h,if_neg (by omega)]
theorem upd_all(f:Nat->Nat)(b:List Nat)(k:Nat)(hk:b.length≤k):upd f b k=(List.range b.length).map f:=by
 apply vN
 intro i hi
 rw [if_pos (by have:=dF.1 hi;omega)]
def addK(b key:List Nat):List Nat:=(List.range 16).map λi=>b.getD i 0 ^^^ key.getD i 0
def each(s:Nat->Nat)(b:List Nat):List Nat:=(List.range 16).map λi=>s (b.getD i 0)
def rot(p:Nat)(b:List Nat):List Nat:=(List.range 16).map λi=>b.getD (4*((i / 4+p*(i%4))%4)+i%4) 0
def mixS(f b:List Nat)(c r:Nat):Nat->Nat
 |0=>0
 |j+1=>mixS f b c r j ^^^ Gf.gm (f.getD j 0) (b.getD (4*c+(r+j)%4) 0)
def mix(f b:List Nat):List Nat:=(List.range 16).map λi=>mixS f b (i / 4) (i%4) 4
def Byt(l:List Nat):Prop:=∀x∈l,x<256
theorem Byt.get{l:List Nat}(h:Byt l)(i:Nat):l.getD i 0<256:=by
 rw [cP]
 rcases Nat.lt_or_ge i l.length with hi|hi
 ·rw [eZ hi];exact h _ (List.getElem_mem hi)
 ·rw [fA hi];simp
theorem xZ{f:Nat->Nat}{n:Nat}(h:∀i,i<n->f i<256):Byt ((List.range n).map f):=by
 intro x hx
 obtain ⟨i,hi,rfl⟩:=dC.1 hx
 exact h i (dF.1 hi)
theorem aMI{b k:List Nat}(hb:Byt b)(hk:Byt k):Byt (addK b k):=xZ λi _=>gD (n:=8) (hb.get i) (hk.get i)
theorem rot_byt{p:Nat}{b:List Nat}(hb:Byt b):Byt (rot p b):=xZ λ_i _=>hb.get _
theorem aM7(b k:List Nat):(addK b k).length=16:=by simp [addK]
theorem each_len(s:Nat->Nat)(b:List Nat):(each s b).length=16:=by simp [each]
theorem rot_len(p:Nat)(b:List Nat):(rot p b).length=16:=by simp [rot]
theorem mix_len(f b:List Nat):(mix f b).length=16:=by simp [mix]
theorem mixS_lt(f b:List Nat)(hf:Byt f)(hb:Byt b)(c r:Nat):∀j,mixS f b c r j<256
 |0=>by simp [mixS]
 |j+1=>by
  unfold mixS
  exact gD (n:=8) (mixS_lt f b hf hb c r j) (Gf.gm_lt _ _ (hf.get j))
theorem mix_byt{f b:List Nat}(hf:Byt f)(hb:Byt b):Byt (mix f b):=xZ λ_i _=>mixS_lt f b hf hb _ _ 4
end Go.Proofs.YtjboelhcieepkaaGreatDoor.Ci
namespace Go.Proofs.YtjboelhcieepkaaGreatDoor
open Go.RowKit
structure k7(S:Nat)(b:List Nat)(w wr:World):Prop where
 s:aC wr S 382 (va .u8 b)
 bel:Below S w wr
theorem aHk(S:Nat)(b key:List Nat)(hbl:b.length=16)(hkl:key.length=16)(hb:Ci.Byt b)(hk:Ci.Byt key)(w:World)(hs:aC w S 382 (va .u8 b)):
 Calls Tryz.prog 226 #[.pointer (some ⟨S,0,none⟩),.agg (va .u8 key)] w λe w'=>e=.returned (.tuple #[])∧k7 S (Ci.addK b key) w w':=by
 have hlt:=hs.lt
 have hm:k7 S (Ci.upd (λi=>b.getD i 0 ^^^ key.getD i 0) b 0) w (w.alloc (.cells (va .u8 key) 26)):=by
  rw [Ci.upd_zero];exact ⟨hs.alloc _,(Below.refl _ _).alloc (by omega) _⟩
 have hkk:aC (w.alloc (.cells (va .u8 key) 26)) w.heap.size 26 (va .u8 key):=aC.new _ _ _
 have hmm:=Lib.hid hm
 have hkh:=Lib.hid hkk
 clear hs hm hkk
 go_enter Tryz.func226,Tryz.ntmps226
 go_wp2
 generalize w.alloc (.cells (va .u8 key) 26)=w1 at *
 go_loopw [5] (λs wr=>∃k:Nat,k≤16∧s=.int .i64 (k:Int)∧k7 S (Ci.upd (λi=>b.getD i 0 ^^^ key.getD i 0) b k) w wr∧aC wr w.heap.size 26 (va .u8 key)) (λs _=>16-(intOf s).toNat)
 case atStart=>exact ⟨0,by omega,rfl,hmm.out,hkh.out⟩
 case round =>
  clear hmm hkh
  obtain ⟨k,hk16,rfl,hmem,hkey⟩:=hrel
  by_cases hlt:k<16
  ·have hltI:(k:Int)<16:=by omega
   have hc:=hmem.s.num (i:=k) (by rw [Ci.upd_len];omega)
   have hf:=hmem.s.frozen k
   rw [Ci.upd_get _ _ _ _ (by omega),if_neg (by omega)] at hc
   have hc2:=hkey.num (i:=k) (by omega)
   have hx:=hb.get k
   have hy:=hk.get k
   have hset:=Lib.hid (Ci.upd_set (λi=>b.getD i 0 ^^^ key.getD i 0) b k)
   have hxy:=Lib.hid (rfl:b.getD k 0 ^^^ key.getD k 0=b.getD k 0 ^^^ key.getD k 0)
   have hmh:=Lib.hid hmem
   have hkh:=Lib.hid hkey
   clear hmem hkey
   obtain ⟨x,hxe⟩:∃x,b.getD k 0=x:=⟨_,rfl⟩
   obtain ⟨y,hye⟩:∃y,key.getD k 0=y:=⟨_,rfl⟩
   rw [hxe] at hc hx
   rw [hye] at hc2 hy
   have hxe':=Lib.hid hxe
   have hye':=Lib.hid hye
   have hxr:bits BinOp.xor IntKind.u8 (x:Int) (y:Int)=((x ^^^ y:Nat):Int):=u8_xor_nat x y hx hy
   clear hxe hye hxy
   go_wp2
   refine wp_region_still_tail 13 (by kernel_rfl) (by kernel_rfl) ?_
   simp only [List.take_succ_cons,List.take_zero,List.drop_succ_cons,List.drop_zero]
   change wpStill _ _ wr.drew _ _ _
   iterate 13 still_step
   refine wpStill_nil ?_
   change wpList _ _ _ _ _ wr.drew
   go_wp2
   go_roundw
   case rel =>
    refine ⟨k+1,by omega,by go_num,⟨?_,(jV hmh.out.bel 1).setCell (aS _) _⟩,?_⟩
    ·rw [<-hset.out,hxe'.out,hye'.out]
     have:=hmh.out.s.drew.setNum k (x ^^^ y)
     first|exact this|simpa using this
    ·exact hkh.out.drew.far (by simp;omega) _
   case measure=>simp [intOf];omega
  ·obtain rfl:k=16:=by omega
   go_wp2
   go_end0
   refine ⟨rfl,?_,hmem.bel⟩
   have:=hmem.s
   rw [Ci.upd_all _ _ _ (by omega),hbl] at this
   exact this
