import Derived.BigQuiet
import Derived.Deep.AppendLies
import Derived.Deep.DrawnRows
import Derived.Deep.QuietTactic
import Derived.Deep.RegionHeld3
import Derived.Laws.CopyOwn
import Derived.Lib.Hide
import Derived.StillTailTactics
import Derived.WalkKit
import Derived.WalkLawsBesides
import Derived.WalkSpells
namespace Go.Proofs.YtmlmfpikncogpaaGreat
open Go.RowKit
set_option linter.unusedSimpArgs false
set_option linter.unusedVariables false
set_option maxRecDepth 100000
set_option maxHeartbeats 16000000
abbrev CT:= @List.getElem?_eq_getElem
abbrev CU:= @List.length_append
abbrev CV:= @List.getElem?_eq_some_iff
abbrev CW:= @List.mem_of_getElem?
abbrev CX:= @List.mem_append
abbrev CY:= @List.length_take
abbrev CZ:= @List.mem_singleton
abbrev C0:= @IntWalk.i64_in
abbrev C3:= @Nat.zero_le
abbrev C6:= @List.take_of_length_le
abbrev C9:= @Nat.le_refl
abbrev Da:= @List.length_drop
abbrev Db:= @List.mem_cons
abbrev Dc:= @Nat.le_trans
abbrev Dd:= @List.append_assoc
abbrev De:= @List.getElem?_map
abbrev Df:= @List.length_map
abbrev Dg:= @List.mem_append_right
abbrev Dh:= @List.eq_nil_of_length_eq_zero
abbrev Di:= @List.mem_append_left
abbrev Dj:= @List.length_cons
abbrev Dl:= @Nat.zero_add
abbrev Dm:= @List.nil_append
abbrev Do:= @List.nodup_iff_count
abbrev Dp:= @List.nodup_append
abbrev Dq:= @List.take_add_one
abbrev Dr:= @Nat.lt_of_lt_of_le
abbrev Dt:= @List.mem_map
abbrev Du:= @List.take_append_drop
abbrev Dv:= @List.getElem?_append_right
abbrev Dw:= @List.not_mem_nil
abbrev Dx:= @List.getElem?_take
abbrev Dy:= @Array.getElem?_eq_some_iff
abbrev Dz:= @Lib.run_eql_slice_nil
abbrev DA:= @List.append_nil
abbrev DB:= @List.drop_of_length_le
abbrev DC:= @List.getElem?_append_left
abbrev DD:= @List.mem_of_mem_take
abbrev DE:= @List.length_singleton
abbrev DF:= @List.filter_cons
abbrev DG:= @List.length_replicate
abbrev DH:= @Result.andThen_ok
abbrev DI:= @List.drop_append_of_le_length
abbrev DJ:= @List.pairwise_cons
abbrev DK:= @List.getElem?_drop
abbrev DL:= @List.mem_cons_of_mem
abbrev DM:= @Sem.run_bind
abbrev DN:= @List.count_append
abbrev DO:= @Array.length_toList
abbrev DP:= @List.drop_eq_getElem_cons
abbrev DQ:= @List.getElem?_of_mem
abbrev DR:= @Nat.lt_or_ge
abbrev DS:= @List.take_left'
abbrev DT:= @List.length_eraseIdx
abbrev DU:= @List.eraseIdx_eq_take_drop_succ
abbrev DV:= @List.take_append_of_le_length
abbrev DW:= @List.getElem?_toArray
abbrev DX:= @List.map_append
abbrev DY:= @Nat.eq_zero_or_pos
abbrev DZ:= @Sem.run_pure
abbrev D0:= @List.drop_eq_nil_of_le
abbrev D1:= @List.map_cons
abbrev D3:= @List.cons_append
abbrev D4:= @List.count_pos_iff
abbrev D5:= @List.getElem?_cons_zero
abbrev D6:= @List.length_nil
abbrev D7:= @Array.getElem?_setIfInBounds
abbrev D8:= @Option.mem_toList
abbrev D9:= @List.getElem?_eq_none
abbrev Ea:= @List.mem_flatMap
abbrev Eb:= @List.map_toArray
abbrev Ec:= @List.getD_eq_getElem?_getD
abbrev Ed:= @List.flatten_cons
abbrev Ee:= @List.ext_getElem?
abbrev Ef:= @List.mem_of_mem_drop
abbrev Eg:= @UInt8.toNat_ofNat'
abbrev Eh:= @List.filter_append
abbrev Ei:= @List.drop_left'
abbrev Ej:= @Nat.add_assoc
abbrev Ek:= @List.filter_eq_self
abbrev El:= @List.map_take
abbrev Em:= @List.length_set
abbrev En:= @List.map_drop
abbrev Eo:= @List.drop_drop
abbrev Ep:= @Option.isSome_iff_exists
abbrev Er:= @List.map_nil
abbrev Es:= @Nat.min_eq_left
abbrev Et:= @Calls.mono
abbrev Eu:= @List.take_take
abbrev Ew:= @List.size_toArray
abbrev Ex:= @List.pairwise_iff_getElem
abbrev Ey:= @Or.inl
abbrev Ez:= @Nat.sub_self
abbrev EE:= @List.drop_zero
abbrev EF:= @List.pairwise_append
abbrev EG:= @And.intro
abbrev EH:= @Int.toNat_natCast
abbrev EI:= @List.getElem?_cons_succ
abbrev EJ:= @Nat.mul_comm
abbrev EK:= @List.setIfInBounds_toArray
abbrev EL:= @List.set_append_right
abbrev EM:= @Option.map_some
abbrev EO:= @Value.slice.injEq
abbrev EP:= @List.any_eq_false
abbrev EQ:= @Nat.le_one_iff_eq_zero_or_eq_one
abbrev ER:= @List.take_succ_eq_append_getElem
abbrev ET:= @List.take_left
abbrev EU:= @Nat.mul_one
abbrev EV:= @List.map_set
abbrev EW:= @Bool.false_eq_true
abbrev EX:= @World.ownsRow_nil
abbrev EY:= @List.take_zero
abbrev EZ:= @IntWalk.u64_in
abbrev E3:= @Nat.pow_le_pow_right
abbrev E4:= @List.mem_of_getLast?
abbrev E5:= @List.length_pos_iff
abbrev E6:= @UInt8.toNat_inj
abbrev E7:= @List.nodup_cons
abbrev E8:= @List.any_append
abbrev Fd:= @World.ownsRow_made
abbrev Fe:= @List.find?_eq_none
abbrev Ff:= @Nat.add_sub_cancel_left
abbrev Fg:= @Nat.add_zero
abbrev Fh:= @Nat.div_div_eq_div_mul
abbrev Fk:= @Array.getElem?_eq_none
abbrev Fl:= @World.size_alloc
abbrev Fm:= @List.mem_flatten
abbrev Fo:= @List.any_eq_true
abbrev Fq:= @Below.heap_alloc
abbrev Fr:= @Nat.not_lt_zero
def val (b:List UInt8):Nat:=b.foldl (fun n x=>256*n+x.toNat) 0
def be:Nat->Nat->List UInt8
 | 0,_=>[]
 | k+1,n=>be k (n/256)++[UInt8.ofNat n]
theorem bX:∀k n,(be k n).length=k
 | 0,_=>rfl
 | k+1,n=>by show (be k (n/256)++[UInt8.ofNat n]).length=k+1;rw[CU,bX k];rfl
theorem j1 (b:List UInt8) (x:UInt8):val (b++[x])=256*val b+x.toNat:=by
 unfold val;rw[List.foldl_append];rfl
theorem mO:∀k n,val (be k n)=n%256^k
 | 0,n=>by rw[Nat.pow_zero,Nat.mod_one];rfl
 | k+1,n=>by
  show val (be k (n/256)++[UInt8.ofNat n])=_;have a:256^(k+1)=256*256^k:=by rw[Nat.pow_succ,EJ]
  rw[j1,mO k,Eg,a,Nat.mod_mul];omega
theorem jI:∀(k:Nat) (b:List UInt8),b.length=k->val b<256^k
 | 0,b,h=>by
  obtain rfl:=Dh h;decide
 | k+1,b,h=>by
  obtain⟨c,x,rfl⟩:∃c x,b=c++[x]:=by
   rcases List.eq_nil_or_concat b with a | ⟨c,x,a⟩
   ·subst a;simp at h
   exact⟨c,x,by simpa using a⟩
  have d:c.length=k:=by simpa using h
  have f:=jI k c d;have e:=x.toNat_lt;rw[j1,Nat.pow_succ];omega
def crcBit (x:Nat):Nat:=if x%2=1 then (x/2)^^^14514072000185962306 else x/2
def rP:Nat->Nat->Nat
 | 0,x=>x
 | k+1,x=>rP k (crcBit x)
def mC (x:Nat) (c:UInt8):Nat:=rP 8 (x^^^c.toNat)
def eI (x:Nat) (b:List UInt8):Nat:=b.foldl mC x
def crc (b:List UInt8):Nat:=18446744073709551615 - eI 18446744073709551615 b
theorem pu {x:Nat} (h:x<2^64):crcBit x<2^64:=by
 unfold crcBit
 split
 ·exact Nat.xor_lt_two_pow (by omega) (by decide)
 omega
theorem uI:∀k {x:Nat},x<2^64->rP k x<2^64
 | 0,_,h=>h
 | k+1,_,h=>uI k (pu h)
theorem tj {x:Nat} (c:UInt8) (h:x<2^64):mC x c<2^64:=
 uI 8 (Nat.xor_lt_two_pow h (Dr c.toNat_lt (by decide)))
theorem lK:∀(b:List UInt8) {x:Nat},x<2^64->eI x b<2^64
 | [],_,h=>h
 | c::b,_,h=>lK b (tj c h)
theorem yV (b:List UInt8):crc b<2^64:=by
 unfold crc;omega
theorem oN (x:Nat) (a b:List UInt8):eI x (a++b)=eI (eI x a) b:=List.foldl_append
namespace Cod
theorem pE {a:Nat} (h:a<2^63):a^^^2^63=2^63+a:=by
 refine Nat.eq_of_testBit_eq (fun i=>?_);rw[Nat.testBit_xor,Nat.testBit_two_pow];rcases Nat.lt_trichotomy i 63 with b | b | b
 ·rw[Nat.testBit_two_pow_add_gt b,decide_eq_false (by omega),Bool.xor_false]
 ·subst b;rw[Nat.testBit_two_pow_add_eq,decide_eq_true rfl,Bool.xor_true]
 have c:a<2^i:=Dr h (E3 (by decide) (by omega));have d:2^63+a<2^i:=Dr (by omega:2^63+a<2^64) (E3 (by decide) (by omega));rw[Nat.testBit_lt_two_pow c,Nat.testBit_lt_two_pow d,decide_eq_false (by omega)];rfl
theorem tN {a:Nat} (h:a<2^64):a^^^2^63=(a+2^63)%2^64:=by
 rcases DR a (2^63) with c | c
 ·rw[pE c];omega
 obtain⟨b,rfl⟩:∃b,a=2^63+b:=⟨a - 2^63,by omega⟩;rw[<-pE (by omega),Nat.xor_assoc,Nat.xor_self,Nat.xor_zero];rw[pE (by omega)];omega
def un (n:Int):Nat:=((n+9223372036854775808)%18446744073709551616).toNat
theorem tQ (n:Int):un n<2^64:=by unfold un;omega
def num (n:Int):List UInt8:=be 8 (un n)
theorem ag (n:Int):(num n).length=8:=bX 8 _
theorem zW (n:Int):val (num n)=un n:=by
 unfold num;rw[mO];exact Nat.mod_eq_of_lt (tQ n)
theorem oe:∀(k x j:Nat),j<k->(be k x)[j]? =some (UInt8.ofNat (x/256^(k - 1 - j)))
 | 0,x,j,h=>absurd h (Fr _)
 | k+1,x,j,h=>by
  show (be k (x/256)++[UInt8.ofNat x])[j]? =_;by_cases a:j<k
  ·rw[DC (by rw[bX];exact a),oe k (x/256) j a,Fh,<-Nat.pow_succ',show k+1 - 1 - j=k - 1 - j+1 by omega]
  obtain rfl:j=k:=by omega
  rw[Dv (by rw[bX];exact C9 _),bX,Ez,show j+1 - 1 - j=0 by omega];simp
theorem nZ (x i:Nat):(x:Int)/2^(8*i)%256=((UInt8.ofNat (x/256^i)).toNat:Int):=by
 have h:(2:Int)^(8*i)=((256^i:Nat):Int):=by
  rw[Int.pow_mul,Int.natCast_pow];rfl
 rw[h,Eg,<-Int.natCast_ediv];omega
end Cod
def Z (p:Prop):Prop:=p
theorem Z.o {p:Prop} (h:Z p):p:=h
theorem bZ {p:Prop} (h:p):Z p:=h
abbrev U (g i:Nat):Addr:=⟨g,i,none⟩
abbrev V (g:Nat):Option Addr:=some ⟨g,0,none⟩
@[match_pattern] abbrev I (x:Int):Value:=.int .i64 x
abbrev G (a:Option Addr) (n c:Nat):Option Value:=some (.slice a n c)
def Blk (w:World) (g:Nat) (t:TypeId) (cs:Array Value):Prop:=w.heap[g]? =some (.cells cs t (0,0))
structure aa (X:List Nat) (w w':World):Prop where
 os:w'.os=w.os
 tape:w'.tape=w.tape
 output:w'.output=w.output
 size:w.heap.size<=w'.heap.size
 block:∀g,g<w.heap.size->g∉X->w'.heap[g]? =w.heap[g]?
section
variable {w w' w1 w2:World} {X Y:List Nat} {g:Nat} {t:TypeId} {cs:Array Value}
theorem Blk.lt (h:Blk w g t cs):g<w.heap.size:=by
 rcases DR g w.heap.size with b | a
 ·exact b
 unfold Blk at h;rw[Fk a] at h;cases h
theorem Blk.cell (h:Blk w g t cs) (i:Nat):w.cell? (U g i)=cs[i]?:=cell_of_row w g i cs t (0,0) h
theorem Blk.frozen (h:Blk w g t cs) (i:Nat):w.frozen? (U g i)=false:=by
 unfold Blk at h;simp[World.frozen?,h]
theorem Blk.new (w:World) (t:TypeId) (cs:Array Value):Blk (w.alloc (.cells cs t)) w.heap.size t cs:=heap_alloc_new w _
theorem Blk.drew (h:Blk w g t cs):Blk w.drew g t cs:=h
theorem Blk.alloc (h:Blk w g t cs) (o:Obj):Blk (w.alloc o) g t cs:=(Fq w o g h.lt).trans h
theorem Blk.set_ (h:Blk w g t cs) (i:Nat) (u:Value):Blk (w.setCell (U g i) u) g t (cs.setIfInBounds i u):=by
 unfold Blk at h ⊢;simp[World.setCell,Array.getElem?_modify,h]
theorem Blk.far (h:Blk w g t cs) {p:Addr} (a:g≠p.block) (u:Value):Blk (w.setCell p u) g t cs:=(Below.heap_setCell w p u g a).trans h
theorem Blk.keep (h:Blk w g t cs) (b:aa X w w') (a:g∉X):Blk w' g t cs:=(b.block g h.lt a).trans h
theorem aa.refl (X:List Nat) (w:World):aa X w w:=⟨rfl,rfl,rfl,C9 _,fun _ _ _=>rfl⟩
theorem aa.trans (h:aa X w w1) (k:aa X w1 w2):aa X w w2:=
 ⟨k.os.trans h.os,k.tape.trans h.tape,k.output.trans h.output,Dc h.size k.size,
  fun g a b=>(k.block g (Dr a h.size) b).trans (h.block g a b)⟩
theorem aa.mono (h:aa X w w') (d:∀x∈X,x∈Y\/w.heap.size<=x):aa Y w w':=
 ⟨h.os,h.tape,h.output,h.size,fun g c e=>h.block g c fun b=>by
  rcases d g b with a | a
  ·exact e a
  omega⟩
theorem aa.nil (h:aa [] w w'):aa X w w':=h.mono (by simp)
theorem aa.drew (h:aa X w w'):aa X w w'.drew:=⟨h.os,h.tape,h.output,h.size,h.block⟩
theorem aa.alloc (h:aa X w w') (o:Obj):aa X w (w'.alloc o):=
 h.trans ⟨rfl,rfl,rfl,by simp,fun g a _=>Fq _ _ _ a⟩
theorem aa.setCell (h:aa X w w') {p:Addr} (a:p.block∈X\/w.heap.size<=p.block) (u:Value):aa X w (w'.setCell p u):=
 ⟨h.os,h.tape,h.output,by simpa [World.setCell] using h.size,fun g c b=>(Below.heap_setCell w' p u g (by
  rintro rfl;rcases a with a | a
  ·exact b a
  omega)).trans (h.block g c b)⟩
theorem aa.setRow (h:aa X w w') {g:Nat} (a:g∈X\/w.heap.size<=g) (cs:Array Value):aa X w (w'.setRow g cs):=
 ⟨h.os,h.tape,h.output,by simpa [World.setRow] using h.size,fun k c b=>(setRow_other w' g k cs (by
  rintro rfl;rcases a with a | a
  ·exact b a
  omega)).trans (h.block k c b)⟩
theorem aa.below (h:aa [] w w'):Below w.heap.size w w':=⟨h.os,h.tape,h.output,h.size,fun g a=>h.block g a (by simp)⟩
theorem aa.of_below {B:Nat} (h:Below B w w') (d:∀g,B<=g->g<w.heap.size->g∈X):aa X w w':=
 ⟨h.os,h.tape,h.output,h.size,fun g b c=>h.block g (by
  rcases DR g B with a | a
  ·exact a
  exact absurd (d g a b) c)⟩
theorem aa.grown {row:Option Nat} (h:w.grownBy w' row) (c:∀k,row=some k->k∈X):aa X w w':=
 ⟨h.os,h.tape,h.output,h.size,fun g a b=>h.block g a fun e=>b (c g e.symm)⟩
theorem Blk.ne_ {b:Nat} {c:TypeId} {cs':Array Value} (h:Blk w g t cs) (a:Blk w b c cs') (d:t≠c):g≠b:=by
 rintro rfl;unfold Blk at h a;rw[h] at a;injection a with a;injection a with _ a;exact d a
theorem aa.cell (h:aa X w w') {p:Addr} (a:p.block<w.heap.size) (b:p.block∉X):w'.cell? p=w.cell? p:=
 World.cell?_of_block (h.block _ a b)
theorem aa.frozen (h:aa X w w') {p:Addr} (a:p.block<w.heap.size) (b:p.block∉X):w'.frozen? p=w.frozen? p:=
 World.frozen?_of_block (h.block _ a b)
theorem aa.cellEq (h:aa X w w') {p:Addr} {v:Value} (a:w.cell? p=some v) (b:p.block∉X):w'.cell? p=some v:=(h.cell (block_lt_of_cell a) b).trans a
theorem aa.frozenEq (h:aa X w w') {p:Addr} {v:Value} (a:w.cell? p=some v) (b:w.frozen? p=false) (c:p.block∉X):w'.frozen? p=false:=(h.frozen (block_lt_of_cell a) c).trans b
end
theorem aa.drewN {X:List Nat} {w w':World} (h:aa X w w') (n:Nat):aa X w (w'.drewN n):=⟨h.os,h.tape,h.output,h.size,h.block⟩
theorem bw {P:Program} {f:FuncId} {args:Array Value} {w:World} {n:Nat} {v:Value}
 (h:Calls P f args (w.drewN n) fun e w'=>e=.returned v/\w.drewN n=w'):Calls P f args (w.drewN n) fun e w''=>e=.returned v/\∃m,w''=w.drewN m:=
 h.mono fun _ _ ⟨a,b⟩=>⟨a,n,b.symm⟩
def bv (b:UInt8):Value:=.int .u8 (b.toNat:Int)
def Bts (w:World) (A:Option Addr) (l:List UInt8):Prop:=
 l=[]\/∃g o,A=some (U g o)/\∀j v,l[j]? =some v->w.cell? (U g (o+j))=some (bv v)
section
variable {w w':World} {X:List Nat} {A:Option Addr} {l:List UInt8}
theorem Bts.nil:Bts w A []:=.inl rfl
theorem Bts.lt (h:Bts w A l) (a:l≠[]):∃g o,A=some (U g o)/\g<w.heap.size:=by
 rcases h with rfl | ⟨g,o,rfl,h⟩
 ·exact absurd rfl a
 cases l with
 | nil=>exact absurd rfl a
 | cons x l=>exact⟨g,o,rfl,block_lt_of_cell (h 0 x rfl)⟩
theorem Bts.keep (h:Bts w A l) (c:aa X w w') (d:∀a,A=some a->a.block∉X):Bts w' A l:=by
 rcases h with rfl | ⟨g,o,rfl,h⟩
 ·exact .inl rfl
 refine .inr ⟨g,o,rfl,fun j v b=>?_⟩;have:=h j v b;rw[c.cell (p:=(U g (o+j))) (block_lt_of_cell this) (d (U g o) rfl)];exact this
theorem Bts.take (h:Bts w A l) (k:Nat):Bts w A (l.take k):=by
 rcases h with rfl | ⟨g,o,rfl,h⟩
 ·exact .inl (by simp)
 refine .inr ⟨g,o,rfl,fun j v a=>h j v ?_⟩;rw[Dx] at a
 split at a
 ·exact a
 cases a
theorem Bts.drew_ (h:Bts w A l):Bts w.drew A l:=h
theorem BY (b:UInt8):(bv b).oneCell'=true:=rfl
end
theorem aO {P:Program} {w:World} {b:Array Oper} {rest:List Oper} {o:Oper} {a:Act} {Q:Exit->Act->World->Prop} (d:Region.wanted o (yielded b a.tmps)=true)
 (h:∀K:Act->World->Prop,(∀a w,wpList P b Q rest a w->K a w)->o.wp P a w K Q):wpList P b Q (o::rest) a w:=
 wpList_step fun K c=>by rw[if_pos d];exact h K c
theorem jL {α:Type} (L a:List α) (h:L.length=a.length):splice L 0 a=a:=by
 simp[splice,<-h]
theorem j8 {P:Program} {w:World} (r y z c:TypeId) (C:P.underlying r=some (.slice c)) (q:(P.info? c).map (·.size)=some 1)
 (g off a e:Nat) (A:Option Addr) (l:List UInt8) (h f:Nat) (F:l.length=h) (D:Bts w A l)
 (k:List UInt8) (t:TypeId) (u:Blk w g t (k.map bv).toArray) (B:off+a<=k.length):
 ∃w',(Builtin.copy_ #[r,y] z #[.slice (some (U g off)) a e,.slice A h f]).run P w=.ok (goInt ((min h a:Nat):Int)) w'/\
  Blk w' g t ((splice k off (l.take a)).map bv).toArray/\aa [g] w w':=by
 subst F
 have i:(l.take a).length=min l.length a:=by rw[CY];omega
 by_cases s:min l.length a=0
 ·have d:=run_copy_none (P:=P) w r y z c (some (U g off)) A a e l.length f C q s;have p:l.take a=[]:=Dh (by omega);refine⟨w,by rw[d,s];rfl,?_,aa.refl _ _⟩;rw[p];simpa [splice] using u
 ·rcases D with rfl | ⟨J,K,rfl,E⟩
  ·simp at s
  have m:((l.take a).map bv).length=min l.length a:=by rw[Df,i]
  have d:=run_copy_row (P:=P) w r y z c g off a e (U J K) l.length f _ t ((l.take a).map bv) C q u m
   (by
    intro j v n;rw[De] at n;cases o:(l.take a)[j]? with
    | none=>rw[o] at n;simp at n
    | some x=>
     rw[o] at n;simp only[EM,Option.some.injEq] at n;subst n;have:=E j x (by
      rw[Dx] at o
      split at o
      ·exact o
      simp at o)
     rw[Go.WideShapes.add_plain];exact this)
   (by rw[m];simp;omega)
   (by
    intro v H;obtain⟨b,_,rfl⟩:=Dt.1 H;rfl)
  rw[m] at d;refine⟨_,d,?_,(aa.refl [g] w).setRow (g:=g) (.inl (CZ.2 rfl)) _⟩;refine Eq.trans (setRow_heap w g _ _ t _ u) ?_;simp only[splice,DX,El,En,i,Dd]
theorem dx {P:Program} {w:World} {k:Array Oper} {rest:List Oper} {o:Oper} {a:Act} {Q:Exit->Act->World->Prop} (p:Region.wanted o (yielded k a.tmps)=true) (d s:Operand) (n r:TypeId)
 (D:o.op=.call { callee:=.builtin .copy,args:=#[d,s],argTypes:=#[n,r] }) (e:TypeId) (H:P.underlying n=some (.slice e)) (q:(P.info? e).map (·.size)=some 1)
 (g off b i:Nat) (A:Option Addr) (l:List UInt8) (c j:Nat) (z:a.eval d=.slice (some (U g off)) b i) (F:a.eval s=.slice A c j) (C:l.length=c) (x:Bts w A l)
 (f:List UInt8) (t:TypeId) (B:Blk w g t (f.map bv).toArray) (m:off+b<=f.length)
 (h:∀w',Z (Blk w' g t ((splice f off (l.take b)).map bv).toArray)->aa [g] w w'->wpList P k Q rest (a.put o.dst (goInt ((min c b:Nat):Int))) w'):
 wpList P k Q (o::rest) a w:=by
  refine aO p fun K y=>?_;obtain⟨w',E,u,v⟩:=j8 (P:=P) (w:=w) n r o.type e H q g off b i A l c j C x f t B m;unfold Oper.wp execOp;simp only[D,resolve,invoke,builtin,DM,DZ,DH,Eb,D1,Er,z,F,E];exact y _ _ (h w' (bZ u) v)
theorem eE {P:Program} {w:World} {b:Array Oper} {rest:List Oper} {o:Oper} {a:Act} {Q:Exit->Act->World->Prop} (m:Region.wanted o (yielded b a.tmps)=true) (c:TypeId) (x:Operand) (z:o.op=.load c x)
 (g off n:Nat) (C:a.eval x=.pointer (some (U g off))) (t:TypeId) (cs:List Value) (d:TypeDesc) (y:Blk w g t cs.toArray)
 (B:P.underlying c=some d) (D:(match d with | .struct _ | .array _ _=>true | _=>false)=true) (r:(P.info? c).map (·.size)=some n) (q:off+n<=cs.length)
 (h:wpList P b Q rest (a.put o.dst (.agg ((cs.drop off).take n).toArray)) w):wpList P b Q (o::rest) a w:=by
  refine aO m fun K u=>?_;have f:((cs.drop off).take n).length=n:=by rw[CY,Da];omega
  have s:=run_loadCells_list (P:=P) w (U g off) ((cs.drop off).take n) (fun j v l=>by
   rw[Go.WideShapes.add_plain,y.cell];rw[Dx] at l
   split at l
   ·rw[DK] at l;simpa using l
   simp at l)
  rw[f] at s;have k:(loadVar c (U g off)).run P w=.ok (.agg ((cs.drop off).take n).toArray) w:=by
   cases p:P.info? c with
   | none=>simp[p] at r
   | some i=>
    have A:i.size=n:=by simpa [p] using r
    have e:(isAgg c).run P w=.ok true w:=by
     unfold isAgg;rw[DM,run_underlying B w];cases d<;>simp_all
    simp[loadVar,DM,e,sizeOf,typeInfo,p,A,s]
  unfold Oper.wp execOp;simp only[z,C,Instr.loadAt,Instr.sureAddr,DM,DZ,DH,k];exact u _ _ h
theorem gp {P:Program} {w:World} {c:Array Oper} {rest:List Oper} {o:Oper} {a:Act} {Q:Exit->Act->World->Prop} (j:Region.wanted o (yielded c a.tmps)=true) (f:TypeId) (x y:Operand) (r:o.op=.store f x y)
 (g off:Nat) (u:a.eval x=.pointer (some (U g off))) (t:TypeId) (cs b:List Value) (z:a.eval y=.agg b.toArray) (m:Blk w g t cs.toArray)
 (n:(P.info? f).map (·.size)=some b.length) (d:off+b.length<=cs.length) (p:∀v∈b,v.oneCell'=true)
 (h:∀w',Z (Blk w' g t (splice cs off b).toArray)->aa [g] w w'->wpList P c Q rest (a.put o.dst undef) w'):wpList P c Q (o::rest) a w:=by
  refine aO j fun K q=>?_;have l:=run_storeCells_at P g off t b 0 cs.toArray w m (by simpa using d) p;have e:(storeVar f (U g off) (.agg b.toArray)).run P w=.ok () (w.setRow g (splice cs off b).toArray):=by
   cases k:P.info? f with
   | none=>simp[k] at n
   | some i=>
    have s:i.size=b.length:=by simpa [k] using n
    simp[storeVar,DM,sizeOf,typeInfo,k,s,Value.cells,l,splice]
  unfold Oper.wp execOp;simp only[r,u,z,Instr.storeAt,Instr.sureAddr,DM,DZ,DH,e];exact q _ _ (h _ (bZ (setRow_heap w g _ _ t _ m)) ((aa.refl [g] w).setRow (g:=g) (.inl (CZ.2 rfl)) _))
theorem dK (m k:Nat) (v:Value) (c:0<m):madeCells (Array.replicate m v) k=(List.replicate k v).toArray:=by
 apply Array.ext';apply Ee;intro j;by_cases a:j<k
 ·have b:j%m<m:=Nat.mod_lt _ c;simp[madeCells,a,b]
 simp[madeCells,a]
theorem tP {P:Program} {w:World} {o:Oper} {a:Act} {Q:Exit->Act->World->Prop} {K:Act->World->Prop} (t:TypeId) (x y:Operand) (p:o.op=.makeSlice t x y)
 (e:TypeId) (z:Value) (size bytes:Nat) (q:P.underlying t=some (.slice e)) (b:(P.info? e).map (fun i=>(i.zero,i.size,i.bytes))=some (some z,size,bytes))
 (k j:IntKind) (n c:Nat) (r:a.eval x=.int k (n:Int)) (s:a.eval y=.int j (c:Int)) (m:n<=c) (v:bytes*c<=281474976710656) (l:c<=9223372036854775807)
 (h:∀w',Z (Blk w' w.heap.size e (madeCells z.cells (c*size)))->aa [] w w'->Z (w'.heap.size=w.heap.size+1)->K (a.put o.dst (.slice (V w.heap.size) n c)) w'):
 o.wp P a w K Q:=by
  cases g:P.info? e with
  | none=>simp[g] at b
  | some i=>
   simp only[g,EM,Option.some.injEq,Prod.mk.injEq] at b;obtain⟨u,rfl,rfl⟩:=b;have f:(i.bytes:Int)*(c:Int)<=281474976710656:=by
    have h:((i.bytes*c:Nat):Int)<=281474976710656:=by omega
    rwa [Int.natCast_mul] at h
   have d:=run_make (P:=P) w t e i z q g u k j n c (by omega) (by omega) f (by omega);simp only[EH] at d;unfold Oper.wp execOp;simp only[p,r,s,DM,DZ,DH,d];exact h _ (bZ (Blk.new _ _ _)) ((aa.refl _ _).alloc _) (bZ (by simp))
theorem fR {P:Program} {w:World} {d:Array Oper} {rest:List Oper} {o:Oper} {a:Act} {Q:Exit->Act->World->Prop} (g:Region.wanted o (yielded d a.tmps)=true) (t:TypeId) (x y:Operand) (u:o.op=.makeSlice t x y)
 (e:TypeId) (z:Value) (size bytes:Nat) (v:P.underlying t=some (.slice e)) (b:(P.info? e).map (fun i=>(i.zero,i.size,i.bytes))=some (some z,size,bytes))
 (l k:IntKind) (n c:Nat) (A:a.eval x=.int l (n:Int)) (B:a.eval y=.int k (c:Int)) (j:n<=c) (s:bytes*c<=281474976710656) (f:c<=9223372036854775807)
 (h:∀w',Z (Blk w' w.heap.size e (madeCells z.cells (c*size)))->aa [] w w'->Z (w'.heap.size=w.heap.size+1)->wpList P d Q rest (a.put o.dst (.slice (V w.heap.size) n c)) w'):
 wpList P d Q (o::rest) a w:=
 aO g fun _ r=>tP t x y u e z size bytes v b l k n c A B j s f (fun w' m p q=>r _ _ (h w' m p q))
theorem cV {w w':World} {X:List Nat} {base:Nat} {e:TypeId} {size:Nat} {v:Value} {n:Nat} {d:List Value} (h:w.ownsRow base e size v n d) (j:aa X w w') (f:∀g,v.ownBlock=some g->g∉X):w'.ownsRow base e size v n d:=by
 refine⟨h.1,?_⟩;rcases h.2 with k | ⟨g,b,c,rfl,i,a,rest⟩
 ·exact .inl k
 refine .inr ⟨g,b,c,rfl,i,?_,rest⟩;exact(j.block g (Dy.1 a).1 (f g rfl)).trans a
theorem eN {w:World} {base:Nat} {e:TypeId} {size:Nat} {v:Value} {n:Nat} {i:List Value} (h:w.ownsRow base e size v n i) {g:Nat} (b:v.ownBlock=some g):base<=g/\∃a,Blk w g e a:=by
 rcases h.2 with ⟨rfl,_⟩ | ⟨j,d,a,rfl,f,c,rest⟩
 ·simp[Value.ownBlock] at b
 simp[Value.ownBlock] at b;subst b;exact⟨f,a,c⟩
theorem bK {w:World} {base:Nat} {e:TypeId} {A:Option Addr} {n c:Nat} {l:List UInt8} (h:w.ownsRow base e 1 (.slice A n c) n (l.map bv)):
 Bts w A l/\l.length=n/\n<=c/\c<=maxLen/\∀a,A=some a->base<=a.block/\a.block<w.heap.size/\∃b,Blk w a.block e b:=by
  have k:l.length=n:=by have:=h.1;simpa using this
  rcases h.2 with ⟨f,p⟩ | ⟨g,o,b,x,q,m,r,u,y,z⟩
  ·injection f with f h3 h4;subst f p h4;exact⟨.inl (Dh k),k,C9 _,by simp[maxLen],fun a i=>by cases i⟩
  injection x with hA _ hcap;subst hA hcap;have d:=h.cells (g:=g) rfl;refine⟨.inr ⟨g,0,rfl,fun j v s=>?_⟩,k,r,u,fun a i=>?_⟩
  ·have:=d j (bv v) (by simp[s]);rwa [Go.WideShapes.add_plain] at this
  cases i;exact⟨q,Blk.lt (cs:=b) (t:=e) m,b,m⟩
theorem iG {P:Program} {w:World} (t M base:Nat) (e:TypeId) (L:P.underlying t=some (.slice e)) (a:(P.info? e).map (fun i=>(i.zero,i.size,i.bytes))=some (some (.int .u8 0),1,1))
 (v:Value) (l k:List UInt8) (f:w.ownsRow base e 1 v l.length (l.map bv)) (A:Option Addr) (m c:Nat) (J:k.length=m) (Q:Bts w A k) (K:l.length+k.length<=140737488355328) (p:base<=w.heap.size):
 ∃d c' w',(Builtin.append_ #[t,t] M #[v,.slice A m c]).run P w=.ok (.slice d (l.length+m) c') w'/\w'.ownsRow base e 1 (.slice d (l.length+m) c') (l.length+m) ((l++k).map bv)/\
  w.grownBy w' v.ownBlock/\((Value.slice d (l.length+m) c').ownBlock=v.ownBlock\/(Value.slice d (l.length+m) c').ownBlock=some w.heap.size):=by
 subst J
 cases y:P.info? e with
 | none=>simp[y] at a
 | some i=>
  simp only[y,EM,Option.some.injEq,Prod.mk.injEq] at a;obtain⟨T,s,C⟩:=a;rcases Q with rfl | ⟨g,o,rfl,D⟩
  ·have q:∃d c',v=.slice d l.length c'/\l.length<=c':=by
    rcases f.2 with ⟨B,r⟩ | ⟨g,n,z,H,X,Y,D,_⟩
    ·exact⟨none,0,by rw[B,r],by omega⟩
    exact⟨_,n,H,D⟩
   obtain⟨d,c',rfl,F⟩:=q;refine⟨d,c',w,?_,by simpa using f,⟨rfl,rfl,rfl,C9 _,fun _ _ _=>rfl⟩,.inl rfl⟩;have R:∀(x:Option Addr) (c:Nat),(Builtin.firstCells 1 0 (.slice x 0 c)).run P w=.ok #[] w:=by
    intro x c;cases x<;>simp[Builtin.firstCells,loadCells,loadCellsFrom]
   cases d<;>simp[Builtin.append_,run_underlying L,sizeOf,typeInfo,y,s,Builtin.lenOf,F,R,storeCells]
  have J:k.length+l.length<=9223372036854775807:=by omega
  obtain⟨W,w',S,r,N,_,O⟩:=run_append_own_at (P:=P) w base t M e i (.int .u8 0) 1 1 L y T s C rfl (by decide) v l.length (l.map bv) f (U g o) k.length c (k.map bv) (by simp)
   (fun j u h=>by
    rw[Go.WideShapes.add_plain];rw[De] at h;cases E:k[j]? with
    | none=>rw[E] at h;simp at h
    | some x=>rw[E] at h;simp at h;subst h;exact D j x E)
   (fun u h=>by obtain⟨b,_,rfl⟩:=Dt.1 h;rfl) (by unfold maxLen;omega) (by omega) p
  have q:∃d c',W=.slice d (l.length+k.length) c':=by
   rcases r.2 with ⟨B,r⟩ | ⟨g,n,z,H,_⟩
   ·exact⟨none,0,by rw[B,r]⟩
   exact⟨_,n,H⟩
  obtain⟨d,c',rfl⟩:=q;exact⟨d,c',w',S,by rw[DX];exact r,N,O⟩
theorem ai {P:Program} {w:World} {f:Array Oper} {rest:List Oper} {o:Oper} {a:Act} {Q:Exit->Act->World->Prop} (p:Region.wanted o (yielded f a.tmps)=true) (s x:Operand) (t:TypeId)
 (C:o.op=.call { callee:=.builtin .append,args:=#[s,x],argTypes:=#[t,t] }) (base:Nat) (e:TypeId)
 (F:P.underlying t=some (.slice e)) (d:(P.info? e).map (fun i=>(i.zero,i.size,i.bytes))=some (some (.int .u8 0),1,1))
 (v:Value) (l k:List UInt8) (E:a.eval s=v) (n:w.ownsRow base e 1 v l.length (l.map bv)) (A:Option Addr) (m c:Nat) (H:a.eval x=.slice A m c) (B:k.length=m) (y:Bts w A k)
 (j:l.length+k.length<=140737488355328) (b:base<=w.heap.size)
 (h:∀g c' w',Z (w'.ownsRow base e 1 (.slice g (l.length+m) c') (l.length+m) ((l++k).map bv))->Z (w.grownBy w' v.ownBlock)-> 
  Z ((Value.slice g (l.length+m) c').ownBlock=v.ownBlock\/(Value.slice g (l.length+m) c').ownBlock=some w.heap.size)->wpList P f Q rest (a.put o.dst (.slice g (l.length+m) c')) w'):wpList P f Q (o::rest) a w:=by
 refine aO p fun K z=>?_
 obtain⟨g,c',w',D,q,r,u⟩:=iG (P:=P) (w:=w) t o.type base e F d v l k n A m c B y j b
 unfold Oper.wp execOp
 simp only[C,resolve,invoke,builtin,DM,DZ,DH,Eb,D1,Er,E,H,D]
 exact z _ _ (h g c' w' (bZ q) (bZ r) (bZ u))
theorem jy {P:Program} {w:World} {o:Oper} {a:Act} {K:Act->World->Prop} {Q:Exit->Act->World->Prop} (s x:Operand) (t:TypeId)
 (y:o.op=.call { callee:=.builtin .append,args:=#[s,x],argTypes:=#[t,t] }) (base:Nat) (e:TypeId)
 (C:P.underlying t=some (.slice e)) (d:(P.info? e).map (fun i=>(i.zero,i.size,i.bytes))=some (some (.int .u8 0),1,1))
 (v:Value) (l k:List UInt8) (B:a.eval s=v) (j:w.ownsRow base e 1 v l.length (l.map bv)) (A:Option Addr) (m c:Nat) (D:a.eval x=.slice A m c) (u:k.length=m) (r:Bts w A k)
 (g:l.length+k.length<=140737488355328) (b:base<=w.heap.size)
 (h:∀f c' w',Z (w'.ownsRow base e 1 (.slice f (l.length+m) c') (l.length+m) ((l++k).map bv))->Z (w.grownBy w' v.ownBlock)-> 
  Z ((Value.slice f (l.length+m) c').ownBlock=v.ownBlock\/(Value.slice f (l.length+m) c').ownBlock=some w.heap.size)->K (a.put o.dst (.slice f (l.length+m) c')) w'):
 Oper.wp P o a w K Q:=by
  obtain⟨f,c',w',z,n,p,q⟩:=iG (P:=P) (w:=w) t o.type base e C d v l k j A m c u r g b;unfold Oper.wp execOp;simp only[y,resolve,invoke,builtin,DM,DZ,DH,Eb,D1,Er,B,D,z];exact h f c' w' (bZ n) (bZ p) (bZ q)
theorem mc {P:Program} {w:World} (f d e:TypeId) (p:P.underlying f=some (.slice e)) (k:P.underlying e=some (.int .u8)) (j:P.underlying d=some .string)
 (A:Option Addr) (l:List UInt8) (n c:Nat) (r:l.length=n) (q:Bts w A l):(convert f d (.slice A n c)).run P w=.ok (.string ⟨l.toArray⟩) w:=by
  subst r;rcases q with rfl | ⟨g,o,rfl,h⟩
  ·simp only[D6];rw[run_convert_bytes_string w f d e A 0 c p k j];cases A with
   | none=>simp[Conv.bytesToString];rfl
   | some a=>
    have:=run_bytesToString (P:=P) w a 0 c [] (by simp[loadCells,loadCellsFrom]);exact this
  have:=run_convert_bytes_arg (P:=P) w f e p k g o l.length c (l.map fun b=>(b.toNat:Int)) (by simp) (fun i m=>by
   have:=h i l[i] (CT m);rw[this];simp[bv,m]) d j
  rw[this];simp[strOfNums,Function.comp_def]
theorem br {P:Program} {w:World} {d:Array Oper} {rest:List Oper} {o:Oper} {a:Act} {Q:Exit->Act->World->Prop} (g:Region.wanted o (yielded d a.tmps)=true) (f b:TypeId) (x:Operand) (q:o.op=.convert f b x) (e:TypeId)
 (r:P.underlying f=some (.slice e)) (m:P.underlying e=some (.int .u8)) (k:P.underlying b=some .string)
 (A:Option Addr) (l:List UInt8) (n c:Nat) (s:a.eval x=.slice A n c) (p:l.length=n) (i:Bts w A l)
 (h:wpList P d Q rest (a.put o.dst (.string ⟨l.toArray⟩)) w):wpList P d Q (o::rest) a w:=by
  refine aO g fun K j=>?_;unfold Oper.wp execOp;simp only[q,s,DM,DZ,DH,mc f b e r m k A l n c p i];exact j _ _ h
end Go.Proofs.YtmlmfpikncogpaaGreat
